/- Walk of the reference's test of a specification. Conditions: none. -/
import Derived.Test.YtmjhfklmlcnofaaK3
import Derived.Test.YtmjhfklmlcnofaaV5
import Derived.Test.YtmjhfklmlcnofaaV1
import Derived.Lib.RuneCount
namespace Go.Proofs.Ytmjhfklmlcnofaa.Am
open Go Go.Proofs
set_option linter.unusedVariables false
set_option linter.unusedSimpArgs false
set_option maxRecDepth 100000
set_option maxHeartbeats 8000000
theorem l13Lay_k (s : SpecM) (vt : Value) (I h : Heap) (hI : Sub I h) (hs : RTasks I vt s.tasks) (hsm : s.small) (hf : s.fit) :
    ACalls Try.prog 0 43 #[.agg #[.int .i64 s.conds, vt]] h
    fun v h' => ∃ tv mv L, v = .tuple #[.agg #[.int .i64 (s.conds + s.tasks.length), tv, .int .i64 0, .int .i64 1], mv] ∧ h' = h ++ L ∧ RTrs (h ++ L) tv (trsM s) ∧ Sl (h ++ L) mv 3 ((movesM s).map MoveM.cells) ∧ flat tv = true ∧ flat mv = true :=
  (l13Lay_ok s vt I h hI hs hsm hf).mono fun v h' ⟨tv, mv, L, q1, q2, q3, q4⟩ => ⟨tv, mv, L, q1, q2, q3, q4, q3.flat, q4.flat⟩
theorem specGoodSpec_ok (s : SpecM) (vt : Value) (I h : Heap) (hI : Sub I h) (hs : RTasks I vt s.tasks) (hsm : s.small) :
    ACalls Try.prog 0 23 #[.agg #[.int .i64 s.conds, vt]] h
    fun v h' => v = .bool (specOk s) ∧ h' = h := by
  refine acalls_pure (.inl rfl) ?_
  have hfl := hs.flat
  have hRT := hs
  obtain ⟨b, c, rfl, hcc, _⟩ := hs.form
  have hlen := hsm.1
  rcases Bool.eq_false_or_eq_true (decide (2 ≤ s.conds ∧ s.conds ≤ 8)) with h1 | h1
  · rcases Bool.eq_false_or_eq_true (decide (1 ≤ (s.tasks.length : Int) ∧ (s.tasks.length : Int) ≤ 6)) with h2 | h2
    · have h1' := of_decide_eq_true h1
      have h2' := of_decide_eq_true h2
      refine Z36 Try.func23 rfl Try.ntmps23 (by simp) (by dsimp only [Try.f23]) ?_
      repeat' (first | ((with_reducible refine eq_go ?_); simp only [stp, ev, ZB, reduceIte, Nat.reduceEqDiff, Z2x, Z13, Zy, Ze, ZH, ldv, stv, vcs, fldA, blt, lenV, Z10, Zg, Z14, Zw, Z33, Nat.reduceAdd, Nat.reduceMul, Nat.reduceLeDiff, splice, newB, Ty.t3, Ty.t30, Ty.t32, Ty.t68, Ty.t70, Ty.t72, Ty.t86, Ty.t89, Ty.t95, *]; rfl) | (with_reducible first | refine aw_then ?_ | refine aw_skip ?_ | refine aw_ret ?_ | refine aw_exit ?_ | refine aw_block ?_ | refine xr_reg (by decide +kernel) ?_ | refine xr_nil ?_ | refine k_norm ?_ | refine k_ret ?_ | refine k_exit ?_ | refine b_norm ?_ | refine b_ret ?_ | refine b_exit ?_ | refine b_past (by decide) ?_) | (refine Ty.c40 (args := ?_) (K := ?_) ?_ ?_ ?_; rotate_left 2) | (refine Ty.c42 (args := ?_) (K := ?_) ?_ ?_ ?_; rotate_left 2) | (refine Ty.c43 (args := ?_) (K := ?_) ?_ ?_ ?_; rotate_left 2) | (refine Ty.c44 (args := ?_) (K := ?_) ?_ ?_ ?_; rotate_left 2) | (refine xr_do (v := ?_) (h' := ?_) (by exact rfl) ?_ ?_; rotate_left 2) | (refine xr_st (v := ?_) (h' := ?_) (by exact rfl) ?_ ?_; rotate_left 2) | (refine xr_g (b := ?_) (by exact rfl) ?_ ?_; rotate_left 1; (· simp only [ev, Zb, reduceIte, Nat.reduceEqDiff, Z8, Z5, *]; rfl)) | (with_reducible first | refine gw_tt ?_ | refine gw_ff ?_ | refine gw_tf ?_ | refine gw_ft ?_ | refine gw_un ?_) | refine gw_if (fun hb => ?_) (fun hb => ?_) | (refine aw_c (b := ?_) (by decide) ?_ ?_; rotate_left 1; (· simp only [ev, Zb, reduceIte, Nat.reduceEqDiff, *]; rfl)) | (with_reducible first | refine cw_t ?_ | refine cw_f ?_) | refine cw_if (fun hb => ?_) (fun hb => ?_) | (refine r_ret (vs := ?_) ?_ ?_; rotate_left 1; (· simp only [resV, ev, Zb, reduceIte, Nat.reduceEqDiff, Zj, *]; rfl)) | (with_reducible exact l1In_ok _ _ _ _) | ((with_reducible refine l13Task_ok s _ _ I _ ?_ ?_ ?_ ?_ ?_); (· first | assumption | exact Sub.refl _ | exact Sub.app ‹_› _ | exact Sub.app (Sub.refl _) _); (· assumption); (· assumption); (· first | omega | (simp only [Z2]; omega)); (· first | omega | (simp only [Z2]; omega))) | ((with_reducible refine l13Lay_k s _ I _ ?_ ?_ ?_ ?_); (· first | assumption | exact Sub.refl _ | exact Sub.app ‹_› _ | exact Sub.app (Sub.refl _) _); (· assumption); (· assumption); (· assumption)) | ((with_reducible refine specGoodFlow_ok ⟨s.conds + s.tasks.length, trsM s⟩ _ _ _ ?_ _ ?_ ?_ ?_); rotate_left 1; (· exact Sub.refl _); (· assumption); (· assumption)) | ((with_reducible refine Z2w (n := 43) ?_); rintro _ _ ⟨tv, mv, L, rfl, rfl, hrs, hms, hft, hfm⟩) | ((with_reducible refine Z2w ?_); rintro _ _ ⟨rfl, hh⟩; replace hh := hh.symm; subst hh))
      refine aw_for [1, 19] (fun k T h' => h' = h ++ [⟨2, 1, [.int .i64 s.conds, .slice b s.tasks.length c]⟩] ∧ T 20 = .int .i64 k ∧ tasksOk s k = true) s.tasks.length (k0 := 0) (Nat.zero_le _) ⟨rfl, rfl, rfl⟩ ?_
      rintro k T h' hk hR ⟨rfl, h18, hall⟩
      simp only [Z37, Z38, Z39, implies_true, and_true, stp, ev, ZB, reduceIte, Nat.reduceEqDiff, Z2x, Z13, Zy] at hR
      rcases Nat.lt_or_ge k s.tasks.length with hkn | hkn
      · have h3 : (k : Int) < s.tasks.length := by omega
        rcases Bool.eq_false_or_eq_true (taskOk s.conds s.tasks.length k (s.tasks.getD k TaskM.nil)) with ht | ht
        · have hgo := tasksOk_succ hall ht
          repeat' (first | ((with_reducible refine eq_go ?_); simp only [stp, ev, ZB, reduceIte, Nat.reduceEqDiff, Z2x, Z13, Zy, Ze, ZH, ldv, stv, vcs, fldA, blt, lenV, Z10, Zg, Z14, Zw, Z33, Nat.reduceAdd, Nat.reduceMul, Nat.reduceLeDiff, splice, newB, Ty.t3, Ty.t30, Ty.t32, Ty.t68, Ty.t70, Ty.t72, Ty.t86, Ty.t89, Ty.t95, *]; rfl) | (with_reducible first | refine aw_then ?_ | refine aw_skip ?_ | refine aw_ret ?_ | refine aw_exit ?_ | refine aw_block ?_ | refine xr_reg (by decide +kernel) ?_ | refine xr_nil ?_ | refine k_norm ?_ | refine k_ret ?_ | refine k_exit ?_ | refine b_norm ?_ | refine b_ret ?_ | refine b_exit ?_ | refine b_past (by decide) ?_) | (refine Ty.c40 (args := ?_) (K := ?_) ?_ ?_ ?_; rotate_left 2) | (refine Ty.c42 (args := ?_) (K := ?_) ?_ ?_ ?_; rotate_left 2) | (refine Ty.c43 (args := ?_) (K := ?_) ?_ ?_ ?_; rotate_left 2) | (refine Ty.c44 (args := ?_) (K := ?_) ?_ ?_ ?_; rotate_left 2) | (refine xr_do (v := ?_) (h' := ?_) (by exact rfl) ?_ ?_; rotate_left 2) | (refine xr_st (v := ?_) (h' := ?_) (by exact rfl) ?_ ?_; rotate_left 2) | (refine xr_g (b := ?_) (by exact rfl) ?_ ?_; rotate_left 1; (· simp only [ev, Zb, reduceIte, Nat.reduceEqDiff, Z8, Z5, *]; rfl)) | (with_reducible first | refine gw_tt ?_ | refine gw_ff ?_ | refine gw_tf ?_ | refine gw_ft ?_ | refine gw_un ?_) | refine gw_if (fun hb => ?_) (fun hb => ?_) | (refine aw_c (b := ?_) (by decide) ?_ ?_; rotate_left 1; (· simp only [ev, Zb, reduceIte, Nat.reduceEqDiff, *]; rfl)) | (with_reducible first | refine cw_t ?_ | refine cw_f ?_) | refine cw_if (fun hb => ?_) (fun hb => ?_) | (refine r_ret (vs := ?_) ?_ ?_; rotate_left 1; (· simp only [resV, ev, Zb, reduceIte, Nat.reduceEqDiff, Zj, *]; rfl)) | (with_reducible exact l1In_ok _ _ _ _) | ((with_reducible refine l13Task_ok s _ _ I _ ?_ ?_ ?_ ?_ ?_); (· first | assumption | exact Sub.refl _ | exact Sub.app ‹_› _ | exact Sub.app (Sub.refl _) _); (· assumption); (· assumption); (· first | omega | (simp only [Z2]; omega)); (· first | omega | (simp only [Z2]; omega))) | ((with_reducible refine l13Lay_k s _ I _ ?_ ?_ ?_ ?_); (· first | assumption | exact Sub.refl _ | exact Sub.app ‹_› _ | exact Sub.app (Sub.refl _) _); (· assumption); (· assumption); (· assumption)) | ((with_reducible refine specGoodFlow_ok ⟨s.conds + s.tasks.length, trsM s⟩ _ _ _ ?_ _ ?_ ?_ ?_); rotate_left 1; (· exact Sub.refl _); (· assumption); (· assumption)) | ((with_reducible refine Z2w (n := 43) ?_); rintro _ _ ⟨tv, mv, L, rfl, rfl, hrs, hms, hft, hfm⟩) | ((with_reducible refine Z2w ?_); rintro _ _ ⟨rfl, hh⟩; replace hh := hh.symm; subst hh))
          refine ⟨by first | assumption | omega, ?_, ?_⟩
          · simp only [Z37, Z38, Z39, implies_true, and_true, ZB, stp, ev, reduceIte, Nat.reduceEqDiff, Z2x, Z13, Zy, *]
          refine ⟨rfl, ?_, hgo⟩
          simp only [Zb, reduceIte, Nat.reduceEqDiff]
          rw [wrap_id (by omega)]; rfl
        · have hbad := tasksOk_bad hkn ht
          repeat' (first | ((with_reducible refine eq_go ?_); simp only [stp, ev, ZB, reduceIte, Nat.reduceEqDiff, Z2x, Z13, Zy, Ze, ZH, ldv, stv, vcs, fldA, blt, lenV, Z10, Zg, Z14, Zw, Z33, Nat.reduceAdd, Nat.reduceMul, Nat.reduceLeDiff, splice, newB, Ty.t3, Ty.t30, Ty.t32, Ty.t68, Ty.t70, Ty.t72, Ty.t86, Ty.t89, Ty.t95, *]; rfl) | (with_reducible first | refine aw_then ?_ | refine aw_skip ?_ | refine aw_ret ?_ | refine aw_exit ?_ | refine aw_block ?_ | refine xr_reg (by decide +kernel) ?_ | refine xr_nil ?_ | refine k_norm ?_ | refine k_ret ?_ | refine k_exit ?_ | refine b_norm ?_ | refine b_ret ?_ | refine b_exit ?_ | refine b_past (by decide) ?_) | (refine Ty.c40 (args := ?_) (K := ?_) ?_ ?_ ?_; rotate_left 2) | (refine Ty.c42 (args := ?_) (K := ?_) ?_ ?_ ?_; rotate_left 2) | (refine Ty.c43 (args := ?_) (K := ?_) ?_ ?_ ?_; rotate_left 2) | (refine Ty.c44 (args := ?_) (K := ?_) ?_ ?_ ?_; rotate_left 2) | (refine xr_do (v := ?_) (h' := ?_) (by exact rfl) ?_ ?_; rotate_left 2) | (refine xr_st (v := ?_) (h' := ?_) (by exact rfl) ?_ ?_; rotate_left 2) | (refine xr_g (b := ?_) (by exact rfl) ?_ ?_; rotate_left 1; (· simp only [ev, Zb, reduceIte, Nat.reduceEqDiff, Z8, Z5, *]; rfl)) | (with_reducible first | refine gw_tt ?_ | refine gw_ff ?_ | refine gw_tf ?_ | refine gw_ft ?_ | refine gw_un ?_) | refine gw_if (fun hb => ?_) (fun hb => ?_) | (refine aw_c (b := ?_) (by decide) ?_ ?_; rotate_left 1; (· simp only [ev, Zb, reduceIte, Nat.reduceEqDiff, *]; rfl)) | (with_reducible first | refine cw_t ?_ | refine cw_f ?_) | refine cw_if (fun hb => ?_) (fun hb => ?_) | (refine r_ret (vs := ?_) ?_ ?_; rotate_left 1; (· simp only [resV, ev, Zb, reduceIte, Nat.reduceEqDiff, Zj, *]; rfl)) | (with_reducible exact l1In_ok _ _ _ _) | ((with_reducible refine l13Task_ok s _ _ I _ ?_ ?_ ?_ ?_ ?_); (· first | assumption | exact Sub.refl _ | exact Sub.app ‹_› _ | exact Sub.app (Sub.refl _) _); (· assumption); (· assumption); (· first | omega | (simp only [Z2]; omega)); (· first | omega | (simp only [Z2]; omega))) | ((with_reducible refine l13Lay_k s _ I _ ?_ ?_ ?_ ?_); (· first | assumption | exact Sub.refl _ | exact Sub.app ‹_› _ | exact Sub.app (Sub.refl _) _); (· assumption); (· assumption); (· assumption)) | ((with_reducible refine specGoodFlow_ok ⟨s.conds + s.tasks.length, trsM s⟩ _ _ _ ?_ _ ?_ ?_ ?_); rotate_left 1; (· exact Sub.refl _); (· assumption); (· assumption)) | ((with_reducible refine Z2w (n := 43) ?_); rintro _ _ ⟨tv, mv, L, rfl, rfl, hrs, hms, hft, hfm⟩) | ((with_reducible refine Z2w ?_); rintro _ _ ⟨rfl, hh⟩; replace hh := hh.symm; subst hh))
          refine ⟨?_, _, rfl⟩
          simp only [oneOf, specOk, hbad, Bool.false_and, Bool.and_false]
      · have h3 : ¬ (k : Int) < s.tasks.length := by omega
        obtain rfl : k = s.tasks.length := by omega
        have hf := spec_fit h1' (by omega) hall
        have hns := trsM_small hf
        repeat' (first | (with_reducible first | refine aw_parkR 10 ?_) | ((with_reducible refine eq_go ?_); simp only [stp, ev, ZB, reduceIte, Nat.reduceEqDiff, Z2x, Z13, Zy, Ze, ZH, ldv, stv, vcs, fldA, blt, lenV, Z10, Zg, Z14, Zw, Z33, Nat.reduceAdd, Nat.reduceMul, Nat.reduceLeDiff, splice, newB, Ty.t3, Ty.t30, Ty.t32, Ty.t68, Ty.t70, Ty.t72, Ty.t86, Ty.t89, Ty.t95, *]; rfl) | (with_reducible first | refine aw_then ?_ | refine aw_skip ?_ | refine aw_ret ?_ | refine aw_exit ?_ | refine aw_block ?_ | refine xr_reg (by decide +kernel) ?_ | refine xr_nil ?_ | refine k_norm ?_ | refine k_ret ?_ | refine k_exit ?_ | refine b_norm ?_ | refine b_ret ?_ | refine b_exit ?_ | refine b_past (by decide) ?_) | (refine Ty.c40 (args := ?_) (K := ?_) ?_ ?_ ?_; rotate_left 2) | (refine Ty.c42 (args := ?_) (K := ?_) ?_ ?_ ?_; rotate_left 2) | (refine Ty.c43 (args := ?_) (K := ?_) ?_ ?_ ?_; rotate_left 2) | (refine Ty.c44 (args := ?_) (K := ?_) ?_ ?_ ?_; rotate_left 2) | (refine xr_do (v := ?_) (h' := ?_) (by exact rfl) ?_ ?_; rotate_left 2) | (refine xr_st (v := ?_) (h' := ?_) (by exact rfl) ?_ ?_; rotate_left 2) | (refine xr_g (b := ?_) (by exact rfl) ?_ ?_; rotate_left 1; (· simp only [ev, Zb, reduceIte, Nat.reduceEqDiff, Z8, Z5, *]; rfl)) | (with_reducible first | refine gw_tt ?_ | refine gw_ff ?_ | refine gw_tf ?_ | refine gw_ft ?_ | refine gw_un ?_) | refine gw_if (fun hb => ?_) (fun hb => ?_) | (refine aw_c (b := ?_) (by decide) ?_ ?_; rotate_left 1; (· simp only [ev, Zb, reduceIte, Nat.reduceEqDiff, *]; rfl)) | (with_reducible first | refine cw_t ?_ | refine cw_f ?_) | refine cw_if (fun hb => ?_) (fun hb => ?_) | (refine r_ret (vs := ?_) ?_ ?_; rotate_left 1; (· simp only [resV, ev, Zb, reduceIte, Nat.reduceEqDiff, Zj, *]; rfl)) | (with_reducible exact l1In_ok _ _ _ _) | ((with_reducible refine l13Task_ok s _ _ I _ ?_ ?_ ?_ ?_ ?_); (· first | assumption | exact Sub.refl _ | exact Sub.app ‹_› _ | exact Sub.app (Sub.refl _) _); (· assumption); (· assumption); (· first | omega | (simp only [Z2]; omega)); (· first | omega | (simp only [Z2]; omega))) | ((with_reducible refine l13Lay_k s _ I _ ?_ ?_ ?_ ?_); (· first | assumption | exact Sub.refl _ | exact Sub.app ‹_› _ | exact Sub.app (Sub.refl _) _); (· assumption); (· assumption); (· assumption)) | ((with_reducible refine specGoodFlow_ok ⟨s.conds + s.tasks.length, trsM s⟩ _ _ _ ?_ _ ?_ ?_ ?_); rotate_left 1; (· exact Sub.refl _); (· assumption); (· assumption)) | ((with_reducible refine Z2w (n := 43) ?_); rintro _ _ ⟨tv, mv, L, rfl, rfl, hrs, hms, hft, hfm⟩) | ((with_reducible refine Z2w ?_); rintro _ _ ⟨rfl, hh⟩; replace hh := hh.symm; subst hh))
        refine ⟨?_⟩
        have hrs2 := hrs.sub ((Sub.refl _).app [⟨2, 1, [.int .i64 (s.conds + s.tasks.length), tv, .int .i64 0, .int .i64 1]⟩])
        simp only [Z7, Zc, Zd] at hrs2
        clear hrs
        repeat' (first | ((with_reducible refine eq_go ?_); simp only [stp, ev, ZB, reduceIte, Nat.reduceEqDiff, Z2x, Z13, Zy, Ze, ZH, ldv, stv, vcs, fldA, blt, lenV, Z10, Zg, Z14, Zw, Z33, Nat.reduceAdd, Nat.reduceMul, Nat.reduceLeDiff, splice, newB, Ty.t3, Ty.t30, Ty.t32, Ty.t68, Ty.t70, Ty.t72, Ty.t86, Ty.t89, Ty.t95, *]; rfl) | (with_reducible first | refine aw_then ?_ | refine aw_skip ?_ | refine aw_ret ?_ | refine aw_exit ?_ | refine aw_block ?_ | refine xr_reg (by decide +kernel) ?_ | refine xr_nil ?_ | refine k_norm ?_ | refine k_ret ?_ | refine k_exit ?_ | refine b_norm ?_ | refine b_ret ?_ | refine b_exit ?_ | refine b_past (by decide) ?_) | (refine Ty.c40 (args := ?_) (K := ?_) ?_ ?_ ?_; rotate_left 2) | (refine Ty.c42 (args := ?_) (K := ?_) ?_ ?_ ?_; rotate_left 2) | (refine Ty.c43 (args := ?_) (K := ?_) ?_ ?_ ?_; rotate_left 2) | (refine Ty.c44 (args := ?_) (K := ?_) ?_ ?_ ?_; rotate_left 2) | (refine xr_do (v := ?_) (h' := ?_) (by exact rfl) ?_ ?_; rotate_left 2) | (refine xr_st (v := ?_) (h' := ?_) (by exact rfl) ?_ ?_; rotate_left 2) | (refine xr_g (b := ?_) (by exact rfl) ?_ ?_; rotate_left 1; (· simp only [ev, Zb, reduceIte, Nat.reduceEqDiff, Z8, Z5, *]; rfl)) | (with_reducible first | refine gw_tt ?_ | refine gw_ff ?_ | refine gw_tf ?_ | refine gw_ft ?_ | refine gw_un ?_) | refine gw_if (fun hb => ?_) (fun hb => ?_) | (refine aw_c (b := ?_) (by decide) ?_ ?_; rotate_left 1; (· simp only [ev, Zb, reduceIte, Nat.reduceEqDiff, *]; rfl)) | (with_reducible first | refine cw_t ?_ | refine cw_f ?_) | refine cw_if (fun hb => ?_) (fun hb => ?_) | (refine r_ret (vs := ?_) ?_ ?_; rotate_left 1; (· simp only [resV, ev, Zb, reduceIte, Nat.reduceEqDiff, Zj, *]; rfl)) | (with_reducible exact l1In_ok _ _ _ _) | ((with_reducible refine l13Task_ok s _ _ I _ ?_ ?_ ?_ ?_ ?_); (· first | assumption | exact Sub.refl _ | exact Sub.app ‹_› _ | exact Sub.app (Sub.refl _) _); (· assumption); (· assumption); (· first | omega | (simp only [Z2]; omega)); (· first | omega | (simp only [Z2]; omega))) | ((with_reducible refine l13Lay_k s _ I _ ?_ ?_ ?_ ?_); (· first | assumption | exact Sub.refl _ | exact Sub.app ‹_› _ | exact Sub.app (Sub.refl _) _); (· assumption); (· assumption); (· assumption)) | ((with_reducible refine specGoodFlow_ok ⟨s.conds + s.tasks.length, trsM s⟩ _ _ _ ?_ _ ?_ ?_ ?_); rotate_left 1; (· exact Sub.refl _); (· assumption); (· assumption)) | ((with_reducible refine Z2w (n := 43) ?_); rintro _ _ ⟨tv, mv, L, rfl, rfl, hrs, hms, hft, hfm⟩) | ((with_reducible refine Z2w ?_); rintro _ _ ⟨rfl, hh⟩; replace hh := hh.symm; subst hh))
        refine ⟨?_, _, rfl⟩
        simp only [oneOf, specOk, h1, h2, hall, Bool.true_and]; rfl
    · refine Z36 Try.func23 rfl Try.ntmps23 (by simp) (by dsimp only [Try.f23]) ?_
      repeat' (first | ((with_reducible refine eq_go ?_); simp only [stp, ev, ZB, reduceIte, Nat.reduceEqDiff, Z2x, Z13, Zy, Ze, ZH, ldv, stv, vcs, fldA, blt, lenV, Z10, Zg, Z14, Zw, Z33, Nat.reduceAdd, Nat.reduceMul, Nat.reduceLeDiff, splice, newB, Ty.t3, Ty.t30, Ty.t32, Ty.t68, Ty.t70, Ty.t72, Ty.t86, Ty.t89, Ty.t95, *]; rfl) | (with_reducible first | refine aw_then ?_ | refine aw_skip ?_ | refine aw_ret ?_ | refine aw_exit ?_ | refine aw_block ?_ | refine xr_reg (by decide +kernel) ?_ | refine xr_nil ?_ | refine k_norm ?_ | refine k_ret ?_ | refine k_exit ?_ | refine b_norm ?_ | refine b_ret ?_ | refine b_exit ?_ | refine b_past (by decide) ?_) | (refine Ty.c40 (args := ?_) (K := ?_) ?_ ?_ ?_; rotate_left 2) | (refine Ty.c42 (args := ?_) (K := ?_) ?_ ?_ ?_; rotate_left 2) | (refine Ty.c43 (args := ?_) (K := ?_) ?_ ?_ ?_; rotate_left 2) | (refine Ty.c44 (args := ?_) (K := ?_) ?_ ?_ ?_; rotate_left 2) | (refine xr_do (v := ?_) (h' := ?_) (by exact rfl) ?_ ?_; rotate_left 2) | (refine xr_st (v := ?_) (h' := ?_) (by exact rfl) ?_ ?_; rotate_left 2) | (refine xr_g (b := ?_) (by exact rfl) ?_ ?_; rotate_left 1; (· simp only [ev, Zb, reduceIte, Nat.reduceEqDiff, Z8, Z5, *]; rfl)) | (with_reducible first | refine gw_tt ?_ | refine gw_ff ?_ | refine gw_tf ?_ | refine gw_ft ?_ | refine gw_un ?_) | refine gw_if (fun hb => ?_) (fun hb => ?_) | (refine aw_c (b := ?_) (by decide) ?_ ?_; rotate_left 1; (· simp only [ev, Zb, reduceIte, Nat.reduceEqDiff, *]; rfl)) | (with_reducible first | refine cw_t ?_ | refine cw_f ?_) | refine cw_if (fun hb => ?_) (fun hb => ?_) | (refine r_ret (vs := ?_) ?_ ?_; rotate_left 1; (· simp only [resV, ev, Zb, reduceIte, Nat.reduceEqDiff, Zj, *]; rfl)) | (with_reducible exact l1In_ok _ _ _ _) | ((with_reducible refine l13Task_ok s _ _ I _ ?_ ?_ ?_ ?_ ?_); (· first | assumption | exact Sub.refl _ | exact Sub.app ‹_› _ | exact Sub.app (Sub.refl _) _); (· assumption); (· assumption); (· first | omega | (simp only [Z2]; omega)); (· first | omega | (simp only [Z2]; omega))) | ((with_reducible refine l13Lay_k s _ I _ ?_ ?_ ?_ ?_); (· first | assumption | exact Sub.refl _ | exact Sub.app ‹_› _ | exact Sub.app (Sub.refl _) _); (· assumption); (· assumption); (· assumption)) | ((with_reducible refine specGoodFlow_ok ⟨s.conds + s.tasks.length, trsM s⟩ _ _ _ ?_ _ ?_ ?_ ?_); rotate_left 1; (· exact Sub.refl _); (· assumption); (· assumption)) | ((with_reducible refine Z2w (n := 43) ?_); rintro _ _ ⟨tv, mv, L, rfl, rfl, hrs, hms, hft, hfm⟩) | ((with_reducible refine Z2w ?_); rintro _ _ ⟨rfl, hh⟩; replace hh := hh.symm; subst hh))
      refine ⟨?_, _, rfl⟩
      simp only [oneOf, specOk, h2, Bool.false_and, Bool.and_false]
  · refine Z36 Try.func23 rfl Try.ntmps23 (by simp) (by dsimp only [Try.f23]) ?_
    repeat' (first | ((with_reducible refine eq_go ?_); simp only [stp, ev, ZB, reduceIte, Nat.reduceEqDiff, Z2x, Z13, Zy, Ze, ZH, ldv, stv, vcs, fldA, blt, lenV, Z10, Zg, Z14, Zw, Z33, Nat.reduceAdd, Nat.reduceMul, Nat.reduceLeDiff, splice, newB, Ty.t3, Ty.t30, Ty.t32, Ty.t68, Ty.t70, Ty.t72, Ty.t86, Ty.t89, Ty.t95, *]; rfl) | (with_reducible first | refine aw_then ?_ | refine aw_skip ?_ | refine aw_ret ?_ | refine aw_exit ?_ | refine aw_block ?_ | refine xr_reg (by decide +kernel) ?_ | refine xr_nil ?_ | refine k_norm ?_ | refine k_ret ?_ | refine k_exit ?_ | refine b_norm ?_ | refine b_ret ?_ | refine b_exit ?_ | refine b_past (by decide) ?_) | (refine Ty.c40 (args := ?_) (K := ?_) ?_ ?_ ?_; rotate_left 2) | (refine Ty.c42 (args := ?_) (K := ?_) ?_ ?_ ?_; rotate_left 2) | (refine Ty.c43 (args := ?_) (K := ?_) ?_ ?_ ?_; rotate_left 2) | (refine Ty.c44 (args := ?_) (K := ?_) ?_ ?_ ?_; rotate_left 2) | (refine xr_do (v := ?_) (h' := ?_) (by exact rfl) ?_ ?_; rotate_left 2) | (refine xr_st (v := ?_) (h' := ?_) (by exact rfl) ?_ ?_; rotate_left 2) | (refine xr_g (b := ?_) (by exact rfl) ?_ ?_; rotate_left 1; (· simp only [ev, Zb, reduceIte, Nat.reduceEqDiff, Z8, Z5, *]; rfl)) | (with_reducible first | refine gw_tt ?_ | refine gw_ff ?_ | refine gw_tf ?_ | refine gw_ft ?_ | refine gw_un ?_) | refine gw_if (fun hb => ?_) (fun hb => ?_) | (refine aw_c (b := ?_) (by decide) ?_ ?_; rotate_left 1; (· simp only [ev, Zb, reduceIte, Nat.reduceEqDiff, *]; rfl)) | (with_reducible first | refine cw_t ?_ | refine cw_f ?_) | refine cw_if (fun hb => ?_) (fun hb => ?_) | (refine r_ret (vs := ?_) ?_ ?_; rotate_left 1; (· simp only [resV, ev, Zb, reduceIte, Nat.reduceEqDiff, Zj, *]; rfl)) | (with_reducible exact l1In_ok _ _ _ _) | ((with_reducible refine l13Task_ok s _ _ I _ ?_ ?_ ?_ ?_ ?_); (· first | assumption | exact Sub.refl _ | exact Sub.app ‹_› _ | exact Sub.app (Sub.refl _) _); (· assumption); (· assumption); (· first | omega | (simp only [Z2]; omega)); (· first | omega | (simp only [Z2]; omega))) | ((with_reducible refine l13Lay_k s _ I _ ?_ ?_ ?_ ?_); (· first | assumption | exact Sub.refl _ | exact Sub.app ‹_› _ | exact Sub.app (Sub.refl _) _); (· assumption); (· assumption); (· assumption)) | ((with_reducible refine specGoodFlow_ok ⟨s.conds + s.tasks.length, trsM s⟩ _ _ _ ?_ _ ?_ ?_ ?_); rotate_left 1; (· exact Sub.refl _); (· assumption); (· assumption)) | ((with_reducible refine Z2w (n := 43) ?_); rintro _ _ ⟨tv, mv, L, rfl, rfl, hrs, hms, hft, hfm⟩) | ((with_reducible refine Z2w ?_); rintro _ _ ⟨rfl, hh⟩; replace hh := hh.symm; subst hh))
    refine ⟨?_, _, rfl⟩
    simp only [oneOf, specOk, h1, Bool.false_and]
end Go.Proofs.Ytmjhfklmlcnofaa.Am
namespace Go.Proofs.Ytmjhfklmlcnofaa.Am
open Go Go.Proofs
set_option linter.unusedVariables false
set_option linter.unusedSimpArgs false
set_option maxRecDepth 100000
set_option maxHeartbeats 8000000
/-- Runes from a place on. -/
def rn (s : ByteArray) (pos : Nat) : Nat := Lib.runeCountFrom s (s.size - pos) pos
theorem rcf_fuel (s : ByteArray) : ∀ (n pos fuel fuel' : Nat), s.size - pos ≤ n → s.size - pos ≤ fuel → s.size - pos ≤ fuel' → Lib.runeCountFrom s fuel pos = Lib.runeCountFrom s fuel' pos := by
  intro n
  induction n with
  | zero => intro pos f f' h1 h2 h3; rw [Lib.runeCountFrom_end _ _ _ (by omega), Lib.runeCountFrom_end _ _ _ (by omega)]
  | succ n ih =>
    intro pos f f' h1 h2 h3
    by_cases hp : pos < s.size
    · obtain ⟨a, rfl⟩ : ∃ a, f = a + 1 := ⟨f - 1, by omega⟩
      obtain ⟨b, rfl⟩ : ∃ b, f' = b + 1 := ⟨f' - 1, by omega⟩
      have hw := Lib.decode_width_pos s pos hp
      simp only [Lib.runeCountFrom, if_pos hp]
      rw [ih (pos + (Utf8.decode s pos).2) a b (by omega) (by omega) (by omega)]
    · rw [Lib.runeCountFrom_end _ _ _ hp, Lib.runeCountFrom_end _ _ _ hp]
theorem rn_step (s : ByteArray) {pos : Nat} (hp : pos < s.size) : rn s pos = 1 + rn s (pos + (Utf8.decode s pos).2) := by
  have hw := Lib.decode_width_pos s pos hp
  unfold rn
  obtain ⟨a, ha⟩ : ∃ a, s.size - pos = a + 1 := ⟨s.size - pos - 1, by omega⟩
  rw [ha]
  simp only [Lib.runeCountFrom, if_pos hp]
  rw [rcf_fuel s s.size _ a _ (by omega) (by omega) (Z4 _)]
theorem rn_end (s : ByteArray) {pos : Nat} (hp : ¬ pos < s.size) : rn s pos = 0 := Lib.runeCountFrom_end _ _ _ hp
theorem rn_le (s : ByteArray) (pos : Nat) : rn s pos ≤ s.size - pos := Lib.runeCountFrom_le _ _ _
theorem nxt_go {h L : Heap} {s : ByteArray} {pos : Nat} (hp : pos < s.size) : nxt (h ++ ⟨3, 1, [.string s, .int .i64 (pos : Nat)]⟩ :: L) (.pointer (some ⟨h.length, 0, none⟩)) =
    some (.tuple #[.bool true, .int .i64 (pos : Nat), .int .i32 (Utf8.decode s pos).1], h ++ ⟨3, 1, [.string s, .int .i64 ((pos + (Utf8.decode s pos).2 : Nat))]⟩ :: L) := by
  simp [nxt, get_at0, Z1h, hp]
theorem nxt_stop {h L : Heap} {s : ByteArray} {pos : Nat} (hp : ¬ pos < s.size) : nxt (h ++ ⟨3, 1, [.string s, .int .i64 (pos : Nat)]⟩ :: L) (.pointer (some ⟨h.length, 0, none⟩)) =
    some (.tuple #[.bool false], h ++ ⟨3, 1, [.string s, .int .i64 (pos : Nat)]⟩ :: L) := by
  simp [nxt, get_at0, hp]
theorem l20Runes_ok (s : ByteArray) (h : Heap) (hs : s.size ≤ 9223372036854775807) : ACalls Try.prog 0 39 #[.string s] h fun v h' => v = .int .i64 (rn s 0) ∧ h' = h := by
  refine acalls_pure (.inl rfl) ?_
  refine Z36 Try.func39 rfl Try.ntmps39 (by simp) (by dsimp only [Try.f39]) ?_
  repeat' (first | ((with_reducible refine eq_go ?_); simp only [stp, ev, ZB, reduceIte, Nat.reduceEqDiff, Z2x, Z13, Zy, Ze, Z1, Z0, Ty.t3, Ty.t9, *]; rfl) | (with_reducible first | refine aw_then ?_ | refine aw_skip ?_ | refine aw_ret ?_ | refine aw_exit ?_ | refine aw_block ?_ | refine xr_reg (by decide +kernel) ?_ | refine xr_nil ?_ | refine k_norm ?_ | refine k_ret ?_ | refine k_exit ?_ | refine b_norm ?_ | refine b_ret ?_ | refine b_exit ?_ | refine b_past (by decide) ?_) | (refine xr_do (v := ?_) (h' := ?_) (by exact rfl) ?_ ?_; rotate_left 2) | (refine xr_st (v := ?_) (h' := ?_) (by exact rfl) ?_ ?_; rotate_left 2) | (refine aw_c (b := ?_) (by decide) ?_ ?_; rotate_left 1; (· simp only [ev, Zb, reduceIte, Nat.reduceEqDiff, *]; rfl)) | (with_reducible first | refine cw_t ?_ | refine cw_f ?_) | refine cw_if (fun hb => ?_) (fun hb => ?_) | (refine r_ret (vs := ?_) ?_ ?_; rotate_left 1; (· simp only [resV, ev, Zb, reduceIte, Nat.reduceEqDiff, Zj, *]; rfl)))
  refine aw_loop (n := s.size - 0) (fun n T h' => ∃ pos k, n = s.size - pos ∧ h' = h ++ [⟨3, 1, [.string s, .int .i64 (pos : Nat)]⟩] ∧ T 3 = .int .i64 (k : Nat) ∧ T 5 = .pointer (some ⟨h.length, 0, none⟩) ∧ k + rn s pos = rn s 0)
    ⟨0, 0, rfl, rfl, rfl, rfl, by omega⟩ ?_
  rintro n T h' ⟨pos, k, rfl, rfl, h3, h5, hk⟩
  by_cases hp : pos < s.size
  · have hn := nxt_go (h := h) (L := []) hp
    have hst := rn_step s hp
    have hle := rn_le s 0
    have hw := Lib.decode_width_pos s pos hp
    repeat' (first | ((with_reducible refine eq_go ?_); simp only [stp, ev, ZB, reduceIte, Nat.reduceEqDiff, Z2x, Z13, Zy, Ze, Z1, Z0, Ty.t3, Ty.t9, *]; rfl) | (with_reducible first | refine aw_then ?_ | refine aw_skip ?_ | refine aw_ret ?_ | refine aw_exit ?_ | refine aw_block ?_ | refine xr_reg (by decide +kernel) ?_ | refine xr_nil ?_ | refine k_norm ?_ | refine k_ret ?_ | refine k_exit ?_ | refine b_norm ?_ | refine b_ret ?_ | refine b_exit ?_ | refine b_past (by decide) ?_) | (refine xr_do (v := ?_) (h' := ?_) (by exact rfl) ?_ ?_; rotate_left 2) | (refine xr_st (v := ?_) (h' := ?_) (by exact rfl) ?_ ?_; rotate_left 2) | (refine aw_c (b := ?_) (by decide) ?_ ?_; rotate_left 1; (· simp only [ev, Zb, reduceIte, Nat.reduceEqDiff, *]; rfl)) | (with_reducible first | refine cw_t ?_ | refine cw_f ?_) | refine cw_if (fun hb => ?_) (fun hb => ?_) | (refine r_ret (vs := ?_) ?_ ?_; rotate_left 1; (· simp only [resV, ev, Zb, reduceIte, Nat.reduceEqDiff, Zj, *]; rfl)))
    refine ⟨s.size - (pos + (Utf8.decode s pos).2), by omega, pos + (Utf8.decode s pos).2, k + 1, rfl, rfl, ?_, ?_, by omega⟩
    · simp only [Zb, reduceIte, Nat.reduceEqDiff]; rw [wrap_id (by omega)]; rfl
    · simp only [Zb, reduceIte, Nat.reduceEqDiff]; exact h5
  · have hn := nxt_stop (h := h) (L := []) hp
    rw [rn_end s hp] at hk
    obtain rfl : k = rn s 0 := by omega
    repeat' (first | ((with_reducible refine eq_go ?_); simp only [stp, ev, ZB, reduceIte, Nat.reduceEqDiff, Z2x, Z13, Zy, Ze, Z1, Z0, Ty.t3, Ty.t9, *]; rfl) | (with_reducible first | refine aw_then ?_ | refine aw_skip ?_ | refine aw_ret ?_ | refine aw_exit ?_ | refine aw_block ?_ | refine xr_reg (by decide +kernel) ?_ | refine xr_nil ?_ | refine k_norm ?_ | refine k_ret ?_ | refine k_exit ?_ | refine b_norm ?_ | refine b_ret ?_ | refine b_exit ?_ | refine b_past (by decide) ?_) | (refine xr_do (v := ?_) (h' := ?_) (by exact rfl) ?_ ?_; rotate_left 2) | (refine xr_st (v := ?_) (h' := ?_) (by exact rfl) ?_ ?_; rotate_left 2) | (refine aw_c (b := ?_) (by decide) ?_ ?_; rotate_left 1; (· simp only [ev, Zb, reduceIte, Nat.reduceEqDiff, *]; rfl)) | (with_reducible first | refine cw_t ?_ | refine cw_f ?_) | refine cw_if (fun hb => ?_) (fun hb => ?_) | (refine r_ret (vs := ?_) ?_ ?_; rotate_left 1; (· simp only [resV, ev, Zb, reduceIte, Nat.reduceEqDiff, Zj, *]; rfl)))
    exact ⟨rfl, _, rfl⟩
theorem runeCount_ok (s : ByteArray) (h : Heap) (hs : s.size ≤ 9223372036854775807) : ACalls Try.prog 0 55 #[.string s] h fun v h' => v = .int .i64 (rn s 0) ∧ h' = h := by
  refine acalls_pure (.inl rfl) ?_
  refine Z36 Try.func55 rfl Try.ntmps55 (by simp) (by dsimp only [Try.f55]) ?_
  repeat' (first | ((with_reducible refine eq_go ?_); simp only [stp, ev, ZB, reduceIte, Nat.reduceEqDiff, Z2x, Z13, Zy, Ze, Z1, Z0, Ty.t3, Ty.t9, *]; rfl) | (with_reducible first | refine aw_then ?_ | refine aw_skip ?_ | refine aw_ret ?_ | refine aw_exit ?_ | refine aw_block ?_ | refine xr_reg (by decide +kernel) ?_ | refine xr_nil ?_ | refine k_norm ?_ | refine k_ret ?_ | refine k_exit ?_ | refine b_norm ?_ | refine b_ret ?_ | refine b_exit ?_ | refine b_past (by decide) ?_) | (refine xr_do (v := ?_) (h' := ?_) (by exact rfl) ?_ ?_; rotate_left 2) | (refine xr_st (v := ?_) (h' := ?_) (by exact rfl) ?_ ?_; rotate_left 2) | (refine aw_c (b := ?_) (by decide) ?_ ?_; rotate_left 1; (· simp only [ev, Zb, reduceIte, Nat.reduceEqDiff, *]; rfl)) | (with_reducible first | refine cw_t ?_ | refine cw_f ?_) | refine cw_if (fun hb => ?_) (fun hb => ?_) | (refine r_ret (vs := ?_) ?_ ?_; rotate_left 1; (· simp only [resV, ev, Zb, reduceIte, Nat.reduceEqDiff, Zj, *]; rfl)))
  refine aw_loop (n := s.size - 0) (fun n T h' => ∃ pos k, n = s.size - pos ∧ h' = h ++ [⟨3, 1, [.string s, .int .i64 (pos : Nat)]⟩] ∧ T 2 = .int .i64 (k : Nat) ∧ T 4 = .pointer (some ⟨h.length, 0, none⟩) ∧ k + rn s pos = rn s 0)
    ⟨0, 0, rfl, rfl, rfl, rfl, by omega⟩ ?_
  rintro n T h' ⟨pos, k, rfl, rfl, h3, h5, hk⟩
  by_cases hp : pos < s.size
  · have hn := nxt_go (h := h) (L := []) hp
    have hst := rn_step s hp
    have hle := rn_le s 0
    have hw := Lib.decode_width_pos s pos hp
    repeat' (first | ((with_reducible refine eq_go ?_); simp only [stp, ev, ZB, reduceIte, Nat.reduceEqDiff, Z2x, Z13, Zy, Ze, Z1, Z0, Ty.t3, Ty.t9, *]; rfl) | (with_reducible first | refine aw_then ?_ | refine aw_skip ?_ | refine aw_ret ?_ | refine aw_exit ?_ | refine aw_block ?_ | refine xr_reg (by decide +kernel) ?_ | refine xr_nil ?_ | refine k_norm ?_ | refine k_ret ?_ | refine k_exit ?_ | refine b_norm ?_ | refine b_ret ?_ | refine b_exit ?_ | refine b_past (by decide) ?_) | (refine xr_do (v := ?_) (h' := ?_) (by exact rfl) ?_ ?_; rotate_left 2) | (refine xr_st (v := ?_) (h' := ?_) (by exact rfl) ?_ ?_; rotate_left 2) | (refine aw_c (b := ?_) (by decide) ?_ ?_; rotate_left 1; (· simp only [ev, Zb, reduceIte, Nat.reduceEqDiff, *]; rfl)) | (with_reducible first | refine cw_t ?_ | refine cw_f ?_) | refine cw_if (fun hb => ?_) (fun hb => ?_) | (refine r_ret (vs := ?_) ?_ ?_; rotate_left 1; (· simp only [resV, ev, Zb, reduceIte, Nat.reduceEqDiff, Zj, *]; rfl)))
    refine ⟨s.size - (pos + (Utf8.decode s pos).2), by omega, pos + (Utf8.decode s pos).2, k + 1, rfl, rfl, ?_, ?_, by omega⟩
    · simp only [Zb, reduceIte, Nat.reduceEqDiff]; rw [wrap_id (by omega)]; rfl
    · simp only [Zb, reduceIte, Nat.reduceEqDiff]; exact h5
  · have hn := nxt_stop (h := h) (L := []) hp
    rw [rn_end s hp] at hk
    obtain rfl : k = rn s 0 := by omega
    repeat' (first | ((with_reducible refine eq_go ?_); simp only [stp, ev, ZB, reduceIte, Nat.reduceEqDiff, Z2x, Z13, Zy, Ze, Z1, Z0, Ty.t3, Ty.t9, *]; rfl) | (with_reducible first | refine aw_then ?_ | refine aw_skip ?_ | refine aw_ret ?_ | refine aw_exit ?_ | refine aw_block ?_ | refine xr_reg (by decide +kernel) ?_ | refine xr_nil ?_ | refine k_norm ?_ | refine k_ret ?_ | refine k_exit ?_ | refine b_norm ?_ | refine b_ret ?_ | refine b_exit ?_ | refine b_past (by decide) ?_) | (refine xr_do (v := ?_) (h' := ?_) (by exact rfl) ?_ ?_; rotate_left 2) | (refine xr_st (v := ?_) (h' := ?_) (by exact rfl) ?_ ?_; rotate_left 2) | (refine aw_c (b := ?_) (by decide) ?_ ?_; rotate_left 1; (· simp only [ev, Zb, reduceIte, Nat.reduceEqDiff, *]; rfl)) | (with_reducible first | refine cw_t ?_ | refine cw_f ?_) | refine cw_if (fun hb => ?_) (fun hb => ?_) | (refine r_ret (vs := ?_) ?_ ?_; rotate_left 1; (· simp only [resV, ev, Zb, reduceIte, Nat.reduceEqDiff, Zj, *]; rfl)))
    exact ⟨rfl, _, rfl⟩
theorem runesIn_ok (s : ByteArray) (h : Heap) (hs : s.size ≤ 9223372036854775807) : ACalls Try.prog 0 38 #[.string s] h fun v h' => v = .int .i64 (rn s 0) ∧ h' = h := by
  refine Z36 Try.func38 rfl Try.ntmps38 (by simp) (by dsimp only [Try.f38]) ?_
  repeat' (first | ((with_reducible refine eq_go ?_); simp only [stp, ev, ZB, reduceIte, Nat.reduceEqDiff, Z2x, Z13, Zy, blt, lenV, Z10, Z3, Z2, Zf, Zg, Ze, Z1, Z0, Z14, Zw, Ty.t9, *]; rfl) | (with_reducible first | refine aw_then ?_ | refine aw_skip ?_ | refine aw_ret ?_ | refine aw_exit ?_ | refine aw_block ?_ | refine xr_reg (by decide +kernel) ?_ | refine xr_nil ?_ | refine k_norm ?_ | refine k_ret ?_ | refine k_exit ?_ | refine b_norm ?_ | refine b_ret ?_ | refine b_exit ?_ | refine b_past (by decide) ?_) | (refine Ty.c55 (args := ?_) (K := ?_) ?_ ?_ ?_; rotate_left 2) | (refine xr_do (v := ?_) (h' := ?_) (by exact rfl) ?_ ?_; rotate_left 2) | (refine xr_st (v := ?_) (h' := ?_) (by exact rfl) ?_ ?_; rotate_left 2) | (refine aw_c (b := ?_) (by decide) ?_ ?_; rotate_left 1; (· simp only [ev, Zb, reduceIte, Nat.reduceEqDiff, *]; rfl)) | (with_reducible first | refine cw_t ?_ | refine cw_f ?_) | refine cw_if (fun hb => ?_) (fun hb => ?_) | (refine r_ret (vs := ?_) ?_ ?_; rotate_left 1; (· simp only [resV, ev, Zb, reduceIte, Nat.reduceEqDiff, Zj, *]; rfl)) | ((with_reducible refine runeCount_ok _ _ ?_); (· first | omega | (simp only [Z2]; omega))) | ((with_reducible refine Z2w ?_); rintro _ _ ⟨rfl, hh⟩; replace hh := hh.symm; subst hh))
  exact ⟨rfl, rfl⟩
/-- Is this rune kept out of names? -/
def barR (r : Int) : Bool := decide (r ≤ 32) || (decide (r = 127) || (decide (r = 35) || decide (r = 65533)))
def anyBar (s : ByteArray) : Nat → Nat → Bool
  | 0, _ => false
  | f + 1, pos => if pos < s.size then barR (Utf8.decode s pos).1 || anyBar s f (pos + (Utf8.decode s pos).2) else false
def bars (s : ByteArray) (pos : Nat) : Bool := anyBar s (s.size - pos) pos
theorem anyBar_end (s : ByteArray) (f pos : Nat) (hp : ¬ pos < s.size) : anyBar s f pos = false := by
  cases f <;> simp [anyBar, hp]
theorem anyBar_fuel (s : ByteArray) : ∀ (n pos fuel fuel' : Nat), s.size - pos ≤ n → s.size - pos ≤ fuel → s.size - pos ≤ fuel' → anyBar s fuel pos = anyBar s fuel' pos := by
  intro n
  induction n with
  | zero => intro pos f f' h1 h2 h3; rw [anyBar_end _ _ _ (by omega), anyBar_end _ _ _ (by omega)]
  | succ n ih =>
    intro pos f f' h1 h2 h3
    by_cases hp : pos < s.size
    · obtain ⟨a, rfl⟩ : ∃ a, f = a + 1 := ⟨f - 1, by omega⟩
      obtain ⟨b, rfl⟩ : ∃ b, f' = b + 1 := ⟨f' - 1, by omega⟩
      have hw := Lib.decode_width_pos s pos hp
      simp only [anyBar, if_pos hp]
      rw [ih (pos + (Utf8.decode s pos).2) a b (by omega) (by omega) (by omega)]
    · rw [anyBar_end _ _ _ hp, anyBar_end _ _ _ hp]
theorem bars_step (s : ByteArray) {pos : Nat} (hp : pos < s.size) : bars s pos = (barR (Utf8.decode s pos).1 || bars s (pos + (Utf8.decode s pos).2)) := by
  have hw := Lib.decode_width_pos s pos hp
  unfold bars
  obtain ⟨a, ha⟩ : ∃ a, s.size - pos = a + 1 := ⟨s.size - pos - 1, by omega⟩
  rw [ha]
  simp only [anyBar, if_pos hp]
  rw [anyBar_fuel s s.size _ a _ (by omega) (by omega) (Z4 _)]
theorem bars_end (s : ByteArray) {pos : Nat} (hp : ¬ pos < s.size) : bars s pos = false := anyBar_end _ _ _ hp
def nameOk (s : ByteArray) : Bool := !bars s 0 && (decide (1 ≤ (rn s 0 : Int) ∧ (rn s 0 : Int) ≤ 8) && decide ((s.size : Int) ≤ 40))
theorem isName_ok (s : ByteArray) (h : Heap) (hs : s.size ≤ 9223372036854775807) : ACalls Try.prog 0 35 #[.string s] h fun v h' => v = .bool (nameOk s) ∧ h' = h := by
  refine acalls_pure (.inl rfl) ?_
  refine Z36 Try.func35 rfl Try.ntmps35 (by simp) (by dsimp only [Try.f35]) ?_
  repeat' (first | ((with_reducible refine eq_go ?_); simp only [stp, ev, ZB, reduceIte, Nat.reduceEqDiff, Z2x, Z13, Zy, Ze, Z1, Z0, blt, lenV, Z10, Z3, Z2, Zf, Zg, Z14, Zw, Ty.t3, Ty.t9, Ty.t21, *]; rfl) | (with_reducible first | refine aw_then ?_ | refine aw_skip ?_ | refine aw_ret ?_ | refine aw_exit ?_ | refine aw_block ?_ | refine xr_reg (by decide +kernel) ?_ | refine xr_nil ?_ | refine k_norm ?_ | refine k_ret ?_ | refine k_exit ?_ | refine b_norm ?_ | refine b_ret ?_ | refine b_exit ?_ | refine b_past (by decide) ?_) | (refine Ty.c38 (args := ?_) (K := ?_) ?_ ?_ ?_; rotate_left 2) | (refine Ty.c53 (args := ?_) (K := ?_) ?_ ?_ ?_; rotate_left 2) | (refine xr_do (v := ?_) (h' := ?_) (by exact rfl) ?_ ?_; rotate_left 2) | (refine xr_st (v := ?_) (h' := ?_) (by exact rfl) ?_ ?_; rotate_left 2) | (refine xr_g (b := ?_) (by exact rfl) ?_ ?_; rotate_left 1; (· simp only [ev, Zb, reduceIte, Nat.reduceEqDiff, Z8, Z5, *]; rfl)) | (with_reducible first | refine gw_tt ?_ | refine gw_ff ?_ | refine gw_tf ?_ | refine gw_ft ?_ | refine gw_un ?_) | refine gw_if (fun hb => ?_) (fun hb => ?_) | (refine aw_c (b := ?_) (by decide) ?_ ?_; rotate_left 1; (· simp only [ev, Zb, reduceIte, Nat.reduceEqDiff, *]; rfl)) | (with_reducible first | refine cw_t ?_ | refine cw_f ?_) | refine cw_if (fun hb => ?_) (fun hb => ?_) | (refine r_ret (vs := ?_) ?_ ?_; rotate_left 1; (· simp only [resV, ev, Zb, reduceIte, Nat.reduceEqDiff, Zj, *]; rfl)) | ((with_reducible refine runesIn_ok _ _ ?_); (· first | omega | (simp only [Z2]; omega))) | (with_reducible exact within_ok _ _ _ _) | ((with_reducible refine Z2w ?_); rintro _ _ ⟨rfl, hh⟩; replace hh := hh.symm; subst hh))
  refine aw_loop (n := s.size - 0) (fun n T h' => ∃ pos, n = s.size - pos ∧ h' = h ++ [⟨3, 1, [.string s, .int .i64 (pos : Nat)]⟩] ∧ T 0 = .string s ∧ T 6 = .pointer (some ⟨h.length, 0, none⟩) ∧ bars s pos = bars s 0)
    ⟨0, rfl, rfl, rfl, rfl, rfl⟩ ?_
  rintro n T h' ⟨pos, rfl, rfl, h3, h5, hk⟩
  by_cases hp : pos < s.size
  · have hn := nxt_go (h := h) (L := []) hp
    have hst := bars_step s hp
    have hw := Lib.decode_width_pos s pos hp
    repeat' (first | ((with_reducible refine eq_go ?_); simp only [stp, ev, ZB, reduceIte, Nat.reduceEqDiff, Z2x, Z13, Zy, Ze, Z1, Z0, blt, lenV, Z10, Z3, Z2, Zf, Zg, Z14, Zw, Ty.t3, Ty.t9, Ty.t21, *]; rfl) | (with_reducible first | refine aw_then ?_ | refine aw_skip ?_ | refine aw_ret ?_ | refine aw_exit ?_ | refine aw_block ?_ | refine xr_reg (by decide +kernel) ?_ | refine xr_nil ?_ | refine k_norm ?_ | refine k_ret ?_ | refine k_exit ?_ | refine b_norm ?_ | refine b_ret ?_ | refine b_exit ?_ | refine b_past (by decide) ?_) | (refine Ty.c38 (args := ?_) (K := ?_) ?_ ?_ ?_; rotate_left 2) | (refine Ty.c53 (args := ?_) (K := ?_) ?_ ?_ ?_; rotate_left 2) | (refine xr_do (v := ?_) (h' := ?_) (by exact rfl) ?_ ?_; rotate_left 2) | (refine xr_st (v := ?_) (h' := ?_) (by exact rfl) ?_ ?_; rotate_left 2) | (refine xr_g (b := ?_) (by exact rfl) ?_ ?_; rotate_left 1; (· simp only [ev, Zb, reduceIte, Nat.reduceEqDiff, Z8, Z5, *]; rfl)) | (with_reducible first | refine gw_tt ?_ | refine gw_ff ?_ | refine gw_tf ?_ | refine gw_ft ?_ | refine gw_un ?_) | refine gw_if (fun hb => ?_) (fun hb => ?_) | (refine aw_c (b := ?_) (by decide) ?_ ?_; rotate_left 1; (· simp only [ev, Zb, reduceIte, Nat.reduceEqDiff, *]; rfl)) | (with_reducible first | refine cw_t ?_ | refine cw_f ?_) | refine cw_if (fun hb => ?_) (fun hb => ?_) | (refine r_ret (vs := ?_) ?_ ?_; rotate_left 1; (· simp only [resV, ev, Zb, reduceIte, Nat.reduceEqDiff, Zj, *]; rfl)) | ((with_reducible refine runesIn_ok _ _ ?_); (· first | omega | (simp only [Z2]; omega))) | (with_reducible exact within_ok _ _ _ _) | ((with_reducible refine Z2w ?_); rintro _ _ ⟨rfl, hh⟩; replace hh := hh.symm; subst hh))
    all_goals first
      | (have hbr : barR (Utf8.decode s pos).1 = true := by (simp only [barR, *, Bool.or_true, Bool.true_or, Bool.or_false, Bool.false_or])
         rw [hbr, Bool.true_or] at hst
         have hno : nameOk s = false := by simp [nameOk, ← hk, hst]
         refine ⟨?_, _, rfl⟩
         rw [hno]; rfl)
      | (have hbr : barR (Utf8.decode s pos).1 = false := by (simp only [barR, *, Bool.or_true, Bool.true_or, Bool.or_false, Bool.false_or])
         rw [hbr, Bool.false_or] at hst
         refine ⟨s.size - (pos + (Utf8.decode s pos).2), by omega, pos + (Utf8.decode s pos).2, rfl, rfl, ?_, ?_, by rw [← hst]; exact hk⟩
         · simp only [Zb, reduceIte, Nat.reduceEqDiff]; exact h3
         · simp only [Zb, reduceIte, Nat.reduceEqDiff]; exact h5)
  · have hn := nxt_stop (h := h) (L := []) hp
    rw [bars_end s hp] at hk
    replace hk := hk.symm
    have hle := rn_le s 0
    repeat' (first | ((with_reducible refine eq_go ?_); simp only [stp, ev, ZB, reduceIte, Nat.reduceEqDiff, Z2x, Z13, Zy, Ze, Z1, Z0, blt, lenV, Z10, Z3, Z2, Zf, Zg, Z14, Zw, Ty.t3, Ty.t9, Ty.t21, *]; rfl) | (with_reducible first | refine aw_then ?_ | refine aw_skip ?_ | refine aw_ret ?_ | refine aw_exit ?_ | refine aw_block ?_ | refine xr_reg (by decide +kernel) ?_ | refine xr_nil ?_ | refine k_norm ?_ | refine k_ret ?_ | refine k_exit ?_ | refine b_norm ?_ | refine b_ret ?_ | refine b_exit ?_ | refine b_past (by decide) ?_) | (refine Ty.c38 (args := ?_) (K := ?_) ?_ ?_ ?_; rotate_left 2) | (refine Ty.c53 (args := ?_) (K := ?_) ?_ ?_ ?_; rotate_left 2) | (refine xr_do (v := ?_) (h' := ?_) (by exact rfl) ?_ ?_; rotate_left 2) | (refine xr_st (v := ?_) (h' := ?_) (by exact rfl) ?_ ?_; rotate_left 2) | (refine xr_g (b := ?_) (by exact rfl) ?_ ?_; rotate_left 1; (· simp only [ev, Zb, reduceIte, Nat.reduceEqDiff, Z8, Z5, *]; rfl)) | (with_reducible first | refine gw_tt ?_ | refine gw_ff ?_ | refine gw_tf ?_ | refine gw_ft ?_ | refine gw_un ?_) | refine gw_if (fun hb => ?_) (fun hb => ?_) | (refine aw_c (b := ?_) (by decide) ?_ ?_; rotate_left 1; (· simp only [ev, Zb, reduceIte, Nat.reduceEqDiff, *]; rfl)) | (with_reducible first | refine cw_t ?_ | refine cw_f ?_) | refine cw_if (fun hb => ?_) (fun hb => ?_) | (refine r_ret (vs := ?_) ?_ ?_; rotate_left 1; (· simp only [resV, ev, Zb, reduceIte, Nat.reduceEqDiff, Zj, *]; rfl)) | ((with_reducible refine runesIn_ok _ _ ?_); (· first | omega | (simp only [Z2]; omega))) | (with_reducible exact within_ok _ _ _ _) | ((with_reducible refine Z2w ?_); rintro _ _ ⟨rfl, hh⟩; replace hh := hh.symm; subst hh))
    all_goals refine ⟨?_, _, rfl⟩
    all_goals simp [oneOf, nameOk, hk, hb]
theorem specGoodName_ok (s : ByteArray) (h : Heap) (hs : s.size ≤ 9223372036854775807) : ACalls Try.prog 0 20 #[.string s] h fun v h' => v = .bool (nameOk s) ∧ h' = h := by
  refine acalls_pure (.inl rfl) ?_
  have hle := rn_le s 0
  refine Z36 Try.func20 rfl Try.ntmps20 (by simp) (by dsimp only [Try.f20]) ?_
  repeat' (first | ((with_reducible refine eq_go ?_); simp only [stp, ev, ZB, reduceIte, Nat.reduceEqDiff, Z2x, Z13, Zy, Ze, Z1, Z0, blt, lenV, Z10, Z3, Z2, Zf, Zg, Z14, Zw, Ty.t3, Ty.t9, Ty.t21, *]; rfl) | (with_reducible first | refine aw_then ?_ | refine aw_skip ?_ | refine aw_ret ?_ | refine aw_exit ?_ | refine aw_block ?_ | refine xr_reg (by decide +kernel) ?_ | refine xr_nil ?_ | refine k_norm ?_ | refine k_ret ?_ | refine k_exit ?_ | refine b_norm ?_ | refine b_ret ?_ | refine b_exit ?_ | refine b_past (by decide) ?_) | (refine Ty.c39 (args := ?_) (K := ?_) ?_ ?_ ?_; rotate_left 2) | (refine Ty.c40 (args := ?_) (K := ?_) ?_ ?_ ?_; rotate_left 2) | (refine xr_do (v := ?_) (h' := ?_) (by exact rfl) ?_ ?_; rotate_left 2) | (refine xr_st (v := ?_) (h' := ?_) (by exact rfl) ?_ ?_; rotate_left 2) | (refine xr_g (b := ?_) (by exact rfl) ?_ ?_; rotate_left 1; (· simp only [ev, Zb, reduceIte, Nat.reduceEqDiff, Z8, Z5, *]; rfl)) | (with_reducible first | refine gw_tt ?_ | refine gw_ff ?_ | refine gw_tf ?_ | refine gw_ft ?_ | refine gw_un ?_) | refine gw_if (fun hb => ?_) (fun hb => ?_) | (refine aw_c (b := ?_) (by decide) ?_ ?_; rotate_left 1; (· simp only [ev, Zb, reduceIte, Nat.reduceEqDiff, *]; rfl)) | (with_reducible first | refine cw_t ?_ | refine cw_f ?_) | refine cw_if (fun hb => ?_) (fun hb => ?_) | (refine r_ret (vs := ?_) ?_ ?_; rotate_left 1; (· simp only [resV, ev, Zb, reduceIte, Nat.reduceEqDiff, Zj, *]; rfl)) | ((with_reducible refine l20Runes_ok _ _ ?_); (· first | omega | (simp only [Z2]; omega))) | (with_reducible exact l1In_ok _ _ _ _) | ((with_reducible refine Z2w ?_); rintro _ _ ⟨rfl, hh⟩; replace hh := hh.symm; subst hh))
  · refine ⟨?_, _, (Zx h).symm⟩
    first | (simp_all [oneOf, nameOk]; done) | (simp_all [oneOf, nameOk]; intros; omega)
  · refine ⟨?_, _, (Zx h).symm⟩
    first | (simp_all [oneOf, nameOk]; done) | (simp_all [oneOf, nameOk]; intros; omega)
  rename_i hq
  refine aw_loop (n := s.size - 0) (fun n T h' => ∃ pos, n = s.size - pos ∧ h' = h ++ [⟨3, 1, [.string s, .int .i64 (pos : Nat)]⟩] ∧ T 15 = .pointer (some ⟨h.length, 0, none⟩) ∧ bars s pos = bars s 0)
    ⟨0, rfl, rfl, rfl, rfl⟩ ?_
  rintro n T h' ⟨pos, rfl, rfl, h5, hk⟩
  by_cases hp : pos < s.size
  · have hn := nxt_go (h := h) (L := []) hp
    have hst := bars_step s hp
    have hw := Lib.decode_width_pos s pos hp
    repeat' (first | ((with_reducible refine eq_go ?_); simp only [stp, ev, ZB, reduceIte, Nat.reduceEqDiff, Z2x, Z13, Zy, Ze, Z1, Z0, blt, lenV, Z10, Z3, Z2, Zf, Zg, Z14, Zw, Ty.t3, Ty.t9, Ty.t21, *]; rfl) | (with_reducible first | refine aw_then ?_ | refine aw_skip ?_ | refine aw_ret ?_ | refine aw_exit ?_ | refine aw_block ?_ | refine xr_reg (by decide +kernel) ?_ | refine xr_nil ?_ | refine k_norm ?_ | refine k_ret ?_ | refine k_exit ?_ | refine b_norm ?_ | refine b_ret ?_ | refine b_exit ?_ | refine b_past (by decide) ?_) | (refine Ty.c39 (args := ?_) (K := ?_) ?_ ?_ ?_; rotate_left 2) | (refine Ty.c40 (args := ?_) (K := ?_) ?_ ?_ ?_; rotate_left 2) | (refine xr_do (v := ?_) (h' := ?_) (by exact rfl) ?_ ?_; rotate_left 2) | (refine xr_st (v := ?_) (h' := ?_) (by exact rfl) ?_ ?_; rotate_left 2) | (refine xr_g (b := ?_) (by exact rfl) ?_ ?_; rotate_left 1; (· simp only [ev, Zb, reduceIte, Nat.reduceEqDiff, Z8, Z5, *]; rfl)) | (with_reducible first | refine gw_tt ?_ | refine gw_ff ?_ | refine gw_tf ?_ | refine gw_ft ?_ | refine gw_un ?_) | refine gw_if (fun hb => ?_) (fun hb => ?_) | (refine aw_c (b := ?_) (by decide) ?_ ?_; rotate_left 1; (· simp only [ev, Zb, reduceIte, Nat.reduceEqDiff, *]; rfl)) | (with_reducible first | refine cw_t ?_ | refine cw_f ?_) | refine cw_if (fun hb => ?_) (fun hb => ?_) | (refine r_ret (vs := ?_) ?_ ?_; rotate_left 1; (· simp only [resV, ev, Zb, reduceIte, Nat.reduceEqDiff, Zj, *]; rfl)) | ((with_reducible refine l20Runes_ok _ _ ?_); (· first | omega | (simp only [Z2]; omega))) | (with_reducible exact l1In_ok _ _ _ _) | ((with_reducible refine Z2w ?_); rintro _ _ ⟨rfl, hh⟩; replace hh := hh.symm; subst hh))
    all_goals first
      | (have hbr : barR (Utf8.decode s pos).1 = true := by (simp only [barR, *, Bool.or_true, Bool.true_or, Bool.or_false, Bool.false_or])
         rw [hbr, Bool.true_or] at hst
         have hno : nameOk s = false := by simp [nameOk, ← hk, hst]
         refine ⟨?_, _, rfl⟩
         rw [hno]; rfl)
      | (have hbr : barR (Utf8.decode s pos).1 = false := by (simp only [barR, *, Bool.or_true, Bool.true_or, Bool.or_false, Bool.false_or])
         rw [hbr, Bool.false_or] at hst
         refine ⟨s.size - (pos + (Utf8.decode s pos).2), by omega, pos + (Utf8.decode s pos).2, rfl, rfl, ?_, by rw [← hst]; exact hk⟩
         simp only [Zb, reduceIte, Nat.reduceEqDiff]; exact h5)
  · have hn := nxt_stop (h := h) (L := []) hp
    rw [bars_end s hp] at hk
    replace hk := hk.symm
    repeat' (first | ((with_reducible refine eq_go ?_); simp only [stp, ev, ZB, reduceIte, Nat.reduceEqDiff, Z2x, Z13, Zy, Ze, Z1, Z0, blt, lenV, Z10, Z3, Z2, Zf, Zg, Z14, Zw, Ty.t3, Ty.t9, Ty.t21, *]; rfl) | (with_reducible first | refine aw_then ?_ | refine aw_skip ?_ | refine aw_ret ?_ | refine aw_exit ?_ | refine aw_block ?_ | refine xr_reg (by decide +kernel) ?_ | refine xr_nil ?_ | refine k_norm ?_ | refine k_ret ?_ | refine k_exit ?_ | refine b_norm ?_ | refine b_ret ?_ | refine b_exit ?_ | refine b_past (by decide) ?_) | (refine Ty.c39 (args := ?_) (K := ?_) ?_ ?_ ?_; rotate_left 2) | (refine Ty.c40 (args := ?_) (K := ?_) ?_ ?_ ?_; rotate_left 2) | (refine xr_do (v := ?_) (h' := ?_) (by exact rfl) ?_ ?_; rotate_left 2) | (refine xr_st (v := ?_) (h' := ?_) (by exact rfl) ?_ ?_; rotate_left 2) | (refine xr_g (b := ?_) (by exact rfl) ?_ ?_; rotate_left 1; (· simp only [ev, Zb, reduceIte, Nat.reduceEqDiff, Z8, Z5, *]; rfl)) | (with_reducible first | refine gw_tt ?_ | refine gw_ff ?_ | refine gw_tf ?_ | refine gw_ft ?_ | refine gw_un ?_) | refine gw_if (fun hb => ?_) (fun hb => ?_) | (refine aw_c (b := ?_) (by decide) ?_ ?_; rotate_left 1; (· simp only [ev, Zb, reduceIte, Nat.reduceEqDiff, *]; rfl)) | (with_reducible first | refine cw_t ?_ | refine cw_f ?_) | refine cw_if (fun hb => ?_) (fun hb => ?_) | (refine r_ret (vs := ?_) ?_ ?_; rotate_left 1; (· simp only [resV, ev, Zb, reduceIte, Nat.reduceEqDiff, Zj, *]; rfl)) | ((with_reducible refine l20Runes_ok _ _ ?_); (· first | omega | (simp only [Z2]; omega))) | (with_reducible exact l1In_ok _ _ _ _) | ((with_reducible refine Z2w ?_); rintro _ _ ⟨rfl, hh⟩; replace hh := hh.symm; subst hh))
    all_goals refine ⟨?_, _, rfl⟩
    all_goals simp_all [oneOf, nameOk]
end Go.Proofs.Ytmjhfklmlcnofaa.Am
namespace Go.Proofs.Ytmjhfklmlcnofaa.Am
open Go Go.Proofs
set_option linter.unusedVariables false
set_option linter.unusedSimpArgs false
set_option maxRecDepth 100000
set_option maxHeartbeats 8000000
def strs (l : List ByteArray) : List (List Value) := l.map fun s => [.string s]
theorem strs_length (l : List ByteArray) : (strs l).length = l.length := List.length_map _
theorem strs_len (l : List ByteArray) : ∀ r ∈ strs l, r.length = 1 := fun r hr => by obtain ⟨a, _, rfl⟩ := List.mem_map.1 hr; rfl
theorem strs_take (l : List ByteArray) (k : Nat) : (strs l).take k = strs (l.take k) := by simp [strs, List.map_take]
theorem indexStr_ok (l : List ByteArray) (x : ByteArray) (v : Value) (h : Heap) (hs : Sl h v 1 (strs l)) (hl : l.length ≤ 1048576) :
    ACalls Try.prog 0 30 #[v, .string x] h
    fun v h' => v = .int .i64 (idxOf (fun y => decide (x = y)) l) ∧ h' = h := by
  obtain ⟨b, c, rfl, hc, hrow⟩ := hs
  rw [strs_length] at *
  refine Z36 Try.func30 rfl Try.ntmps30 (by simp) (by dsimp only [Try.f30]) ?_
  repeat' (first | ((with_reducible refine eq_go ?_); simp only [stp, ev, ZB, reduceIte, Nat.reduceEqDiff, Z2x, Z13, Zy, ldv, idxA, blt, lenV, Z10, ZH, Zg, Ze, Z14, Zw, Z33, Nat.reduceAdd, Nat.reduceMul, Nat.reduceLeDiff, splice, newB, vcs, Ty.t3, Ty.t9, Ty.t25, *]; rfl) | (with_reducible first | refine aw_then ?_ | refine aw_skip ?_ | refine aw_ret ?_ | refine aw_exit ?_ | refine aw_block ?_ | refine xr_reg (by decide +kernel) ?_ | refine xr_nil ?_ | refine k_norm ?_ | refine k_ret ?_ | refine k_exit ?_ | refine b_norm ?_ | refine b_ret ?_ | refine b_exit ?_ | refine b_past (by decide) ?_) | (refine xr_do (v := ?_) (h' := ?_) (by exact rfl) ?_ ?_; rotate_left 2) | (refine xr_st (v := ?_) (h' := ?_) (by exact rfl) ?_ ?_; rotate_left 2) | (refine aw_c (b := ?_) (by decide) ?_ ?_; rotate_left 1; (· simp only [ev, Zb, reduceIte, Nat.reduceEqDiff, *]; rfl)) | (with_reducible first | refine cw_t ?_ | refine cw_f ?_) | refine cw_if (fun hb => ?_) (fun hb => ?_) | (refine r_ret (vs := ?_) ?_ ?_; rotate_left 1; (· simp only [resV, ev, Zb, reduceIte, Nat.reduceEqDiff, Zj, *]; rfl)))
  refine aw_for [0, 1, 6, 7] (fun k T h' => h' = h ∧ T 8 = .int .i64 k ∧ (l.take k).findIdx? (fun y => decide (x = y)) = none) l.length (k0 := 0) (Nat.zero_le _) ⟨rfl, rfl, rfl⟩ ?_
  rintro k T h' hk hR ⟨rfl, h11, hall⟩
  simp only [Z37, Z38, Z39, implies_true, and_true, stp, ev, ZB, reduceIte, Nat.reduceEqDiff, Z2x, Z13, Zy] at hR
  rcases Nat.lt_or_ge k l.length with hkn | hkn
  · have h1 : (k : Int) < l.length := by omega
    obtain ⟨a, rfl, hld⟩ := Sl.row hrow (k := k) (by simpa [strs] using hkn)
    simp only [strs, List.getElem_map] at hld
    have hgc := getC_of_load hld
    clear hrow
    repeat' (first | ((with_reducible refine eq_go ?_); simp only [stp, ev, ZB, reduceIte, Nat.reduceEqDiff, Z2x, Z13, Zy, ldv, idxA, blt, lenV, Z10, ZH, Zg, Ze, Z14, Zw, Z33, Nat.reduceAdd, Nat.reduceMul, Nat.reduceLeDiff, splice, newB, vcs, Ty.t3, Ty.t9, Ty.t25, *]; rfl) | (with_reducible first | refine aw_then ?_ | refine aw_skip ?_ | refine aw_ret ?_ | refine aw_exit ?_ | refine aw_block ?_ | refine xr_reg (by decide +kernel) ?_ | refine xr_nil ?_ | refine k_norm ?_ | refine k_ret ?_ | refine k_exit ?_ | refine b_norm ?_ | refine b_ret ?_ | refine b_exit ?_ | refine b_past (by decide) ?_) | (refine xr_do (v := ?_) (h' := ?_) (by exact rfl) ?_ ?_; rotate_left 2) | (refine xr_st (v := ?_) (h' := ?_) (by exact rfl) ?_ ?_; rotate_left 2) | (refine aw_c (b := ?_) (by decide) ?_ ?_; rotate_left 1; (· simp only [ev, Zb, reduceIte, Nat.reduceEqDiff, *]; rfl)) | (with_reducible first | refine cw_t ?_ | refine cw_f ?_) | refine cw_if (fun hb => ?_) (fun hb => ?_) | (refine r_ret (vs := ?_) ?_ ?_; rotate_left 1; (· simp only [resV, ev, Zb, reduceIte, Nat.reduceEqDiff, Zj, *]; rfl)))
    · refine ⟨?_, rfl⟩
      rw [idxOf_hit hkn hall (by simpa using hb)]; rfl
    refine ⟨by first | assumption | omega, ?_, ?_⟩
    · simp only [Z37, Z38, Z39, implies_true, and_true, ZB, stp, ev, reduceIte, Nat.reduceEqDiff, Z2x, Z13, Zy, *]
    refine ⟨rfl, ?_, ?_⟩
    · simp only [Zb, reduceIte, Nat.reduceEqDiff]
      rw [wrap_id (by omega)]; rfl
    · rw [← List.take_append_getElem hkn, List.findIdx?_append, hall]
      simp only [decide_eq_false_iff_not] at hb
      simp [List.findIdx?_cons, hb]
  · have h1 : ¬ (k : Int) < l.length := by omega
    clear hrow
    repeat' (first | ((with_reducible refine eq_go ?_); simp only [stp, ev, ZB, reduceIte, Nat.reduceEqDiff, Z2x, Z13, Zy, ldv, idxA, blt, lenV, Z10, ZH, Zg, Ze, Z14, Zw, Z33, Nat.reduceAdd, Nat.reduceMul, Nat.reduceLeDiff, splice, newB, vcs, Ty.t3, Ty.t9, Ty.t25, *]; rfl) | (with_reducible first | refine aw_then ?_ | refine aw_skip ?_ | refine aw_ret ?_ | refine aw_exit ?_ | refine aw_block ?_ | refine xr_reg (by decide +kernel) ?_ | refine xr_nil ?_ | refine k_norm ?_ | refine k_ret ?_ | refine k_exit ?_ | refine b_norm ?_ | refine b_ret ?_ | refine b_exit ?_ | refine b_past (by decide) ?_) | (refine xr_do (v := ?_) (h' := ?_) (by exact rfl) ?_ ?_; rotate_left 2) | (refine xr_st (v := ?_) (h' := ?_) (by exact rfl) ?_ ?_; rotate_left 2) | (refine aw_c (b := ?_) (by decide) ?_ ?_; rotate_left 1; (· simp only [ev, Zb, reduceIte, Nat.reduceEqDiff, *]; rfl)) | (with_reducible first | refine cw_t ?_ | refine cw_f ?_) | refine cw_if (fun hb => ?_) (fun hb => ?_) | (refine r_ret (vs := ?_) ?_ ?_; rotate_left 1; (· simp only [resV, ev, Zb, reduceIte, Nat.reduceEqDiff, Zj, *]; rfl)))
    refine ⟨?_, rfl⟩
    rw [List.take_of_length_le hkn] at hall
    simp only [oneOf, idxOf, hall]
def hasS (l : List ByteArray) (x : ByteArray) : Bool := l.any fun y => decide (x = y)
theorem containsStr_ok (l : List ByteArray) (x : ByteArray) (v : Value) (h : Heap) (hs : Sl h v 1 (strs l)) (hl : l.length ≤ 1048576) :
    ACalls Try.prog 0 47 #[v, .string x] h
    fun v h' => v = .bool (hasS l x) ∧ h' = h := by
  have hfl := hs.flat
  refine Z36 Try.func47 rfl Try.ntmps47 (by simp) (by dsimp only [Try.f47]) ?_
  repeat' (first | ((with_reducible refine eq_go ?_); simp only [stp, ev, ZB, reduceIte, Nat.reduceEqDiff, Z2x, Z13, Zy, blt, lenV, Z10, Z3, Z2, Zf, Zg, Ze, Z1, Z0, Z14, Zw, Ty.t3, Ty.t9, Ty.t25, *]; rfl) | (with_reducible first | refine aw_then ?_ | refine aw_skip ?_ | refine aw_ret ?_ | refine aw_exit ?_ | refine aw_block ?_ | refine xr_reg (by decide +kernel) ?_ | refine xr_nil ?_ | refine k_norm ?_ | refine k_ret ?_ | refine k_exit ?_ | refine b_norm ?_ | refine b_ret ?_ | refine b_exit ?_ | refine b_past (by decide) ?_) | (refine Ty.c30 (args := ?_) (K := ?_) ?_ ?_ ?_; rotate_left 2) | (refine xr_do (v := ?_) (h' := ?_) (by exact rfl) ?_ ?_; rotate_left 2) | (refine xr_st (v := ?_) (h' := ?_) (by exact rfl) ?_ ?_; rotate_left 2) | (refine aw_c (b := ?_) (by decide) ?_ ?_; rotate_left 1; (· simp only [ev, Zb, reduceIte, Nat.reduceEqDiff, *]; rfl)) | (with_reducible first | refine cw_t ?_ | refine cw_f ?_) | refine cw_if (fun hb => ?_) (fun hb => ?_) | (refine r_ret (vs := ?_) ?_ ?_; rotate_left 1; (· simp only [resV, ev, Zb, reduceIte, Nat.reduceEqDiff, Zj, *]; rfl)) | ((with_reducible refine indexStr_ok ?_ _ _ _ ?_ ?_); rotate_left 1; (· first | assumption | exact Sl.sub ‹_› (by first | assumption | exact Sub.refl _ | exact Sub.app ‹_› _ | exact Sub.app (Sub.refl _) _)); (· first | omega | (simp only [Z2]; omega))) | ((with_reducible refine Z2w ?_); rintro _ _ ⟨rfl, hh⟩; replace hh := hh.symm; subst hh))
  refine ⟨?_, rfl⟩
  rw [idxOf_any]; rfl
theorem l20Name_ok (l : List ByteArray) (x : ByteArray) (v : Value) (h : Heap) (hs : Sl h v 1 (strs l)) (hl : l.length ≤ 1048576) :
    ACalls Try.prog 0 24 #[v, .string x] h
    fun v h' => v = .int .i64 (idxOf (fun y => decide (x = y)) l) ∧ h' = h := by
  obtain ⟨b, c, rfl, hc, hrow⟩ := hs
  rw [strs_length] at *
  refine Z36 Try.func24 rfl Try.ntmps24 (by simp) (by dsimp only [Try.f24]) ?_
  repeat' (first | ((with_reducible refine eq_go ?_); simp only [stp, ev, ZB, reduceIte, Nat.reduceEqDiff, Z2x, Z13, Zy, ldv, idxA, blt, lenV, Z10, ZH, Zg, Ze, Z14, Zw, Z33, Nat.reduceAdd, Nat.reduceMul, Nat.reduceLeDiff, splice, newB, vcs, Ty.t3, Ty.t9, Ty.t25, *]; rfl) | (with_reducible first | refine aw_then ?_ | refine aw_skip ?_ | refine aw_ret ?_ | refine aw_exit ?_ | refine aw_block ?_ | refine xr_reg (by decide +kernel) ?_ | refine xr_nil ?_ | refine k_norm ?_ | refine k_ret ?_ | refine k_exit ?_ | refine b_norm ?_ | refine b_ret ?_ | refine b_exit ?_ | refine b_past (by decide) ?_) | (refine xr_do (v := ?_) (h' := ?_) (by exact rfl) ?_ ?_; rotate_left 2) | (refine xr_st (v := ?_) (h' := ?_) (by exact rfl) ?_ ?_; rotate_left 2) | (refine aw_c (b := ?_) (by decide) ?_ ?_; rotate_left 1; (· simp only [ev, Zb, reduceIte, Nat.reduceEqDiff, *]; rfl)) | (with_reducible first | refine cw_t ?_ | refine cw_f ?_) | refine cw_if (fun hb => ?_) (fun hb => ?_) | (refine r_ret (vs := ?_) ?_ ?_; rotate_left 1; (· simp only [resV, ev, Zb, reduceIte, Nat.reduceEqDiff, Zj, *]; rfl)))
  refine aw_for [1, 7, 8] (fun k T h' => h' = h ∧ T 9 = .int .i64 k ∧ (l.take k).findIdx? (fun y => decide (x = y)) = none) l.length (k0 := 0) (Nat.zero_le _) ⟨rfl, rfl, rfl⟩ ?_
  rintro k T h' hk hR ⟨rfl, h11, hall⟩
  simp only [Z37, Z38, Z39, implies_true, and_true, stp, ev, ZB, reduceIte, Nat.reduceEqDiff, Z2x, Z13, Zy] at hR
  rcases Nat.lt_or_ge k l.length with hkn | hkn
  · have h1 : (k : Int) < l.length := by omega
    obtain ⟨a, rfl, hld⟩ := Sl.row hrow (k := k) (by simpa [strs] using hkn)
    simp only [strs, List.getElem_map] at hld
    have hgc := getC_of_load hld
    clear hrow
    repeat' (first | ((with_reducible refine eq_go ?_); simp only [stp, ev, ZB, reduceIte, Nat.reduceEqDiff, Z2x, Z13, Zy, ldv, idxA, blt, lenV, Z10, ZH, Zg, Ze, Z14, Zw, Z33, Nat.reduceAdd, Nat.reduceMul, Nat.reduceLeDiff, splice, newB, vcs, Ty.t3, Ty.t9, Ty.t25, *]; rfl) | (with_reducible first | refine aw_then ?_ | refine aw_skip ?_ | refine aw_ret ?_ | refine aw_exit ?_ | refine aw_block ?_ | refine xr_reg (by decide +kernel) ?_ | refine xr_nil ?_ | refine k_norm ?_ | refine k_ret ?_ | refine k_exit ?_ | refine b_norm ?_ | refine b_ret ?_ | refine b_exit ?_ | refine b_past (by decide) ?_) | (refine xr_do (v := ?_) (h' := ?_) (by exact rfl) ?_ ?_; rotate_left 2) | (refine xr_st (v := ?_) (h' := ?_) (by exact rfl) ?_ ?_; rotate_left 2) | (refine aw_c (b := ?_) (by decide) ?_ ?_; rotate_left 1; (· simp only [ev, Zb, reduceIte, Nat.reduceEqDiff, *]; rfl)) | (with_reducible first | refine cw_t ?_ | refine cw_f ?_) | refine cw_if (fun hb => ?_) (fun hb => ?_) | (refine r_ret (vs := ?_) ?_ ?_; rotate_left 1; (· simp only [resV, ev, Zb, reduceIte, Nat.reduceEqDiff, Zj, *]; rfl)))
    · refine ⟨?_, rfl⟩
      rw [idxOf_hit hkn hall (by simp only [decide_eq_true_eq] at hb ⊢; exact hb.symm)]; rfl
    refine ⟨by first | assumption | omega, ?_, ?_⟩
    · simp only [Z37, Z38, Z39, implies_true, and_true, ZB, stp, ev, reduceIte, Nat.reduceEqDiff, Z2x, Z13, Zy, *]
    refine ⟨rfl, ?_, ?_⟩
    · simp only [Zb, reduceIte, Nat.reduceEqDiff]
      rw [wrap_id (by omega)]; rfl
    · rw [← List.take_append_getElem hkn, List.findIdx?_append, hall]
      simp only [decide_eq_false_iff_not] at hb
      have hb2 : ¬ x = l[k] := fun q => hb q.symm
      simp [List.findIdx?_cons, hb2]
  · have h1 : ¬ (k : Int) < l.length := by omega
    clear hrow
    repeat' (first | ((with_reducible refine eq_go ?_); simp only [stp, ev, ZB, reduceIte, Nat.reduceEqDiff, Z2x, Z13, Zy, ldv, idxA, blt, lenV, Z10, ZH, Zg, Ze, Z14, Zw, Z33, Nat.reduceAdd, Nat.reduceMul, Nat.reduceLeDiff, splice, newB, vcs, Ty.t3, Ty.t9, Ty.t25, *]; rfl) | (with_reducible first | refine aw_then ?_ | refine aw_skip ?_ | refine aw_ret ?_ | refine aw_exit ?_ | refine aw_block ?_ | refine xr_reg (by decide +kernel) ?_ | refine xr_nil ?_ | refine k_norm ?_ | refine k_ret ?_ | refine k_exit ?_ | refine b_norm ?_ | refine b_ret ?_ | refine b_exit ?_ | refine b_past (by decide) ?_) | (refine xr_do (v := ?_) (h' := ?_) (by exact rfl) ?_ ?_; rotate_left 2) | (refine xr_st (v := ?_) (h' := ?_) (by exact rfl) ?_ ?_; rotate_left 2) | (refine aw_c (b := ?_) (by decide) ?_ ?_; rotate_left 1; (· simp only [ev, Zb, reduceIte, Nat.reduceEqDiff, *]; rfl)) | (with_reducible first | refine cw_t ?_ | refine cw_f ?_) | refine cw_if (fun hb => ?_) (fun hb => ?_) | (refine r_ret (vs := ?_) ?_ ?_; rotate_left 1; (· simp only [resV, ev, Zb, reduceIte, Nat.reduceEqDiff, Zj, *]; rfl)))
    refine ⟨?_, rfl⟩
    rw [List.take_of_length_le hkn] at hall
    simp only [oneOf, idxOf, hall]
/-- A slice that may be cut: its place is plain, or it is its own. -/
def SpOk (I : Heap) (v : Value) (e : Nat) : Prop := ∀ (a : Addr) (l c : Nat), v = .slice (some a) l c → a.spot = none ∨ ∃ bk : Blk, I[a.block]? = some bk ∧ bk.k = 2 ∧ bk.e = e
theorem cut_pre {P : Program} {t te : TypeId} {I : Heap} {v : Value} {e : Nat} {rows : List (List Value)} {i : Nat} (ht : slT P t = some te) (hz : szT P te = some e) (hs : Sl I v e rows) (hp : SpOk I v e) (hi : i ≤ rows.length) (hbig : rows.length ≤ 1048576) :
    ∃ v', Am.flat v' = true ∧ Sl I v' e (rows.take i) ∧ ∀ h : Heap, Sub I h → cut P t h v none (some (.int .i64 i)) none = some v' := by
  obtain ⟨b, c, rfl, hc, hr⟩ := hs
  have hb1 : bnd c c (some (.int .i64 i)) = some i := by
    simp only [bnd]
    rw [if_pos ⟨by omega, by omega⟩]; rfl
  have hcb : cutB rows.length c none (some (.int .i64 i)) none = some (0, i, c) := by
    simp [cutB, bnd_none, hb1]
  have hlen : (rows.take i).length = i := by rw [List.length_take]; omega
  have hrow : ∀ (j : Nat) (r : List Value), (rows.take i)[j]? = some r → rows[j]? = some r := fun j r h => by
    rw [List.getElem?_take] at h
    split at h
    · exact h
    · cases h
  cases b with
  | none =>
    refine ⟨.slice none i c, rfl, ⟨none, c, by rw [hlen], by omega, fun j r hj => hr j r (hrow j r hj)⟩, fun h _ => ?_⟩
    simp only [cut, ht, hcb, Zw, Z35]
    rw [if_pos ⟨hc, fun e' he' => by cases he'; rw [hz]; rfl⟩]
    simp
  | some a =>
    by_cases hsp : a.spot = none
    · refine ⟨.slice (some a) i c, rfl, ⟨some a, c, by rw [hlen], by omega, fun j r hj => hr j r (hrow j r hj)⟩, fun h _ => ?_⟩
      simp only [cut, ht, hz, hcb, if_pos hc, if_pos hsp, Nat.sub_zero]
      by_cases h0 : c = 0
      · rw [if_pos h0]
      · rw [if_neg h0, Nat.zero_mul, Zi]
        obtain ⟨x, y, z⟩ := a
        simp only at hsp
        rw [hsp]
    · obtain ⟨bk, q1, q2, q3⟩ := (hp a _ _ rfl).resolve_left hsp
      refine ⟨.slice (some ⟨a.block, a.off, some 0⟩) i c, rfl, ⟨some ⟨a.block, a.off, some 0⟩, c, by rw [hlen], by omega, fun j r hj => ?_⟩, fun h s => ?_⟩
      · obtain ⟨a', e1, e2⟩ := hr j r (hrow j r hj)
        cases e1
        exact ⟨_, rfl, e2⟩
      · simp only [cut, ht, hz, hcb, if_pos hc, if_neg hsp, s.2 _ _ q1 (by omega), Nat.sub_zero, Nat.zero_mul, Zi]
        rw [if_neg (by simp), if_pos ⟨q2, q3⟩]
structure PaperM where
  spec : SpecM
  names : List ByteArray
def PaperM.small (p : PaperM) : Prop := p.spec.small ∧ p.names.length ≤ 1048576 ∧ ∀ s ∈ p.names, s.size ≤ 1048576
def nmOk (l : List ByteArray) (k : Nat) : Bool := nameOk (l.getD k ByteArray.empty) && !hasS (l.take k) (l.getD k ByteArray.empty)
def namesOk (l : List ByteArray) (k : Nat) : Bool := (List.range k).all (nmOk l)
def paperOk (p : PaperM) : Bool := specOk p.spec && (decide ((p.names.length : Int) = p.spec.tasks.length) && namesOk p.names p.names.length)
theorem namesOk_succ {l : List ByteArray} {k : Nat} (h : namesOk l k = true) (h2 : nmOk l k = true) : namesOk l (k + 1) = true := by
  unfold namesOk at *; rw [List.range_succ, List.all_append, h]; simp only [Z1f, Z1p, h2, Z1d]
theorem namesOk_bad {l : List ByteArray} {k : Nat} (hk : k < l.length) (h2 : nmOk l k = false) : namesOk l l.length = false :=
  List.all_eq_false.2 ⟨k, List.mem_range.2 hk, by rw [h2]; simp⟩
theorem Sl.b1 {h : Heap} {b : Option Addr} {n c e : Nat} {rows : List (List Value)} (hs : Sl h (.slice b n c) e rows) : n = rows.length := by
  obtain ⟨b', c', q, _⟩ := hs; cases q; rfl
theorem isPaper_ok (p : PaperM) (vt vn : Value) (I h : Heap) (hI : Sub I h) (hs : RTasks I vt p.spec.tasks) (hn : Sl I vn 1 (strs p.names)) (hsp : SpOk I vn 1) (hsm : p.small) :
    ACalls Try.prog 0 27 #[.agg #[.int .i64 p.spec.conds, vt, vn]] h
    fun v h' => v = .bool (paperOk p) ∧ h' = h := by
  refine acalls_pure (.inl rfl) ?_
  obtain ⟨s, nm⟩ := p
  obtain ⟨hsm, hnl, hns⟩ := hsm
  simp only at hs hn hsm hnl hns ⊢
  have hfl := hs.flat
  have hfn := hn.flat
  have hRT := hs
  have htl := hsm.1
  obtain ⟨b, c, rfl, hcc, _⟩ := hs.form
  obtain ⟨vb, vc, rfl, hvc, hrow⟩ := id hn
  rw [strs_length] at *
  rcases Bool.eq_false_or_eq_true (specOk s) with hsk | hsk
  · by_cases hl : (nm.length : Int) = s.tasks.length
    · have hlt : decide ((nm.length : Int) = s.tasks.length) = true := decide_eq_true hl
      have hpo : ∀ b, namesOk nm nm.length = b → paperOk ⟨s, nm⟩ = b := fun b hb => by simp only [paperOk, hsk, hlt, hb, Bool.true_and]
      clear hl
      refine Z36 Try.func27 rfl Try.ntmps27 (by simp) (by dsimp only [Try.f27]) ?_
      repeat' (first | ((with_reducible refine eq_go ?_); simp only [stp, ev, ZB, reduceIte, Nat.reduceEqDiff, Z2x, Z13, Zy, Option.map_none, ldv, fldA, idxA, blt, lenV, Z10, ZH, Zg, Ze, Z14, Zw, Z33, Nat.reduceAdd, Nat.reduceMul, Nat.reduceLeDiff, splice, newB, vcs, Ty.t3, Ty.t9, Ty.t25, Ty.t30, Ty.t32, Ty.t34, Ty.t86, Ty.t89, *]; rfl) | (with_reducible first | refine aw_then ?_ | refine aw_skip ?_ | refine aw_ret ?_ | refine aw_exit ?_ | refine aw_block ?_ | refine xr_reg (by decide +kernel) ?_ | refine xr_nil ?_ | refine k_norm ?_ | refine k_ret ?_ | refine k_exit ?_ | refine b_norm ?_ | refine b_ret ?_ | refine b_exit ?_ | refine b_past (by decide) ?_) | (refine Ty.c35 (args := ?_) (K := ?_) ?_ ?_ ?_; rotate_left 2) | (refine Ty.c46 (args := ?_) (K := ?_) ?_ ?_ ?_; rotate_left 2) | (refine Ty.c47 (args := ?_) (K := ?_) ?_ ?_ ?_; rotate_left 2) | (refine xr_do (v := ?_) (h' := ?_) (by exact rfl) ?_ ?_; rotate_left 2) | (refine xr_st (v := ?_) (h' := ?_) (by exact rfl) ?_ ?_; rotate_left 2) | (refine xr_g (b := ?_) (by exact rfl) ?_ ?_; rotate_left 1; (· simp only [ev, Zb, reduceIte, Nat.reduceEqDiff, Z8, Z5, *]; rfl)) | (with_reducible first | refine gw_tt ?_ | refine gw_ff ?_ | refine gw_tf ?_ | refine gw_ft ?_ | refine gw_un ?_) | refine gw_if (fun hb => ?_) (fun hb => ?_) | (refine aw_c (b := ?_) (by decide) ?_ ?_; rotate_left 1; (· simp only [ev, Zb, reduceIte, Nat.reduceEqDiff, *]; rfl)) | (with_reducible first | refine cw_t ?_ | refine cw_f ?_) | refine cw_if (fun hb => ?_) (fun hb => ?_) | (refine r_ret (vs := ?_) ?_ ?_; rotate_left 1; (· simp only [resV, ev, Zb, reduceIte, Nat.reduceEqDiff, Zj, *]; rfl)) | ((with_reducible refine isName_ok _ _ ?_); (· first | omega | (simp only [Z2]; omega))) | ((with_reducible refine isSpec_ok s _ I _ ?_ ?_ ?_); (· first | assumption | exact Sub.refl _ | exact Sub.app ‹_› _ | exact Sub.app (Sub.refl _) _); (· assumption); (· assumption)) | ((with_reducible refine containsStr_ok ?_ _ _ _ ?_ ?_); rotate_left 1; (· first | assumption | exact Sl.sub ‹_› (by first | assumption | exact Sub.refl _ | exact Sub.app ‹_› _ | exact Sub.app (Sub.refl _) _)); (· first | omega | (simp only [Z2]; omega))) | ((with_reducible refine Z2w ?_); rintro _ _ ⟨rfl, hh⟩; replace hh := hh.symm; subst hh))
      refine aw_for [1, 20, 21] (fun k T h' => h' = h ++ [⟨2, 1, [.int .i64 s.conds, .slice b s.tasks.length c, .slice vb nm.length vc]⟩] ∧ T 22 = .int .i64 k ∧ namesOk nm k = true) nm.length (k0 := 0) (Nat.zero_le _) ⟨rfl, rfl, rfl⟩ ?_
      rintro k T h' hk hR ⟨rfl, h22, hall⟩
      simp only [Z37, Z38, Z39, implies_true, and_true, stp, ev, ZB, reduceIte, Nat.reduceEqDiff, Z2x, Z13, Zy] at hR
      clear hlt hsk
      rcases Nat.lt_or_ge k nm.length with hkn | hkn
      · have h1 : (k : Int) < nm.length := by omega
        obtain ⟨a, rfl, hld⟩ := Sl.row hrow (k := k) (by rw [strs_length]; exact hkn)
        simp only [strs, List.getElem_map] at hld
        have hgc := fun L => (hI.app L).get (getC_of_load hld)
        obtain ⟨v', hvf, hvs, hcut0⟩ := cut_pre (P := Try.prog) (t := 25) Ty.sl25 Ty.sz9 hn hsp (i := k) (by rw [strs_length]; omega) (by rw [strs_length]; omega)
        rw [strs_take] at hvs
        have hcut := fun L => hcut0 _ (hI.app L)
        have hsz := hns nm[k] (List.getElem_mem hkn)
        have hnk : nmOk nm k = (nameOk nm[k] && !hasS (nm.take k) nm[k]) := by unfold nmOk; rw [List.getD_eq_getElem?_getD, List.getElem?_eq_getElem hkn]; rfl
        have hgo := fun q => namesOk_succ (k := k) hall q
        have hbad := fun q => hpo _ (namesOk_bad hkn q)
        have htkl : (nm.take k).length ≤ 1048576 := by rw [List.length_take]; omega
        clear hrow hcut0 hld hpo hns
        generalize nm[k] = x at *
        rcases Bool.eq_false_or_eq_true (nameOk x) with h5 | h5
        · rcases Bool.eq_false_or_eq_true (hasS (nm.take k) x) with h6 | h6
          · rw [h5, h6] at hnk
            have hpb := hbad (by rw [hnk]; rfl)
            repeat' (first | ((with_reducible refine eq_go ?_); simp only [stp, ev, ZB, reduceIte, Nat.reduceEqDiff, Z2x, Z13, Zy, Option.map_none, ldv, fldA, idxA, blt, lenV, Z10, ZH, Zg, Ze, Z14, Zw, Z33, Nat.reduceAdd, Nat.reduceMul, Nat.reduceLeDiff, splice, newB, vcs, Ty.t3, Ty.t9, Ty.t25, Ty.t30, Ty.t32, Ty.t34, Ty.t86, Ty.t89, *]; rfl) | (with_reducible first | refine aw_then ?_ | refine aw_skip ?_ | refine aw_ret ?_ | refine aw_exit ?_ | refine aw_block ?_ | refine xr_reg (by decide +kernel) ?_ | refine xr_nil ?_ | refine k_norm ?_ | refine k_ret ?_ | refine k_exit ?_ | refine b_norm ?_ | refine b_ret ?_ | refine b_exit ?_ | refine b_past (by decide) ?_) | (refine Ty.c35 (args := ?_) (K := ?_) ?_ ?_ ?_; rotate_left 2) | (refine Ty.c46 (args := ?_) (K := ?_) ?_ ?_ ?_; rotate_left 2) | (refine Ty.c47 (args := ?_) (K := ?_) ?_ ?_ ?_; rotate_left 2) | (refine xr_do (v := ?_) (h' := ?_) (by exact rfl) ?_ ?_; rotate_left 2) | (refine xr_st (v := ?_) (h' := ?_) (by exact rfl) ?_ ?_; rotate_left 2) | (refine xr_g (b := ?_) (by exact rfl) ?_ ?_; rotate_left 1; (· simp only [ev, Zb, reduceIte, Nat.reduceEqDiff, Z8, Z5, *]; rfl)) | (with_reducible first | refine gw_tt ?_ | refine gw_ff ?_ | refine gw_tf ?_ | refine gw_ft ?_ | refine gw_un ?_) | refine gw_if (fun hb => ?_) (fun hb => ?_) | (refine aw_c (b := ?_) (by decide) ?_ ?_; rotate_left 1; (· simp only [ev, Zb, reduceIte, Nat.reduceEqDiff, *]; rfl)) | (with_reducible first | refine cw_t ?_ | refine cw_f ?_) | refine cw_if (fun hb => ?_) (fun hb => ?_) | (refine r_ret (vs := ?_) ?_ ?_; rotate_left 1; (· simp only [resV, ev, Zb, reduceIte, Nat.reduceEqDiff, Zj, *]; rfl)) | ((with_reducible refine isName_ok _ _ ?_); (· first | omega | (simp only [Z2]; omega))) | ((with_reducible refine isSpec_ok s _ I _ ?_ ?_ ?_); (· first | assumption | exact Sub.refl _ | exact Sub.app ‹_› _ | exact Sub.app (Sub.refl _) _); (· assumption); (· assumption)) | ((with_reducible refine containsStr_ok ?_ _ _ _ ?_ ?_); rotate_left 1; (· first | assumption | exact Sl.sub ‹_› (by first | assumption | exact Sub.refl _ | exact Sub.app ‹_› _ | exact Sub.app (Sub.refl _) _)); (· first | omega | (simp only [Z2]; omega))) | ((with_reducible refine Z2w ?_); rintro _ _ ⟨rfl, hh⟩; replace hh := hh.symm; subst hh))
            refine ⟨?_, _, rfl⟩
            rw [hpb]; rfl
          · rw [h5, h6] at hnk
            have hgo' := hgo (by rw [hnk]; rfl)
            repeat' (first | ((with_reducible refine eq_go ?_); simp only [stp, ev, ZB, reduceIte, Nat.reduceEqDiff, Z2x, Z13, Zy, Option.map_none, ldv, fldA, idxA, blt, lenV, Z10, ZH, Zg, Ze, Z14, Zw, Z33, Nat.reduceAdd, Nat.reduceMul, Nat.reduceLeDiff, splice, newB, vcs, Ty.t3, Ty.t9, Ty.t25, Ty.t30, Ty.t32, Ty.t34, Ty.t86, Ty.t89, *]; rfl) | (with_reducible first | refine aw_then ?_ | refine aw_skip ?_ | refine aw_ret ?_ | refine aw_exit ?_ | refine aw_block ?_ | refine xr_reg (by decide +kernel) ?_ | refine xr_nil ?_ | refine k_norm ?_ | refine k_ret ?_ | refine k_exit ?_ | refine b_norm ?_ | refine b_ret ?_ | refine b_exit ?_ | refine b_past (by decide) ?_) | (refine Ty.c35 (args := ?_) (K := ?_) ?_ ?_ ?_; rotate_left 2) | (refine Ty.c46 (args := ?_) (K := ?_) ?_ ?_ ?_; rotate_left 2) | (refine Ty.c47 (args := ?_) (K := ?_) ?_ ?_ ?_; rotate_left 2) | (refine xr_do (v := ?_) (h' := ?_) (by exact rfl) ?_ ?_; rotate_left 2) | (refine xr_st (v := ?_) (h' := ?_) (by exact rfl) ?_ ?_; rotate_left 2) | (refine xr_g (b := ?_) (by exact rfl) ?_ ?_; rotate_left 1; (· simp only [ev, Zb, reduceIte, Nat.reduceEqDiff, Z8, Z5, *]; rfl)) | (with_reducible first | refine gw_tt ?_ | refine gw_ff ?_ | refine gw_tf ?_ | refine gw_ft ?_ | refine gw_un ?_) | refine gw_if (fun hb => ?_) (fun hb => ?_) | (refine aw_c (b := ?_) (by decide) ?_ ?_; rotate_left 1; (· simp only [ev, Zb, reduceIte, Nat.reduceEqDiff, *]; rfl)) | (with_reducible first | refine cw_t ?_ | refine cw_f ?_) | refine cw_if (fun hb => ?_) (fun hb => ?_) | (refine r_ret (vs := ?_) ?_ ?_; rotate_left 1; (· simp only [resV, ev, Zb, reduceIte, Nat.reduceEqDiff, Zj, *]; rfl)) | ((with_reducible refine isName_ok _ _ ?_); (· first | omega | (simp only [Z2]; omega))) | ((with_reducible refine isSpec_ok s _ I _ ?_ ?_ ?_); (· first | assumption | exact Sub.refl _ | exact Sub.app ‹_› _ | exact Sub.app (Sub.refl _) _); (· assumption); (· assumption)) | ((with_reducible refine containsStr_ok ?_ _ _ _ ?_ ?_); rotate_left 1; (· first | assumption | exact Sl.sub ‹_› (by first | assumption | exact Sub.refl _ | exact Sub.app ‹_› _ | exact Sub.app (Sub.refl _) _)); (· first | omega | (simp only [Z2]; omega))) | ((with_reducible refine Z2w ?_); rintro _ _ ⟨rfl, hh⟩; replace hh := hh.symm; subst hh))
            refine ⟨by first | assumption | omega, ?_, ?_⟩
            · simp only [Z37, Z38, Z39, implies_true, and_true, ZB, stp, ev, reduceIte, Nat.reduceEqDiff, Z2x, Z13, Zy, *]
            refine ⟨rfl, ?_, hgo'⟩
            simp only [Zb, reduceIte, Nat.reduceEqDiff]
            rw [wrap_id (by omega)]; rfl
        · rw [h5, Bool.false_and] at hnk
          have hpb := hbad hnk
          repeat' (first | ((with_reducible refine eq_go ?_); simp only [stp, ev, ZB, reduceIte, Nat.reduceEqDiff, Z2x, Z13, Zy, Option.map_none, ldv, fldA, idxA, blt, lenV, Z10, ZH, Zg, Ze, Z14, Zw, Z33, Nat.reduceAdd, Nat.reduceMul, Nat.reduceLeDiff, splice, newB, vcs, Ty.t3, Ty.t9, Ty.t25, Ty.t30, Ty.t32, Ty.t34, Ty.t86, Ty.t89, *]; rfl) | (with_reducible first | refine aw_then ?_ | refine aw_skip ?_ | refine aw_ret ?_ | refine aw_exit ?_ | refine aw_block ?_ | refine xr_reg (by decide +kernel) ?_ | refine xr_nil ?_ | refine k_norm ?_ | refine k_ret ?_ | refine k_exit ?_ | refine b_norm ?_ | refine b_ret ?_ | refine b_exit ?_ | refine b_past (by decide) ?_) | (refine Ty.c35 (args := ?_) (K := ?_) ?_ ?_ ?_; rotate_left 2) | (refine Ty.c46 (args := ?_) (K := ?_) ?_ ?_ ?_; rotate_left 2) | (refine Ty.c47 (args := ?_) (K := ?_) ?_ ?_ ?_; rotate_left 2) | (refine xr_do (v := ?_) (h' := ?_) (by exact rfl) ?_ ?_; rotate_left 2) | (refine xr_st (v := ?_) (h' := ?_) (by exact rfl) ?_ ?_; rotate_left 2) | (refine xr_g (b := ?_) (by exact rfl) ?_ ?_; rotate_left 1; (· simp only [ev, Zb, reduceIte, Nat.reduceEqDiff, Z8, Z5, *]; rfl)) | (with_reducible first | refine gw_tt ?_ | refine gw_ff ?_ | refine gw_tf ?_ | refine gw_ft ?_ | refine gw_un ?_) | refine gw_if (fun hb => ?_) (fun hb => ?_) | (refine aw_c (b := ?_) (by decide) ?_ ?_; rotate_left 1; (· simp only [ev, Zb, reduceIte, Nat.reduceEqDiff, *]; rfl)) | (with_reducible first | refine cw_t ?_ | refine cw_f ?_) | refine cw_if (fun hb => ?_) (fun hb => ?_) | (refine r_ret (vs := ?_) ?_ ?_; rotate_left 1; (· simp only [resV, ev, Zb, reduceIte, Nat.reduceEqDiff, Zj, *]; rfl)) | ((with_reducible refine isName_ok _ _ ?_); (· first | omega | (simp only [Z2]; omega))) | ((with_reducible refine isSpec_ok s _ I _ ?_ ?_ ?_); (· first | assumption | exact Sub.refl _ | exact Sub.app ‹_› _ | exact Sub.app (Sub.refl _) _); (· assumption); (· assumption)) | ((with_reducible refine containsStr_ok ?_ _ _ _ ?_ ?_); rotate_left 1; (· first | assumption | exact Sl.sub ‹_› (by first | assumption | exact Sub.refl _ | exact Sub.app ‹_› _ | exact Sub.app (Sub.refl _) _)); (· first | omega | (simp only [Z2]; omega))) | ((with_reducible refine Z2w ?_); rintro _ _ ⟨rfl, hh⟩; replace hh := hh.symm; subst hh))
          refine ⟨?_, _, rfl⟩
          rw [hpb]; rfl
      · have h1 : ¬ (k : Int) < nm.length := by omega
        obtain rfl : k = nm.length := by omega
        have hpt := hpo _ hall
        clear hrow
        repeat' (first | ((with_reducible refine eq_go ?_); simp only [stp, ev, ZB, reduceIte, Nat.reduceEqDiff, Z2x, Z13, Zy, Option.map_none, ldv, fldA, idxA, blt, lenV, Z10, ZH, Zg, Ze, Z14, Zw, Z33, Nat.reduceAdd, Nat.reduceMul, Nat.reduceLeDiff, splice, newB, vcs, Ty.t3, Ty.t9, Ty.t25, Ty.t30, Ty.t32, Ty.t34, Ty.t86, Ty.t89, *]; rfl) | (with_reducible first | refine aw_then ?_ | refine aw_skip ?_ | refine aw_ret ?_ | refine aw_exit ?_ | refine aw_block ?_ | refine xr_reg (by decide +kernel) ?_ | refine xr_nil ?_ | refine k_norm ?_ | refine k_ret ?_ | refine k_exit ?_ | refine b_norm ?_ | refine b_ret ?_ | refine b_exit ?_ | refine b_past (by decide) ?_) | (refine Ty.c35 (args := ?_) (K := ?_) ?_ ?_ ?_; rotate_left 2) | (refine Ty.c46 (args := ?_) (K := ?_) ?_ ?_ ?_; rotate_left 2) | (refine Ty.c47 (args := ?_) (K := ?_) ?_ ?_ ?_; rotate_left 2) | (refine xr_do (v := ?_) (h' := ?_) (by exact rfl) ?_ ?_; rotate_left 2) | (refine xr_st (v := ?_) (h' := ?_) (by exact rfl) ?_ ?_; rotate_left 2) | (refine xr_g (b := ?_) (by exact rfl) ?_ ?_; rotate_left 1; (· simp only [ev, Zb, reduceIte, Nat.reduceEqDiff, Z8, Z5, *]; rfl)) | (with_reducible first | refine gw_tt ?_ | refine gw_ff ?_ | refine gw_tf ?_ | refine gw_ft ?_ | refine gw_un ?_) | refine gw_if (fun hb => ?_) (fun hb => ?_) | (refine aw_c (b := ?_) (by decide) ?_ ?_; rotate_left 1; (· simp only [ev, Zb, reduceIte, Nat.reduceEqDiff, *]; rfl)) | (with_reducible first | refine cw_t ?_ | refine cw_f ?_) | refine cw_if (fun hb => ?_) (fun hb => ?_) | (refine r_ret (vs := ?_) ?_ ?_; rotate_left 1; (· simp only [resV, ev, Zb, reduceIte, Nat.reduceEqDiff, Zj, *]; rfl)) | ((with_reducible refine isName_ok _ _ ?_); (· first | omega | (simp only [Z2]; omega))) | ((with_reducible refine isSpec_ok s _ I _ ?_ ?_ ?_); (· first | assumption | exact Sub.refl _ | exact Sub.app ‹_› _ | exact Sub.app (Sub.refl _) _); (· assumption); (· assumption)) | ((with_reducible refine containsStr_ok ?_ _ _ _ ?_ ?_); rotate_left 1; (· first | assumption | exact Sl.sub ‹_› (by first | assumption | exact Sub.refl _ | exact Sub.app ‹_› _ | exact Sub.app (Sub.refl _) _)); (· first | omega | (simp only [Z2]; omega))) | ((with_reducible refine Z2w ?_); rintro _ _ ⟨rfl, hh⟩; replace hh := hh.symm; subst hh))
        refine ⟨?_, _, rfl⟩
        rw [hpt]; rfl
    · have hlt : decide ((nm.length : Int) = s.tasks.length) = false := decide_eq_false hl
      have hpo : paperOk ⟨s, nm⟩ = false := by simp only [paperOk, hlt, Bool.false_and, Bool.and_false]
      clear hl
      refine Z36 Try.func27 rfl Try.ntmps27 (by simp) (by dsimp only [Try.f27]) ?_
      repeat' (first | ((with_reducible refine eq_go ?_); simp only [stp, ev, ZB, reduceIte, Nat.reduceEqDiff, Z2x, Z13, Zy, Option.map_none, ldv, fldA, idxA, blt, lenV, Z10, ZH, Zg, Ze, Z14, Zw, Z33, Nat.reduceAdd, Nat.reduceMul, Nat.reduceLeDiff, splice, newB, vcs, Ty.t3, Ty.t9, Ty.t25, Ty.t30, Ty.t32, Ty.t34, Ty.t86, Ty.t89, *]; rfl) | (with_reducible first | refine aw_then ?_ | refine aw_skip ?_ | refine aw_ret ?_ | refine aw_exit ?_ | refine aw_block ?_ | refine xr_reg (by decide +kernel) ?_ | refine xr_nil ?_ | refine k_norm ?_ | refine k_ret ?_ | refine k_exit ?_ | refine b_norm ?_ | refine b_ret ?_ | refine b_exit ?_ | refine b_past (by decide) ?_) | (refine Ty.c35 (args := ?_) (K := ?_) ?_ ?_ ?_; rotate_left 2) | (refine Ty.c46 (args := ?_) (K := ?_) ?_ ?_ ?_; rotate_left 2) | (refine Ty.c47 (args := ?_) (K := ?_) ?_ ?_ ?_; rotate_left 2) | (refine xr_do (v := ?_) (h' := ?_) (by exact rfl) ?_ ?_; rotate_left 2) | (refine xr_st (v := ?_) (h' := ?_) (by exact rfl) ?_ ?_; rotate_left 2) | (refine xr_g (b := ?_) (by exact rfl) ?_ ?_; rotate_left 1; (· simp only [ev, Zb, reduceIte, Nat.reduceEqDiff, Z8, Z5, *]; rfl)) | (with_reducible first | refine gw_tt ?_ | refine gw_ff ?_ | refine gw_tf ?_ | refine gw_ft ?_ | refine gw_un ?_) | refine gw_if (fun hb => ?_) (fun hb => ?_) | (refine aw_c (b := ?_) (by decide) ?_ ?_; rotate_left 1; (· simp only [ev, Zb, reduceIte, Nat.reduceEqDiff, *]; rfl)) | (with_reducible first | refine cw_t ?_ | refine cw_f ?_) | refine cw_if (fun hb => ?_) (fun hb => ?_) | (refine r_ret (vs := ?_) ?_ ?_; rotate_left 1; (· simp only [resV, ev, Zb, reduceIte, Nat.reduceEqDiff, Zj, *]; rfl)) | ((with_reducible refine isName_ok _ _ ?_); (· first | omega | (simp only [Z2]; omega))) | ((with_reducible refine isSpec_ok s _ I _ ?_ ?_ ?_); (· first | assumption | exact Sub.refl _ | exact Sub.app ‹_› _ | exact Sub.app (Sub.refl _) _); (· assumption); (· assumption)) | ((with_reducible refine containsStr_ok ?_ _ _ _ ?_ ?_); rotate_left 1; (· first | assumption | exact Sl.sub ‹_› (by first | assumption | exact Sub.refl _ | exact Sub.app ‹_› _ | exact Sub.app (Sub.refl _) _)); (· first | omega | (simp only [Z2]; omega))) | ((with_reducible refine Z2w ?_); rintro _ _ ⟨rfl, hh⟩; replace hh := hh.symm; subst hh))
      refine ⟨?_, _, rfl⟩
      rw [hpo]; rfl
  · have hpo : paperOk ⟨s, nm⟩ = false := by simp only [paperOk, hsk, Bool.false_and]
    refine Z36 Try.func27 rfl Try.ntmps27 (by simp) (by dsimp only [Try.f27]) ?_
    repeat' (first | ((with_reducible refine eq_go ?_); simp only [stp, ev, ZB, reduceIte, Nat.reduceEqDiff, Z2x, Z13, Zy, Option.map_none, ldv, fldA, idxA, blt, lenV, Z10, ZH, Zg, Ze, Z14, Zw, Z33, Nat.reduceAdd, Nat.reduceMul, Nat.reduceLeDiff, splice, newB, vcs, Ty.t3, Ty.t9, Ty.t25, Ty.t30, Ty.t32, Ty.t34, Ty.t86, Ty.t89, *]; rfl) | (with_reducible first | refine aw_then ?_ | refine aw_skip ?_ | refine aw_ret ?_ | refine aw_exit ?_ | refine aw_block ?_ | refine xr_reg (by decide +kernel) ?_ | refine xr_nil ?_ | refine k_norm ?_ | refine k_ret ?_ | refine k_exit ?_ | refine b_norm ?_ | refine b_ret ?_ | refine b_exit ?_ | refine b_past (by decide) ?_) | (refine Ty.c35 (args := ?_) (K := ?_) ?_ ?_ ?_; rotate_left 2) | (refine Ty.c46 (args := ?_) (K := ?_) ?_ ?_ ?_; rotate_left 2) | (refine Ty.c47 (args := ?_) (K := ?_) ?_ ?_ ?_; rotate_left 2) | (refine xr_do (v := ?_) (h' := ?_) (by exact rfl) ?_ ?_; rotate_left 2) | (refine xr_st (v := ?_) (h' := ?_) (by exact rfl) ?_ ?_; rotate_left 2) | (refine xr_g (b := ?_) (by exact rfl) ?_ ?_; rotate_left 1; (· simp only [ev, Zb, reduceIte, Nat.reduceEqDiff, Z8, Z5, *]; rfl)) | (with_reducible first | refine gw_tt ?_ | refine gw_ff ?_ | refine gw_tf ?_ | refine gw_ft ?_ | refine gw_un ?_) | refine gw_if (fun hb => ?_) (fun hb => ?_) | (refine aw_c (b := ?_) (by decide) ?_ ?_; rotate_left 1; (· simp only [ev, Zb, reduceIte, Nat.reduceEqDiff, *]; rfl)) | (with_reducible first | refine cw_t ?_ | refine cw_f ?_) | refine cw_if (fun hb => ?_) (fun hb => ?_) | (refine r_ret (vs := ?_) ?_ ?_; rotate_left 1; (· simp only [resV, ev, Zb, reduceIte, Nat.reduceEqDiff, Zj, *]; rfl)) | ((with_reducible refine isName_ok _ _ ?_); (· first | omega | (simp only [Z2]; omega))) | ((with_reducible refine isSpec_ok s _ I _ ?_ ?_ ?_); (· first | assumption | exact Sub.refl _ | exact Sub.app ‹_› _ | exact Sub.app (Sub.refl _) _); (· assumption); (· assumption)) | ((with_reducible refine containsStr_ok ?_ _ _ _ ?_ ?_); rotate_left 1; (· first | assumption | exact Sl.sub ‹_› (by first | assumption | exact Sub.refl _ | exact Sub.app ‹_› _ | exact Sub.app (Sub.refl _) _)); (· first | omega | (simp only [Z2]; omega))) | ((with_reducible refine Z2w ?_); rintro _ _ ⟨rfl, hh⟩; replace hh := hh.symm; subst hh))
    refine ⟨?_, _, rfl⟩
    rw [hpo]; rfl
theorem hasS_idx (l : List ByteArray) (x : ByteArray) : decide (0 ≤ idxOf (fun y => decide (x = y)) l) = hasS l x := idxOf_any _ _
theorem specGoodPaper_ok (p : PaperM) (vt vn : Value) (I h : Heap) (hI : Sub I h) (hs : RTasks I vt p.spec.tasks) (hn : Sl I vn 1 (strs p.names)) (hsp : SpOk I vn 1) (hsm : p.small) :
    ACalls Try.prog 0 7 #[.agg #[.int .i64 p.spec.conds, vt, vn]] h
    fun v h' => v = .bool (paperOk p) ∧ h' = h := by
  refine acalls_pure (.inl rfl) ?_
  obtain ⟨s, nm⟩ := p
  obtain ⟨hsm, hnl, hns⟩ := hsm
  simp only at hs hn hsm hnl hns ⊢
  have hfl := hs.flat
  have hfn := hn.flat
  have hRT := hs
  have htl := hsm.1
  obtain ⟨b, c, rfl, hcc, _⟩ := hs.form
  obtain ⟨vb, vc, rfl, hvc, hrow⟩ := id hn
  rw [strs_length] at *
  rcases Bool.eq_false_or_eq_true (specOk s) with hsk | hsk
  · by_cases hl : (nm.length : Int) = s.tasks.length
    · have hlt : decide ((nm.length : Int) = s.tasks.length) = true := decide_eq_true hl
      have hpo : ∀ b, namesOk nm nm.length = b → paperOk ⟨s, nm⟩ = b := fun b hb => by simp only [paperOk, hsk, hlt, hb, Bool.true_and]
      clear hl
      refine Z36 Try.func7 rfl Try.ntmps7 (by simp) (by dsimp only [Try.f7]) ?_
      repeat' (first | ((with_reducible refine eq_go ?_); simp only [stp, ev, ZB, reduceIte, Nat.reduceEqDiff, Z2x, Z13, Zy, Option.map_none, ldv, fldA, idxA, blt, lenV, Z10, ZH, Zg, Ze, Z14, Zw, Z33, Nat.reduceAdd, Nat.reduceMul, Nat.reduceLeDiff, splice, newB, vcs, Ty.t3, Ty.t9, Ty.t25, Ty.t30, Ty.t32, Ty.t34, Ty.t86, Ty.t89, *]; rfl) | (with_reducible first | refine aw_then ?_ | refine aw_skip ?_ | refine aw_ret ?_ | refine aw_exit ?_ | refine aw_block ?_ | refine xr_reg (by decide +kernel) ?_ | refine xr_nil ?_ | refine k_norm ?_ | refine k_ret ?_ | refine k_exit ?_ | refine b_norm ?_ | refine b_ret ?_ | refine b_exit ?_ | refine b_past (by decide) ?_) | (refine Ty.c20 (args := ?_) (K := ?_) ?_ ?_ ?_; rotate_left 2) | (refine Ty.c23 (args := ?_) (K := ?_) ?_ ?_ ?_; rotate_left 2) | (refine Ty.c24 (args := ?_) (K := ?_) ?_ ?_ ?_; rotate_left 2) | (refine xr_do (v := ?_) (h' := ?_) (by exact rfl) ?_ ?_; rotate_left 2) | (refine xr_st (v := ?_) (h' := ?_) (by exact rfl) ?_ ?_; rotate_left 2) | (refine xr_g (b := ?_) (by exact rfl) ?_ ?_; rotate_left 1; (· simp only [ev, Zb, reduceIte, Nat.reduceEqDiff, Z8, Z5, *]; rfl)) | (with_reducible first | refine gw_tt ?_ | refine gw_ff ?_ | refine gw_tf ?_ | refine gw_ft ?_ | refine gw_un ?_) | refine gw_if (fun hb => ?_) (fun hb => ?_) | (refine aw_c (b := ?_) (by decide) ?_ ?_; rotate_left 1; (· simp only [ev, Zb, reduceIte, Nat.reduceEqDiff, *]; rfl)) | (with_reducible first | refine cw_t ?_ | refine cw_f ?_) | refine cw_if (fun hb => ?_) (fun hb => ?_) | (refine r_ret (vs := ?_) ?_ ?_; rotate_left 1; (· simp only [resV, ev, Zb, reduceIte, Nat.reduceEqDiff, Zj, *]; rfl)) | ((with_reducible refine specGoodName_ok _ _ ?_); (· first | omega | (simp only [Z2]; omega))) | ((with_reducible refine specGoodSpec_ok s _ I _ ?_ ?_ ?_); (· first | assumption | exact Sub.refl _ | exact Sub.app ‹_› _ | exact Sub.app (Sub.refl _) _); (· assumption); (· assumption)) | ((with_reducible refine l20Name_ok ?_ _ _ _ ?_ ?_); rotate_left 1; (· first | assumption | exact Sl.sub ‹_› (by first | assumption | exact Sub.refl _ | exact Sub.app ‹_› _ | exact Sub.app (Sub.refl _) _)); (· first | omega | (simp only [Z2]; omega))) | ((with_reducible refine Z2w ?_); rintro _ _ ⟨rfl, hh⟩; replace hh := hh.symm; subst hh))
      refine aw_for [1, 20, 21] (fun k T h' => h' = h ++ [⟨2, 1, [.int .i64 s.conds, .slice b s.tasks.length c, .slice vb nm.length vc]⟩] ∧ T 22 = .int .i64 k ∧ namesOk nm k = true) nm.length (k0 := 0) (Nat.zero_le _) ⟨rfl, rfl, rfl⟩ ?_
      rintro k T h' hk hR ⟨rfl, h22, hall⟩
      simp only [Z37, Z38, Z39, implies_true, and_true, stp, ev, ZB, reduceIte, Nat.reduceEqDiff, Z2x, Z13, Zy] at hR
      clear hlt hsk
      rcases Nat.lt_or_ge k nm.length with hkn | hkn
      · have h1 : (k : Int) < nm.length := by omega
        obtain ⟨a, rfl, hld⟩ := Sl.row hrow (k := k) (by rw [strs_length]; exact hkn)
        simp only [strs, List.getElem_map] at hld
        have hgc := fun L => (hI.app L).get (getC_of_load hld)
        obtain ⟨v', hvf, hvs, hcut0⟩ := cut_pre (P := Try.prog) (t := 25) Ty.sl25 Ty.sz9 hn hsp (i := k) (by rw [strs_length]; omega) (by rw [strs_length]; omega)
        rw [strs_take] at hvs
        have hcut := fun L => hcut0 _ (hI.app L)
        have hsz := hns nm[k] (List.getElem_mem hkn)
        have hnk : nmOk nm k = (nameOk nm[k] && !hasS (nm.take k) nm[k]) := by unfold nmOk; rw [List.getD_eq_getElem?_getD, List.getElem?_eq_getElem hkn]; rfl
        have hgo := fun q => namesOk_succ (k := k) hall q
        have hbad := fun q => hpo _ (namesOk_bad hkn q)
        have htkl : (nm.take k).length ≤ 1048576 := by rw [List.length_take]; omega
        clear hrow hcut0 hld hpo hns
        generalize nm[k] = x at *
        rcases Bool.eq_false_or_eq_true (nameOk x) with h5 | h5
        · rcases Bool.eq_false_or_eq_true (hasS (nm.take k) x) with h6 | h6
          · have h7 : decide (0 ≤ idxOf (fun y => decide (x = y)) (nm.take k)) = _ := (hasS_idx _ _).trans h6
            rw [h5, h6] at hnk
            have hpb := hbad (by rw [hnk]; rfl)
            repeat' (first | ((with_reducible refine eq_go ?_); simp only [stp, ev, ZB, reduceIte, Nat.reduceEqDiff, Z2x, Z13, Zy, Option.map_none, ldv, fldA, idxA, blt, lenV, Z10, ZH, Zg, Ze, Z14, Zw, Z33, Nat.reduceAdd, Nat.reduceMul, Nat.reduceLeDiff, splice, newB, vcs, Ty.t3, Ty.t9, Ty.t25, Ty.t30, Ty.t32, Ty.t34, Ty.t86, Ty.t89, *]; rfl) | (with_reducible first | refine aw_then ?_ | refine aw_skip ?_ | refine aw_ret ?_ | refine aw_exit ?_ | refine aw_block ?_ | refine xr_reg (by decide +kernel) ?_ | refine xr_nil ?_ | refine k_norm ?_ | refine k_ret ?_ | refine k_exit ?_ | refine b_norm ?_ | refine b_ret ?_ | refine b_exit ?_ | refine b_past (by decide) ?_) | (refine Ty.c20 (args := ?_) (K := ?_) ?_ ?_ ?_; rotate_left 2) | (refine Ty.c23 (args := ?_) (K := ?_) ?_ ?_ ?_; rotate_left 2) | (refine Ty.c24 (args := ?_) (K := ?_) ?_ ?_ ?_; rotate_left 2) | (refine xr_do (v := ?_) (h' := ?_) (by exact rfl) ?_ ?_; rotate_left 2) | (refine xr_st (v := ?_) (h' := ?_) (by exact rfl) ?_ ?_; rotate_left 2) | (refine xr_g (b := ?_) (by exact rfl) ?_ ?_; rotate_left 1; (· simp only [ev, Zb, reduceIte, Nat.reduceEqDiff, Z8, Z5, *]; rfl)) | (with_reducible first | refine gw_tt ?_ | refine gw_ff ?_ | refine gw_tf ?_ | refine gw_ft ?_ | refine gw_un ?_) | refine gw_if (fun hb => ?_) (fun hb => ?_) | (refine aw_c (b := ?_) (by decide) ?_ ?_; rotate_left 1; (· simp only [ev, Zb, reduceIte, Nat.reduceEqDiff, *]; rfl)) | (with_reducible first | refine cw_t ?_ | refine cw_f ?_) | refine cw_if (fun hb => ?_) (fun hb => ?_) | (refine r_ret (vs := ?_) ?_ ?_; rotate_left 1; (· simp only [resV, ev, Zb, reduceIte, Nat.reduceEqDiff, Zj, *]; rfl)) | ((with_reducible refine specGoodName_ok _ _ ?_); (· first | omega | (simp only [Z2]; omega))) | ((with_reducible refine specGoodSpec_ok s _ I _ ?_ ?_ ?_); (· first | assumption | exact Sub.refl _ | exact Sub.app ‹_› _ | exact Sub.app (Sub.refl _) _); (· assumption); (· assumption)) | ((with_reducible refine l20Name_ok ?_ _ _ _ ?_ ?_); rotate_left 1; (· first | assumption | exact Sl.sub ‹_› (by first | assumption | exact Sub.refl _ | exact Sub.app ‹_› _ | exact Sub.app (Sub.refl _) _)); (· first | omega | (simp only [Z2]; omega))) | ((with_reducible refine Z2w ?_); rintro _ _ ⟨rfl, hh⟩; replace hh := hh.symm; subst hh))
            refine ⟨?_, _, rfl⟩
            rw [hpb]; rfl
          · have h7 : decide (0 ≤ idxOf (fun y => decide (x = y)) (nm.take k)) = _ := (hasS_idx _ _).trans h6
            rw [h5, h6] at hnk
            have hgo' := hgo (by rw [hnk]; rfl)
            repeat' (first | ((with_reducible refine eq_go ?_); simp only [stp, ev, ZB, reduceIte, Nat.reduceEqDiff, Z2x, Z13, Zy, Option.map_none, ldv, fldA, idxA, blt, lenV, Z10, ZH, Zg, Ze, Z14, Zw, Z33, Nat.reduceAdd, Nat.reduceMul, Nat.reduceLeDiff, splice, newB, vcs, Ty.t3, Ty.t9, Ty.t25, Ty.t30, Ty.t32, Ty.t34, Ty.t86, Ty.t89, *]; rfl) | (with_reducible first | refine aw_then ?_ | refine aw_skip ?_ | refine aw_ret ?_ | refine aw_exit ?_ | refine aw_block ?_ | refine xr_reg (by decide +kernel) ?_ | refine xr_nil ?_ | refine k_norm ?_ | refine k_ret ?_ | refine k_exit ?_ | refine b_norm ?_ | refine b_ret ?_ | refine b_exit ?_ | refine b_past (by decide) ?_) | (refine Ty.c20 (args := ?_) (K := ?_) ?_ ?_ ?_; rotate_left 2) | (refine Ty.c23 (args := ?_) (K := ?_) ?_ ?_ ?_; rotate_left 2) | (refine Ty.c24 (args := ?_) (K := ?_) ?_ ?_ ?_; rotate_left 2) | (refine xr_do (v := ?_) (h' := ?_) (by exact rfl) ?_ ?_; rotate_left 2) | (refine xr_st (v := ?_) (h' := ?_) (by exact rfl) ?_ ?_; rotate_left 2) | (refine xr_g (b := ?_) (by exact rfl) ?_ ?_; rotate_left 1; (· simp only [ev, Zb, reduceIte, Nat.reduceEqDiff, Z8, Z5, *]; rfl)) | (with_reducible first | refine gw_tt ?_ | refine gw_ff ?_ | refine gw_tf ?_ | refine gw_ft ?_ | refine gw_un ?_) | refine gw_if (fun hb => ?_) (fun hb => ?_) | (refine aw_c (b := ?_) (by decide) ?_ ?_; rotate_left 1; (· simp only [ev, Zb, reduceIte, Nat.reduceEqDiff, *]; rfl)) | (with_reducible first | refine cw_t ?_ | refine cw_f ?_) | refine cw_if (fun hb => ?_) (fun hb => ?_) | (refine r_ret (vs := ?_) ?_ ?_; rotate_left 1; (· simp only [resV, ev, Zb, reduceIte, Nat.reduceEqDiff, Zj, *]; rfl)) | ((with_reducible refine specGoodName_ok _ _ ?_); (· first | omega | (simp only [Z2]; omega))) | ((with_reducible refine specGoodSpec_ok s _ I _ ?_ ?_ ?_); (· first | assumption | exact Sub.refl _ | exact Sub.app ‹_› _ | exact Sub.app (Sub.refl _) _); (· assumption); (· assumption)) | ((with_reducible refine l20Name_ok ?_ _ _ _ ?_ ?_); rotate_left 1; (· first | assumption | exact Sl.sub ‹_› (by first | assumption | exact Sub.refl _ | exact Sub.app ‹_› _ | exact Sub.app (Sub.refl _) _)); (· first | omega | (simp only [Z2]; omega))) | ((with_reducible refine Z2w ?_); rintro _ _ ⟨rfl, hh⟩; replace hh := hh.symm; subst hh))
            refine ⟨by first | assumption | omega, ?_, ?_⟩
            · simp only [Z37, Z38, Z39, implies_true, and_true, ZB, stp, ev, reduceIte, Nat.reduceEqDiff, Z2x, Z13, Zy, *]
            refine ⟨rfl, ?_, hgo'⟩
            simp only [Zb, reduceIte, Nat.reduceEqDiff]
            rw [wrap_id (by omega)]; rfl
        · rw [h5, Bool.false_and] at hnk
          have hpb := hbad hnk
          repeat' (first | ((with_reducible refine eq_go ?_); simp only [stp, ev, ZB, reduceIte, Nat.reduceEqDiff, Z2x, Z13, Zy, Option.map_none, ldv, fldA, idxA, blt, lenV, Z10, ZH, Zg, Ze, Z14, Zw, Z33, Nat.reduceAdd, Nat.reduceMul, Nat.reduceLeDiff, splice, newB, vcs, Ty.t3, Ty.t9, Ty.t25, Ty.t30, Ty.t32, Ty.t34, Ty.t86, Ty.t89, *]; rfl) | (with_reducible first | refine aw_then ?_ | refine aw_skip ?_ | refine aw_ret ?_ | refine aw_exit ?_ | refine aw_block ?_ | refine xr_reg (by decide +kernel) ?_ | refine xr_nil ?_ | refine k_norm ?_ | refine k_ret ?_ | refine k_exit ?_ | refine b_norm ?_ | refine b_ret ?_ | refine b_exit ?_ | refine b_past (by decide) ?_) | (refine Ty.c20 (args := ?_) (K := ?_) ?_ ?_ ?_; rotate_left 2) | (refine Ty.c23 (args := ?_) (K := ?_) ?_ ?_ ?_; rotate_left 2) | (refine Ty.c24 (args := ?_) (K := ?_) ?_ ?_ ?_; rotate_left 2) | (refine xr_do (v := ?_) (h' := ?_) (by exact rfl) ?_ ?_; rotate_left 2) | (refine xr_st (v := ?_) (h' := ?_) (by exact rfl) ?_ ?_; rotate_left 2) | (refine xr_g (b := ?_) (by exact rfl) ?_ ?_; rotate_left 1; (· simp only [ev, Zb, reduceIte, Nat.reduceEqDiff, Z8, Z5, *]; rfl)) | (with_reducible first | refine gw_tt ?_ | refine gw_ff ?_ | refine gw_tf ?_ | refine gw_ft ?_ | refine gw_un ?_) | refine gw_if (fun hb => ?_) (fun hb => ?_) | (refine aw_c (b := ?_) (by decide) ?_ ?_; rotate_left 1; (· simp only [ev, Zb, reduceIte, Nat.reduceEqDiff, *]; rfl)) | (with_reducible first | refine cw_t ?_ | refine cw_f ?_) | refine cw_if (fun hb => ?_) (fun hb => ?_) | (refine r_ret (vs := ?_) ?_ ?_; rotate_left 1; (· simp only [resV, ev, Zb, reduceIte, Nat.reduceEqDiff, Zj, *]; rfl)) | ((with_reducible refine specGoodName_ok _ _ ?_); (· first | omega | (simp only [Z2]; omega))) | ((with_reducible refine specGoodSpec_ok s _ I _ ?_ ?_ ?_); (· first | assumption | exact Sub.refl _ | exact Sub.app ‹_› _ | exact Sub.app (Sub.refl _) _); (· assumption); (· assumption)) | ((with_reducible refine l20Name_ok ?_ _ _ _ ?_ ?_); rotate_left 1; (· first | assumption | exact Sl.sub ‹_› (by first | assumption | exact Sub.refl _ | exact Sub.app ‹_› _ | exact Sub.app (Sub.refl _) _)); (· first | omega | (simp only [Z2]; omega))) | ((with_reducible refine Z2w ?_); rintro _ _ ⟨rfl, hh⟩; replace hh := hh.symm; subst hh))
          refine ⟨?_, _, rfl⟩
          rw [hpb]; rfl
      · have h1 : ¬ (k : Int) < nm.length := by omega
        obtain rfl : k = nm.length := by omega
        have hpt := hpo _ hall
        clear hrow
        repeat' (first | ((with_reducible refine eq_go ?_); simp only [stp, ev, ZB, reduceIte, Nat.reduceEqDiff, Z2x, Z13, Zy, Option.map_none, ldv, fldA, idxA, blt, lenV, Z10, ZH, Zg, Ze, Z14, Zw, Z33, Nat.reduceAdd, Nat.reduceMul, Nat.reduceLeDiff, splice, newB, vcs, Ty.t3, Ty.t9, Ty.t25, Ty.t30, Ty.t32, Ty.t34, Ty.t86, Ty.t89, *]; rfl) | (with_reducible first | refine aw_then ?_ | refine aw_skip ?_ | refine aw_ret ?_ | refine aw_exit ?_ | refine aw_block ?_ | refine xr_reg (by decide +kernel) ?_ | refine xr_nil ?_ | refine k_norm ?_ | refine k_ret ?_ | refine k_exit ?_ | refine b_norm ?_ | refine b_ret ?_ | refine b_exit ?_ | refine b_past (by decide) ?_) | (refine Ty.c20 (args := ?_) (K := ?_) ?_ ?_ ?_; rotate_left 2) | (refine Ty.c23 (args := ?_) (K := ?_) ?_ ?_ ?_; rotate_left 2) | (refine Ty.c24 (args := ?_) (K := ?_) ?_ ?_ ?_; rotate_left 2) | (refine xr_do (v := ?_) (h' := ?_) (by exact rfl) ?_ ?_; rotate_left 2) | (refine xr_st (v := ?_) (h' := ?_) (by exact rfl) ?_ ?_; rotate_left 2) | (refine xr_g (b := ?_) (by exact rfl) ?_ ?_; rotate_left 1; (· simp only [ev, Zb, reduceIte, Nat.reduceEqDiff, Z8, Z5, *]; rfl)) | (with_reducible first | refine gw_tt ?_ | refine gw_ff ?_ | refine gw_tf ?_ | refine gw_ft ?_ | refine gw_un ?_) | refine gw_if (fun hb => ?_) (fun hb => ?_) | (refine aw_c (b := ?_) (by decide) ?_ ?_; rotate_left 1; (· simp only [ev, Zb, reduceIte, Nat.reduceEqDiff, *]; rfl)) | (with_reducible first | refine cw_t ?_ | refine cw_f ?_) | refine cw_if (fun hb => ?_) (fun hb => ?_) | (refine r_ret (vs := ?_) ?_ ?_; rotate_left 1; (· simp only [resV, ev, Zb, reduceIte, Nat.reduceEqDiff, Zj, *]; rfl)) | ((with_reducible refine specGoodName_ok _ _ ?_); (· first | omega | (simp only [Z2]; omega))) | ((with_reducible refine specGoodSpec_ok s _ I _ ?_ ?_ ?_); (· first | assumption | exact Sub.refl _ | exact Sub.app ‹_› _ | exact Sub.app (Sub.refl _) _); (· assumption); (· assumption)) | ((with_reducible refine l20Name_ok ?_ _ _ _ ?_ ?_); rotate_left 1; (· first | assumption | exact Sl.sub ‹_› (by first | assumption | exact Sub.refl _ | exact Sub.app ‹_› _ | exact Sub.app (Sub.refl _) _)); (· first | omega | (simp only [Z2]; omega))) | ((with_reducible refine Z2w ?_); rintro _ _ ⟨rfl, hh⟩; replace hh := hh.symm; subst hh))
        refine ⟨?_, _, rfl⟩
        rw [hpt]; rfl
    · have hlt : decide ((nm.length : Int) = s.tasks.length) = false := decide_eq_false hl
      have hpo : paperOk ⟨s, nm⟩ = false := by simp only [paperOk, hlt, Bool.false_and, Bool.and_false]
      clear hl
      refine Z36 Try.func7 rfl Try.ntmps7 (by simp) (by dsimp only [Try.f7]) ?_
      repeat' (first | ((with_reducible refine eq_go ?_); simp only [stp, ev, ZB, reduceIte, Nat.reduceEqDiff, Z2x, Z13, Zy, Option.map_none, ldv, fldA, idxA, blt, lenV, Z10, ZH, Zg, Ze, Z14, Zw, Z33, Nat.reduceAdd, Nat.reduceMul, Nat.reduceLeDiff, splice, newB, vcs, Ty.t3, Ty.t9, Ty.t25, Ty.t30, Ty.t32, Ty.t34, Ty.t86, Ty.t89, *]; rfl) | (with_reducible first | refine aw_then ?_ | refine aw_skip ?_ | refine aw_ret ?_ | refine aw_exit ?_ | refine aw_block ?_ | refine xr_reg (by decide +kernel) ?_ | refine xr_nil ?_ | refine k_norm ?_ | refine k_ret ?_ | refine k_exit ?_ | refine b_norm ?_ | refine b_ret ?_ | refine b_exit ?_ | refine b_past (by decide) ?_) | (refine Ty.c20 (args := ?_) (K := ?_) ?_ ?_ ?_; rotate_left 2) | (refine Ty.c23 (args := ?_) (K := ?_) ?_ ?_ ?_; rotate_left 2) | (refine Ty.c24 (args := ?_) (K := ?_) ?_ ?_ ?_; rotate_left 2) | (refine xr_do (v := ?_) (h' := ?_) (by exact rfl) ?_ ?_; rotate_left 2) | (refine xr_st (v := ?_) (h' := ?_) (by exact rfl) ?_ ?_; rotate_left 2) | (refine xr_g (b := ?_) (by exact rfl) ?_ ?_; rotate_left 1; (· simp only [ev, Zb, reduceIte, Nat.reduceEqDiff, Z8, Z5, *]; rfl)) | (with_reducible first | refine gw_tt ?_ | refine gw_ff ?_ | refine gw_tf ?_ | refine gw_ft ?_ | refine gw_un ?_) | refine gw_if (fun hb => ?_) (fun hb => ?_) | (refine aw_c (b := ?_) (by decide) ?_ ?_; rotate_left 1; (· simp only [ev, Zb, reduceIte, Nat.reduceEqDiff, *]; rfl)) | (with_reducible first | refine cw_t ?_ | refine cw_f ?_) | refine cw_if (fun hb => ?_) (fun hb => ?_) | (refine r_ret (vs := ?_) ?_ ?_; rotate_left 1; (· simp only [resV, ev, Zb, reduceIte, Nat.reduceEqDiff, Zj, *]; rfl)) | ((with_reducible refine specGoodName_ok _ _ ?_); (· first | omega | (simp only [Z2]; omega))) | ((with_reducible refine specGoodSpec_ok s _ I _ ?_ ?_ ?_); (· first | assumption | exact Sub.refl _ | exact Sub.app ‹_› _ | exact Sub.app (Sub.refl _) _); (· assumption); (· assumption)) | ((with_reducible refine l20Name_ok ?_ _ _ _ ?_ ?_); rotate_left 1; (· first | assumption | exact Sl.sub ‹_› (by first | assumption | exact Sub.refl _ | exact Sub.app ‹_› _ | exact Sub.app (Sub.refl _) _)); (· first | omega | (simp only [Z2]; omega))) | ((with_reducible refine Z2w ?_); rintro _ _ ⟨rfl, hh⟩; replace hh := hh.symm; subst hh))
      refine ⟨?_, _, rfl⟩
      rw [hpo]; rfl
  · have hpo : paperOk ⟨s, nm⟩ = false := by simp only [paperOk, hsk, Bool.false_and]
    refine Z36 Try.func7 rfl Try.ntmps7 (by simp) (by dsimp only [Try.f7]) ?_
    repeat' (first | ((with_reducible refine eq_go ?_); simp only [stp, ev, ZB, reduceIte, Nat.reduceEqDiff, Z2x, Z13, Zy, Option.map_none, ldv, fldA, idxA, blt, lenV, Z10, ZH, Zg, Ze, Z14, Zw, Z33, Nat.reduceAdd, Nat.reduceMul, Nat.reduceLeDiff, splice, newB, vcs, Ty.t3, Ty.t9, Ty.t25, Ty.t30, Ty.t32, Ty.t34, Ty.t86, Ty.t89, *]; rfl) | (with_reducible first | refine aw_then ?_ | refine aw_skip ?_ | refine aw_ret ?_ | refine aw_exit ?_ | refine aw_block ?_ | refine xr_reg (by decide +kernel) ?_ | refine xr_nil ?_ | refine k_norm ?_ | refine k_ret ?_ | refine k_exit ?_ | refine b_norm ?_ | refine b_ret ?_ | refine b_exit ?_ | refine b_past (by decide) ?_) | (refine Ty.c20 (args := ?_) (K := ?_) ?_ ?_ ?_; rotate_left 2) | (refine Ty.c23 (args := ?_) (K := ?_) ?_ ?_ ?_; rotate_left 2) | (refine Ty.c24 (args := ?_) (K := ?_) ?_ ?_ ?_; rotate_left 2) | (refine xr_do (v := ?_) (h' := ?_) (by exact rfl) ?_ ?_; rotate_left 2) | (refine xr_st (v := ?_) (h' := ?_) (by exact rfl) ?_ ?_; rotate_left 2) | (refine xr_g (b := ?_) (by exact rfl) ?_ ?_; rotate_left 1; (· simp only [ev, Zb, reduceIte, Nat.reduceEqDiff, Z8, Z5, *]; rfl)) | (with_reducible first | refine gw_tt ?_ | refine gw_ff ?_ | refine gw_tf ?_ | refine gw_ft ?_ | refine gw_un ?_) | refine gw_if (fun hb => ?_) (fun hb => ?_) | (refine aw_c (b := ?_) (by decide) ?_ ?_; rotate_left 1; (· simp only [ev, Zb, reduceIte, Nat.reduceEqDiff, *]; rfl)) | (with_reducible first | refine cw_t ?_ | refine cw_f ?_) | refine cw_if (fun hb => ?_) (fun hb => ?_) | (refine r_ret (vs := ?_) ?_ ?_; rotate_left 1; (· simp only [resV, ev, Zb, reduceIte, Nat.reduceEqDiff, Zj, *]; rfl)) | ((with_reducible refine specGoodName_ok _ _ ?_); (· first | omega | (simp only [Z2]; omega))) | ((with_reducible refine specGoodSpec_ok s _ I _ ?_ ?_ ?_); (· first | assumption | exact Sub.refl _ | exact Sub.app ‹_› _ | exact Sub.app (Sub.refl _) _); (· assumption); (· assumption)) | ((with_reducible refine l20Name_ok ?_ _ _ _ ?_ ?_); rotate_left 1; (· first | assumption | exact Sl.sub ‹_› (by first | assumption | exact Sub.refl _ | exact Sub.app ‹_› _ | exact Sub.app (Sub.refl _) _)); (· first | omega | (simp only [Z2]; omega))) | ((with_reducible refine Z2w ?_); rintro _ _ ⟨rfl, hh⟩; replace hh := hh.symm; subst hh))
    refine ⟨?_, _, rfl⟩
    rw [hpo]; rfl
theorem implGoodPaper_ok (p : PaperM) (vt vn : Value) (I h : Heap) (hI : Sub I h) (hs : RTasks I vt p.spec.tasks) (hn : Sl I vn 1 (strs p.names)) (hsp : SpOk I vn 1) (hsm : p.small) :
    ACalls Try.prog 0 9 #[.agg #[.int .i64 p.spec.conds, vt, vn]] h
    fun v h' => v = .bool (paperOk p) ∧ h' = h := by
  refine acalls_pure (.inl rfl) ?_
  have hfl := hs.flat
  have hfn := hn.flat
  refine Z36 Try.func9 rfl Try.ntmps9 (by simp) (by dsimp only [Try.f9]) ?_
  repeat' (first | ((with_reducible refine eq_go ?_); simp only [stp, ev, ZB, reduceIte, Nat.reduceEqDiff, Z2x, Z13, Zy, ldv, blt, lenV, Z10, ZH, Zg, Ze, Z14, Zw, Z33, Nat.reduceAdd, Nat.reduceMul, Nat.reduceLeDiff, splice, newB, vcs, Ty.t3, Ty.t9, Ty.t25, Ty.t30, Ty.t32, Ty.t34, Ty.t86, Ty.t89, *]; rfl) | (with_reducible first | refine aw_then ?_ | refine aw_skip ?_ | refine aw_ret ?_ | refine aw_exit ?_ | refine aw_block ?_ | refine xr_reg (by decide +kernel) ?_ | refine xr_nil ?_ | refine k_norm ?_ | refine k_ret ?_ | refine k_exit ?_ | refine b_norm ?_ | refine b_ret ?_ | refine b_exit ?_ | refine b_past (by decide) ?_) | (refine Ty.c27 (args := ?_) (K := ?_) ?_ ?_ ?_; rotate_left 2) | (refine xr_do (v := ?_) (h' := ?_) (by exact rfl) ?_ ?_; rotate_left 2) | (refine xr_st (v := ?_) (h' := ?_) (by exact rfl) ?_ ?_; rotate_left 2) | (refine aw_c (b := ?_) (by decide) ?_ ?_; rotate_left 1; (· simp only [ev, Zb, reduceIte, Nat.reduceEqDiff, *]; rfl)) | (with_reducible first | refine cw_t ?_ | refine cw_f ?_) | refine cw_if (fun hb => ?_) (fun hb => ?_) | (refine r_ret (vs := ?_) ?_ ?_; rotate_left 1; (· simp only [resV, ev, Zb, reduceIte, Nat.reduceEqDiff, Zj, *]; rfl)) | ((with_reducible refine isPaper_ok p _ _ I _ ?_ ?_ ?_ ?_ ?_); (· first | assumption | exact Sub.refl _ | exact Sub.app ‹_› _ | exact Sub.app (Sub.refl _) _); (· assumption); (· assumption); (· assumption); (· assumption)) | ((with_reducible refine Z2w ?_); rintro _ _ ⟨rfl, hh⟩; replace hh := hh.symm; subst hh))
  exact ⟨rfl, _, rfl⟩
end Go.Proofs.Ytmjhfklmlcnofaa.Am
