/- Walks of the laws' comparison of tasks, specifications and papers; the laws. Conditions: none. -/
import Derived.Test.YtmjhfklmlcnofaaK3
import Derived.Test.YtmjhfklmlcnofaaV7
namespace Go.Proofs.Ytmjhfklmlcnofaa.Am
open Go Go.Proofs
set_option linter.unusedVariables false
set_option linter.unusedSimpArgs false
set_option maxRecDepth 100000
set_option maxHeartbeats 8000000
theorem eqTask_ok (t : TaskM) (a1 b1 c1 d1 a2 b2 c2 d2 : Value) (h : Heap) (ha1 : Sl h a1 1 (ints t.inn)) (hb1 : Sl h b1 1 (ints t.out)) (hc1 : Sl h c1 1 (ints t.cuts)) (hd1 : Sl h d1 1 (ints t.stops))
    (ha2 : Sl h a2 1 (ints t.inn)) (hb2 : Sl h b2 1 (ints t.out)) (hc2 : Sl h c2 1 (ints t.cuts)) (hd2 : Sl h d2 1 (ints t.stops)) (hl : t.small) :
    ACalls Try.prog 0 67 #[.agg #[.int .i64 t.join, .int .i64 t.split, a1, b1, c1, d1, .int .i64 t.role], .agg #[.int .i64 t.join, .int .i64 t.split, a2, b2, c2, d2, .int .i64 t.role]] h
    fun v h' => v = .bool true ∧ h' = h := by
  refine acalls_pure (.inl rfl) ?_
  have f1 := ha1.flat
  have f2 := hb1.flat
  have f3 := hc1.flat
  have f4 := hd1.flat
  have f5 := ha2.flat
  have f6 := hb2.flat
  have f7 := hc2.flat
  have f8 := hd2.flat
  obtain ⟨l1, l2, l3, l4⟩ := hl
  refine Z36 Try.func67 rfl Try.ntmps67 (by simp) (by dsimp only [Try.f67]) ?_
  repeat' (first | ((with_reducible refine eq_go ?_); simp only [stp, ev, ZB, reduceIte, Nat.reduceEqDiff, Z2x, Z13, Zy, ldv, fldA, blt, lenV, Z10, ZH, Zg, Ze, Z14, Zw, Z33, Nat.reduceAdd, Nat.reduceMul, Nat.reduceLeDiff, splice, newB, vcs, Ty.t3, Ty.t86, Ty.t89, *]; rfl) | (with_reducible first | refine aw_then ?_ | refine aw_skip ?_ | refine aw_ret ?_ | refine aw_exit ?_ | refine aw_block ?_ | refine xr_reg (by decide +kernel) ?_ | refine xr_nil ?_ | refine k_norm ?_ | refine k_ret ?_ | refine k_exit ?_ | refine b_norm ?_ | refine b_ret ?_ | refine b_exit ?_ | refine b_past (by decide) ?_) | (refine Ty.c91 (args := ?_) (K := ?_) ?_ ?_ ?_; rotate_left 2) | (refine xr_do (v := ?_) (h' := ?_) (by exact rfl) ?_ ?_; rotate_left 2) | (refine xr_st (v := ?_) (h' := ?_) (by exact rfl) ?_ ?_; rotate_left 2) | (refine aw_c (b := ?_) (by decide) ?_ ?_; rotate_left 1; (· simp only [ev, Zb, reduceIte, Nat.reduceEqDiff, *]; rfl)) | (with_reducible first | refine cw_t ?_ | refine cw_f ?_) | refine cw_if (fun hb => ?_) (fun hb => ?_) | (refine r_ret (vs := ?_) ?_ ?_; rotate_left 1; (· simp only [resV, ev, Zb, reduceIte, Nat.reduceEqDiff, Zj, *]; rfl)) | ((with_reducible refine eqIntS_ok ?_ ?_ _ _ _ ?_ ?_ ?_ ?_); rotate_left 2; (· first | assumption | exact Sl.sub ‹_› (by first | assumption | exact Sub.refl _ | exact Sub.app ‹_› _ | exact Sub.app (Sub.refl _) _)); (· first | assumption | exact Sl.sub ‹_› (by first | assumption | exact Sub.refl _ | exact Sub.app ‹_› _ | exact Sub.app (Sub.refl _) _)); (· first | assumption | omega); (· first | assumption | omega)) | ((with_reducible refine Z2w ?_); rintro _ _ ⟨rfl, hh⟩; replace hh := hh.symm; subst hh))
  exact ⟨rfl, _, rfl⟩
theorem eqTaskS_ok (l : List TaskM) (v1 v2 : Value) (h : Heap) (hs1 : RTasks h v1 l) (hs2 : RTasks h v2 l) (hl : l.length ≤ 1048576) (hsm : ∀ t ∈ l, t.small) :
    ACalls Try.prog 0 48 #[v1, v2] h fun v h' => v = .bool true ∧ h' = h := by
  obtain ⟨b1, c1, rfl, hc1, hrow1⟩ := hs1.form
  obtain ⟨b2, c2, rfl, hc2, hrow2⟩ := hs2.form
  clear hs1 hs2
  refine Z36 Try.func48 rfl Try.ntmps48 (by simp) (by dsimp only [Try.f48]) ?_
  repeat' (first | ((with_reducible refine eq_go ?_); simp only [stp, ev, ZB, reduceIte, Nat.reduceEqDiff, Z2x, Z13, Zy, ldv, idxA, blt, lenV, Z10, ZH, Zg, Ze, Z14, Zw, Z33, Nat.reduceAdd, Nat.reduceMul, Nat.reduceLeDiff, splice, newB, vcs, Ty.t3, Ty.t30, Ty.t86, Ty.t89, *]; rfl) | (with_reducible first | refine aw_then ?_ | refine aw_skip ?_ | refine aw_ret ?_ | refine aw_exit ?_ | refine aw_block ?_ | refine xr_reg (by decide +kernel) ?_ | refine xr_nil ?_ | refine k_norm ?_ | refine k_ret ?_ | refine k_exit ?_ | refine b_norm ?_ | refine b_ret ?_ | refine b_exit ?_ | refine b_past (by decide) ?_ | refine xd_nil ?_) | (refine Ty.c67 (args := ?_) (K := ?_) ?_ ?_ ?_; rotate_left 2) | (refine Ty.d67 (args := ?_) (v := ?_) ?_ (by decide +kernel) ?_ ?_; rotate_left 2) | (refine xr_do (v := ?_) (h' := ?_) (by exact rfl) ?_ ?_; rotate_left 2) | (refine xr_st (v := ?_) (h' := ?_) (by exact rfl) ?_ ?_; rotate_left 2) | refine xd_reg (ms := [0, 0, 3, 7, 0, 0, 48, 112, 255, 511]) Ty.mx (by decide +kernel) (by decide +kernel) ?_ | (refine xd_do (v := ?_) (by exact rfl) (by decide +kernel) ?_ ?_; rotate_left 1) | (refine aw_c (b := ?_) (by decide) ?_ ?_; rotate_left 1; (· simp only [ev, Zb, reduceIte, Nat.reduceEqDiff, *]; rfl)) | (with_reducible first | refine cw_t ?_ | refine cw_f ?_) | refine cw_if (fun hb => ?_) (fun hb => ?_) | (refine r_ret (vs := ?_) ?_ ?_; rotate_left 1; (· simp only [resV, ev, Zb, reduceIte, Nat.reduceEqDiff, Zj, *]; rfl)) | ((with_reducible refine eqTask_ok t _ _ _ _ _ _ _ _ _ ?_ ?_ ?_ ?_ ?_ ?_ ?_ ?_ ?_); (· first | assumption | exact Sl.sub ‹_› (by first | assumption | exact Sub.refl _ | exact Sub.app ‹_› _ | exact Sub.app (Sub.refl _) _)); (· first | assumption | exact Sl.sub ‹_› (by first | assumption | exact Sub.refl _ | exact Sub.app ‹_› _ | exact Sub.app (Sub.refl _) _)); (· first | assumption | exact Sl.sub ‹_› (by first | assumption | exact Sub.refl _ | exact Sub.app ‹_› _ | exact Sub.app (Sub.refl _) _)); (· first | assumption | exact Sl.sub ‹_› (by first | assumption | exact Sub.refl _ | exact Sub.app ‹_› _ | exact Sub.app (Sub.refl _) _)); (· first | assumption | exact Sl.sub ‹_› (by first | assumption | exact Sub.refl _ | exact Sub.app ‹_› _ | exact Sub.app (Sub.refl _) _)); (· first | assumption | exact Sl.sub ‹_› (by first | assumption | exact Sub.refl _ | exact Sub.app ‹_› _ | exact Sub.app (Sub.refl _) _)); (· first | assumption | exact Sl.sub ‹_› (by first | assumption | exact Sub.refl _ | exact Sub.app ‹_› _ | exact Sub.app (Sub.refl _) _)); (· first | assumption | exact Sl.sub ‹_› (by first | assumption | exact Sub.refl _ | exact Sub.app ‹_› _ | exact Sub.app (Sub.refl _) _)); (· assumption)) | ((with_reducible refine Z2w ?_); rintro _ _ ⟨rfl, hh⟩; replace hh := hh.symm; subst hh))
  refine aw_for [0, 1] (fun k T h' => h' = h ∧ T 5 = .int .i64 k) l.length (k0 := 0) (Nat.zero_le _) ⟨rfl, rfl⟩ ?_
  rintro k T h' hk hR ⟨rfl, h11⟩
  simp only [Z37, Z38, Z39, implies_true, and_true, stp, ev, ZB, reduceIte, Nat.reduceEqDiff, Z2x, Z13, Zy] at hR
  rcases Nat.lt_or_ge k l.length with hkn | hkn
  · have h1 : (k : Int) < l.length := by omega
    obtain ⟨a1, row1, rfl, hrl1, hrt1, hld1⟩ := hrow1 k hkn
    obtain ⟨x1, y1, z1, w1, rfl, q1, q2, q3, q4, _⟩ := hrt1
    obtain ⟨a2, row2, rfl, hrl2, hrt2, hld2⟩ := hrow2 k hkn
    obtain ⟨x2, y2, z2, w2, rfl, p1, p2, p3, p4, _⟩ := hrt2
    have hl1 := hld1 h' (Sub.refl _)
    have hl2 := hld2 h' (Sub.refl _)
    have hts : (l[k]).small := hsm _ (List.getElem_mem hkn)
    generalize l[k] = t at *
    clear hrow1 hrow2 hld1 hld2 hsm
    repeat' (first | ((with_reducible refine eq_go ?_); simp only [stp, ev, ZB, reduceIte, Nat.reduceEqDiff, Z2x, Z13, Zy, ldv, idxA, blt, lenV, Z10, ZH, Zg, Ze, Z14, Zw, Z33, Nat.reduceAdd, Nat.reduceMul, Nat.reduceLeDiff, splice, newB, vcs, Ty.t3, Ty.t30, Ty.t86, Ty.t89, *]; rfl) | (with_reducible first | refine aw_then ?_ | refine aw_skip ?_ | refine aw_ret ?_ | refine aw_exit ?_ | refine aw_block ?_ | refine xr_reg (by decide +kernel) ?_ | refine xr_nil ?_ | refine k_norm ?_ | refine k_ret ?_ | refine k_exit ?_ | refine b_norm ?_ | refine b_ret ?_ | refine b_exit ?_ | refine b_past (by decide) ?_ | refine xd_nil ?_) | (refine Ty.c67 (args := ?_) (K := ?_) ?_ ?_ ?_; rotate_left 2) | (refine Ty.d67 (args := ?_) (v := ?_) ?_ (by decide +kernel) ?_ ?_; rotate_left 2) | (refine xr_do (v := ?_) (h' := ?_) (by exact rfl) ?_ ?_; rotate_left 2) | (refine xr_st (v := ?_) (h' := ?_) (by exact rfl) ?_ ?_; rotate_left 2) | refine xd_reg (ms := [0, 0, 3, 7, 0, 0, 48, 112, 255, 511]) Ty.mx (by decide +kernel) (by decide +kernel) ?_ | (refine xd_do (v := ?_) (by exact rfl) (by decide +kernel) ?_ ?_; rotate_left 1) | (refine aw_c (b := ?_) (by decide) ?_ ?_; rotate_left 1; (· simp only [ev, Zb, reduceIte, Nat.reduceEqDiff, *]; rfl)) | (with_reducible first | refine cw_t ?_ | refine cw_f ?_) | refine cw_if (fun hb => ?_) (fun hb => ?_) | (refine r_ret (vs := ?_) ?_ ?_; rotate_left 1; (· simp only [resV, ev, Zb, reduceIte, Nat.reduceEqDiff, Zj, *]; rfl)) | ((with_reducible refine eqTask_ok t _ _ _ _ _ _ _ _ _ ?_ ?_ ?_ ?_ ?_ ?_ ?_ ?_ ?_); (· first | assumption | exact Sl.sub ‹_› (by first | assumption | exact Sub.refl _ | exact Sub.app ‹_› _ | exact Sub.app (Sub.refl _) _)); (· first | assumption | exact Sl.sub ‹_› (by first | assumption | exact Sub.refl _ | exact Sub.app ‹_› _ | exact Sub.app (Sub.refl _) _)); (· first | assumption | exact Sl.sub ‹_› (by first | assumption | exact Sub.refl _ | exact Sub.app ‹_› _ | exact Sub.app (Sub.refl _) _)); (· first | assumption | exact Sl.sub ‹_› (by first | assumption | exact Sub.refl _ | exact Sub.app ‹_› _ | exact Sub.app (Sub.refl _) _)); (· first | assumption | exact Sl.sub ‹_› (by first | assumption | exact Sub.refl _ | exact Sub.app ‹_› _ | exact Sub.app (Sub.refl _) _)); (· first | assumption | exact Sl.sub ‹_› (by first | assumption | exact Sub.refl _ | exact Sub.app ‹_› _ | exact Sub.app (Sub.refl _) _)); (· first | assumption | exact Sl.sub ‹_› (by first | assumption | exact Sub.refl _ | exact Sub.app ‹_› _ | exact Sub.app (Sub.refl _) _)); (· first | assumption | exact Sl.sub ‹_› (by first | assumption | exact Sub.refl _ | exact Sub.app ‹_› _ | exact Sub.app (Sub.refl _) _)); (· assumption)) | ((with_reducible refine Z2w ?_); rintro _ _ ⟨rfl, hh⟩; replace hh := hh.symm; subst hh))
    refine ⟨by first | assumption | omega, ?_, ?_⟩
    · simp only [Z37, Z38, Z39, implies_true, and_true, ZB, stp, ev, reduceIte, Nat.reduceEqDiff, Z2x, Z13, Zy, *]
    refine ⟨rfl, ?_⟩
    simp only [Zb, reduceIte, Nat.reduceEqDiff]
    rw [wrap_id (by omega)]; rfl
  · have h1 : ¬ (k : Int) < l.length := by omega
    clear hrow1 hrow2
    repeat' (first | ((with_reducible refine eq_go ?_); simp only [stp, ev, ZB, reduceIte, Nat.reduceEqDiff, Z2x, Z13, Zy, ldv, idxA, blt, lenV, Z10, ZH, Zg, Ze, Z14, Zw, Z33, Nat.reduceAdd, Nat.reduceMul, Nat.reduceLeDiff, splice, newB, vcs, Ty.t3, Ty.t30, Ty.t86, Ty.t89, *]; rfl) | (with_reducible first | refine aw_then ?_ | refine aw_skip ?_ | refine aw_ret ?_ | refine aw_exit ?_ | refine aw_block ?_ | refine xr_reg (by decide +kernel) ?_ | refine xr_nil ?_ | refine k_norm ?_ | refine k_ret ?_ | refine k_exit ?_ | refine b_norm ?_ | refine b_ret ?_ | refine b_exit ?_ | refine b_past (by decide) ?_ | refine xd_nil ?_) | (refine Ty.c67 (args := ?_) (K := ?_) ?_ ?_ ?_; rotate_left 2) | (refine Ty.d67 (args := ?_) (v := ?_) ?_ (by decide +kernel) ?_ ?_; rotate_left 2) | (refine xr_do (v := ?_) (h' := ?_) (by exact rfl) ?_ ?_; rotate_left 2) | (refine xr_st (v := ?_) (h' := ?_) (by exact rfl) ?_ ?_; rotate_left 2) | refine xd_reg (ms := [0, 0, 3, 7, 0, 0, 48, 112, 255, 511]) Ty.mx (by decide +kernel) (by decide +kernel) ?_ | (refine xd_do (v := ?_) (by exact rfl) (by decide +kernel) ?_ ?_; rotate_left 1) | (refine aw_c (b := ?_) (by decide) ?_ ?_; rotate_left 1; (· simp only [ev, Zb, reduceIte, Nat.reduceEqDiff, *]; rfl)) | (with_reducible first | refine cw_t ?_ | refine cw_f ?_) | refine cw_if (fun hb => ?_) (fun hb => ?_) | (refine r_ret (vs := ?_) ?_ ?_; rotate_left 1; (· simp only [resV, ev, Zb, reduceIte, Nat.reduceEqDiff, Zj, *]; rfl)) | ((with_reducible refine eqTask_ok t _ _ _ _ _ _ _ _ _ ?_ ?_ ?_ ?_ ?_ ?_ ?_ ?_ ?_); (· first | assumption | exact Sl.sub ‹_› (by first | assumption | exact Sub.refl _ | exact Sub.app ‹_› _ | exact Sub.app (Sub.refl _) _)); (· first | assumption | exact Sl.sub ‹_› (by first | assumption | exact Sub.refl _ | exact Sub.app ‹_› _ | exact Sub.app (Sub.refl _) _)); (· first | assumption | exact Sl.sub ‹_› (by first | assumption | exact Sub.refl _ | exact Sub.app ‹_› _ | exact Sub.app (Sub.refl _) _)); (· first | assumption | exact Sl.sub ‹_› (by first | assumption | exact Sub.refl _ | exact Sub.app ‹_› _ | exact Sub.app (Sub.refl _) _)); (· first | assumption | exact Sl.sub ‹_› (by first | assumption | exact Sub.refl _ | exact Sub.app ‹_› _ | exact Sub.app (Sub.refl _) _)); (· first | assumption | exact Sl.sub ‹_› (by first | assumption | exact Sub.refl _ | exact Sub.app ‹_› _ | exact Sub.app (Sub.refl _) _)); (· first | assumption | exact Sl.sub ‹_› (by first | assumption | exact Sub.refl _ | exact Sub.app ‹_› _ | exact Sub.app (Sub.refl _) _)); (· first | assumption | exact Sl.sub ‹_› (by first | assumption | exact Sub.refl _ | exact Sub.app ‹_› _ | exact Sub.app (Sub.refl _) _)); (· assumption)) | ((with_reducible refine Z2w ?_); rintro _ _ ⟨rfl, hh⟩; replace hh := hh.symm; subst hh))
    exact ⟨rfl, rfl⟩
theorem eqSpec_ok (c : Int) (l : List TaskM) (v1 v2 : Value) (h : Heap) (hs1 : RTasks h v1 l) (hs2 : RTasks h v2 l) (hl : l.length ≤ 1048576) (hsm : ∀ t ∈ l, t.small) :
    ACalls Try.prog 0 28 #[.agg #[.int .i64 c, v1], .agg #[.int .i64 c, v2]] h fun v h' => v = .bool true ∧ h' = h := by
  refine acalls_pure (.inl rfl) ?_
  have f1 := hs1.flat
  have f2 := hs2.flat
  refine Z36 Try.func28 rfl Try.ntmps28 (by simp) (by dsimp only [Try.f28]) ?_
  repeat' (first | ((with_reducible refine eq_go ?_); simp only [stp, ev, ZB, reduceIte, Nat.reduceEqDiff, Z2x, Z13, Zy, ldv, fldA, blt, lenV, Z10, ZH, Zg, Ze, Z14, Zw, Z33, Nat.reduceAdd, Nat.reduceMul, Nat.reduceLeDiff, splice, newB, vcs, Ty.t3, Ty.t30, Ty.t32, Ty.t86, Ty.t89, *]; rfl) | (with_reducible first | refine aw_then ?_ | refine aw_skip ?_ | refine aw_ret ?_ | refine aw_exit ?_ | refine aw_block ?_ | refine xr_reg (by decide +kernel) ?_ | refine xr_nil ?_ | refine k_norm ?_ | refine k_ret ?_ | refine k_exit ?_ | refine b_norm ?_ | refine b_ret ?_ | refine b_exit ?_ | refine b_past (by decide) ?_) | (refine Ty.c48 (args := ?_) (K := ?_) ?_ ?_ ?_; rotate_left 2) | (refine xr_do (v := ?_) (h' := ?_) (by exact rfl) ?_ ?_; rotate_left 2) | (refine xr_st (v := ?_) (h' := ?_) (by exact rfl) ?_ ?_; rotate_left 2) | (refine aw_c (b := ?_) (by decide) ?_ ?_; rotate_left 1; (· simp only [ev, Zb, reduceIte, Nat.reduceEqDiff, *]; rfl)) | (with_reducible first | refine cw_t ?_ | refine cw_f ?_) | refine cw_if (fun hb => ?_) (fun hb => ?_) | (refine r_ret (vs := ?_) ?_ ?_; rotate_left 1; (· simp only [resV, ev, Zb, reduceIte, Nat.reduceEqDiff, Zj, *]; rfl)) | ((with_reducible refine eqTaskS_ok ?_ _ _ _ ?_ ?_ ?_ ?_); rotate_left 1; (· first | assumption | exact RTasks.sub ‹_› (by first | assumption | exact Sub.refl _ | exact Sub.app ‹_› _ | exact Sub.app (Sub.refl _) _)); (· first | assumption | exact RTasks.sub ‹_› (by first | assumption | exact Sub.refl _ | exact Sub.app ‹_› _ | exact Sub.app (Sub.refl _) _)); (· assumption); (· assumption)) | ((with_reducible refine Z2w ?_); rintro _ _ ⟨rfl, hh⟩; replace hh := hh.symm; subst hh))
  exact ⟨rfl, _, rfl⟩
/-- A paper in a memory. -/
def PAt (H : Heap) (v : Value) (p : PaperM) : Prop := ∃ vt vn, v = .agg #[.int .i64 p.spec.conds, vt, vn] ∧ RTasks H vt p.spec.tasks ∧ Sl H vn 1 (strs p.names) ∧ SpOk H vn 1
theorem SpOk.sub {I H : Heap} {v : Value} {e : Nat} (q : SpOk I v e) (s : Sub I H) : SpOk H v e := fun a l c hv => (q a l c hv).imp id fun ⟨bk, q1, q2, q3⟩ => ⟨bk, s.2 _ _ q1 (by omega), q2, q3⟩
theorem PAt.sub {I H : Heap} {v : Value} {p : PaperM} (q : PAt I v p) (s : Sub I H) : PAt H v p := by
  obtain ⟨vt, vn, rfl, h1, h2, h3⟩ := q
  exact ⟨vt, vn, rfl, h1.sub s, h2.sub s, h3.sub s⟩
theorem eqPaper_ok (p : PaperM) (v1 v2 : Value) (h : Heap) (hp1 : PAt h v1 p) (hp2 : PAt h v2 p) (hsm : p.small) :
    ACalls Try.prog 0 10 #[v1, v2] h fun v h' => v = .bool true ∧ h' = h := by
  obtain ⟨vt1, vn1, rfl, q1, q2, _⟩ := hp1
  obtain ⟨vt2, vn2, rfl, p1, p2, _⟩ := hp2
  obtain ⟨⟨hl, ht⟩, hnl, _⟩ := hsm
  refine acalls_pure (.inl rfl) ?_
  have f1 := q1.flat
  have f2 := q2.flat
  have f3 := p1.flat
  have f4 := p2.flat
  refine Z36 Try.func10 rfl Try.ntmps10 (by simp) (by dsimp only [Try.f10]) ?_
  repeat' (first | ((with_reducible refine eq_go ?_); simp only [stp, ev, ZB, reduceIte, Nat.reduceEqDiff, Z2x, Z13, Zy, ldv, fldA, blt, lenV, Z10, ZH, Zg, Ze, Z14, Zw, Z33, Nat.reduceAdd, Nat.reduceMul, Nat.reduceLeDiff, splice, newB, vcs, Ty.t3, Ty.t9, Ty.t25, Ty.t30, Ty.t32, Ty.t34, Ty.t86, Ty.t89, *]; rfl) | (with_reducible first | refine aw_then ?_ | refine aw_skip ?_ | refine aw_ret ?_ | refine aw_exit ?_ | refine aw_block ?_ | refine xr_reg (by decide +kernel) ?_ | refine xr_nil ?_ | refine k_norm ?_ | refine k_ret ?_ | refine k_exit ?_ | refine b_norm ?_ | refine b_ret ?_ | refine b_exit ?_ | refine b_past (by decide) ?_) | (refine Ty.c28 (args := ?_) (K := ?_) ?_ ?_ ?_; rotate_left 2) | (refine Ty.c29 (args := ?_) (K := ?_) ?_ ?_ ?_; rotate_left 2) | (refine xr_do (v := ?_) (h' := ?_) (by exact rfl) ?_ ?_; rotate_left 2) | (refine xr_st (v := ?_) (h' := ?_) (by exact rfl) ?_ ?_; rotate_left 2) | (refine aw_c (b := ?_) (by decide) ?_ ?_; rotate_left 1; (· simp only [ev, Zb, reduceIte, Nat.reduceEqDiff, *]; rfl)) | (with_reducible first | refine cw_t ?_ | refine cw_f ?_) | refine cw_if (fun hb => ?_) (fun hb => ?_) | (refine r_ret (vs := ?_) ?_ ?_; rotate_left 1; (· simp only [resV, ev, Zb, reduceIte, Nat.reduceEqDiff, Zj, *]; rfl)) | ((with_reducible refine eqSpec_ok _ ?_ _ _ _ ?_ ?_ ?_ ?_); rotate_left 1; (· first | assumption | exact RTasks.sub ‹_› (by first | assumption | exact Sub.refl _ | exact Sub.app ‹_› _ | exact Sub.app (Sub.refl _) _)); (· first | assumption | exact RTasks.sub ‹_› (by first | assumption | exact Sub.refl _ | exact Sub.app ‹_› _ | exact Sub.app (Sub.refl _) _)); (· assumption); (· assumption)) | ((with_reducible refine eqStringS_ok ?_ ?_ _ _ _ ?_ ?_ ?_ ?_); rotate_left 2; (· first | assumption | exact Sl.sub ‹_› (by first | assumption | exact Sub.refl _ | exact Sub.app ‹_› _ | exact Sub.app (Sub.refl _) _)); (· first | assumption | exact Sl.sub ‹_› (by first | assumption | exact Sub.refl _ | exact Sub.app ‹_› _ | exact Sub.app (Sub.refl _) _)); (· first | assumption | omega); (· first | assumption | omega)) | ((with_reducible refine Z2w ?_); rintro _ _ ⟨rfl, hh⟩; replace hh := hh.symm; subst hh))
  exact ⟨rfl, _, rfl⟩
theorem ownV_sl {H : Heap} {n : Nat} {l : List Int} (hb : H[n]? = some ⟨2, 1, (ints l).flatten⟩) : Sl H (ownV n l) 1 (ints l) := by
  have := Sl.of_block (k := 2) (c := l.length) (sp := some 0) (rows := ints l) hb (.inr rfl) (ints_len l) (by rw [ints_length]; exact Z4 _)
  rwa [ints_length] at this
theorem task_new {H : Heap} {n : Nat} {t : TaskM} (hcn : t.cn = false) (hB : ∀ (j : Nat) (B : Blk), (taskL t)[j]? = some B → H[n + j]? = some B) : RTask H (taskRow n t) t :=
  ⟨_, _, _, _, rfl, ownV_sl (hB 0 _ rfl), ownV_sl (hB 1 _ rfl), ownV_sl (hB 2 _ rfl), ownV_sl (hB 3 _ rfl), hcn.symm⟩
theorem paper_at (p : PaperM) (va vna : Value) (h X : Heap) (hcn : ∀ t ∈ p.spec.tasks, t.cn = false) : PAt (h ++ (paperL h.length va vna p ++ X)) (paperV h.length p) p := by
  have hll := taskLs_length p.spec.tasks
  have hpl : (paperL h.length va vna p).length = 4 * p.spec.tasks.length + 8 := by simp only [paperL, Z3, Z6, hll, Z2]
  have hB : ∀ (j : Nat) (B : Blk), (paperL h.length va vna p)[j]? = some B → (h ++ (paperL h.length va vna p ++ X))[h.length + j]? = some B := fun j B hb => by rw [get_at]; exact get_old hb
  have hlen : (h ++ (paperL h.length va vna p ++ X)).length = h.length + (4 * p.spec.tasks.length + 8 + X.length) := by simp only [Z6, hpl]
  generalize hH : h ++ (paperL h.length va vna p ++ X) = H at *
  have hT : ∀ (j : Nat) (B : Blk), (taskLs p.spec.tasks)[j]? = some B → H[h.length + 7 + j]? = some B := fun j B hb => by
    rw [Zh]
    refine hB (7 + j) B ?_
    unfold paperL
    rw [Nat.add_comm 7 j]
    exact get_old hb
  refine ⟨_, _, rfl, ⟨taskRows (h.length + 7) p.spec.tasks, ?_, .slice _ _ _ (by rw [hlen]; simp only; omega), taskRows_length _ _, fun i r x hr hx => ?_⟩, ?_, fun a l c hv => .inl (by cases hv; rfl)⟩
  · have := Sl.of_block (k := 2) (c := p.spec.tasks.length) (sp := none) (rows := taskRows (h.length + 7) p.spec.tasks) (hB 6 _ rfl) (.inr rfl) (taskRows_len _ _) (by rw [taskRows_length]; exact Z4 _)
    rwa [taskRows_length] at this
  · have hi := (List.getElem?_eq_some_iff.1 hx).1
    have hi2 : i < (taskRows (h.length + 7) p.spec.tasks).length := by rw [taskRows_length]; exact hi
    rw [List.getElem?_eq_getElem hi2, taskRows_get _ _ _ hi] at hr
    rw [List.getElem?_eq_getElem hi] at hx
    cases hr; cases hx
    refine ⟨rfl, task_new (hcn _ (List.getElem_mem hi)) fun j B hb => ?_⟩
    have := hT _ _ (taskLs_get _ _ hi j B hb)
    rw [← this]; congr 1; omega
  · have hb : H[h.length + (4 * p.spec.tasks.length + 7)]? = some ⟨2, 1, (strs p.names).flatten⟩ := by
      refine hB (4 * p.spec.tasks.length + 7) _ ?_
      show (taskLs p.spec.tasks ++ [_])[4 * p.spec.tasks.length]? = _
      rw [← hll, List.getElem?_append_right (Z4 _), Nat.sub_self]; rfl
    have := Sl.of_block (k := 2) (c := p.names.length) (sp := none) (rows := strs p.names) hb (.inr rfl) (strs_len _) (by rw [strs_length]; exact Z4 _)
    rwa [strs_length] at this
theorem specNameNo_p (p : PaperM) (x : ByteArray) (v : Value) (H : Heap) (hp : PAt H v p) (hsm : p.small) : ACalls Try.prog 0 11 #[v, .string x] H fun v h' => v = nameNoV p x ∧ h' = H := by
  obtain ⟨vt, vn, rfl, q1, q2, q3⟩ := hp
  exact specNameNo_ok p x vt vn H H (Sub.refl _) q1 q2 q3 hsm
theorem implNameNo_p (p : PaperM) (x : ByteArray) (v : Value) (H : Heap) (hp : PAt H v p) (hsm : p.small) : ACalls Try.prog 0 12 #[v, .string x] H fun v h' => v = nameNoV p x ∧ h' = H := by
  obtain ⟨vt, vn, rfl, q1, q2, q3⟩ := hp
  exact implNameNo_ok p x vt vn H H (Sub.refl _) q1 q2 q3 hsm
end Go.Proofs.Ytmjhfklmlcnofaa.Am
namespace Go.Proofs.Ytmjhfklmlcnofaa.Am
open Go Go.Proofs
set_option linter.unusedVariables false
set_option linter.unusedSimpArgs false
set_option maxRecDepth 100000
set_option maxHeartbeats 8000000
theorem toPaper_x (p : PaperM) (va vna : Value) (h H : Heap) (hH : Sub h H) (hs : RTasksA h va p.spec.tasks) (hn : SlA h vna 1 (strs p.names)) (hsm : p.small) (hcn : ∀ t ∈ p.spec.tasks, t.cn = false) :
    ∃ L vt vn, (ACalls Try.prog 0 8 #[.agg #[.int .i64 p.spec.conds, va, vna]] H fun v h' => v = .agg #[.int .i64 p.spec.conds, vt, vn] ∧ h' = H ++ L) ∧ flat vt = true ∧ flat vn = true ∧
      ∀ X, PAt (H ++ (L ++ X)) (.agg #[.int .i64 p.spec.conds, vt, vn]) p := by
  have hc := toPaper_ok p va vna H (hs.sub hH) (hn.sub hH) hsm
  exact ⟨_, _, _, hc, rfl, rfl, fun X => paper_at p va vna H X hcn⟩
theorem lawNameNo_ok (p : PaperM) (x : ByteArray) (va vna : Value) (h : Heap) (hs : RTasksA h va p.spec.tasks) (hn : SlA h vna 1 (strs p.names)) (hl : p.fitL) (hcn : ∀ t ∈ p.spec.tasks, t.cn = false) (hx : x.size ≤ 9223372036854775807) :
    ACalls Try.prog 0 4 #[.agg #[.int .i64 p.spec.conds, va, vna], .string x] h fun v _ => v = .bool true := by
  have hf := hs.flat
  have hf2 := hn.flat
  by_cases hx1 : (1048576 : Int) < x.size
  · refine Z36 Try.func4 rfl Try.ntmps4 (by simp) (by dsimp only [Try.f4]) ?_
    repeat' (first | ((with_reducible refine eq_go ?_); simp only [stp, ev, ZB, reduceIte, Nat.reduceEqDiff, Z2x, Z13, Zy, binV_bool_neq, binV_bool_eql, Ty.un4, Ze, ZH, ldv, stv, vcs, blt, lenV, Z10, Zg, Z14, Zw, Z33, Nat.reduceAdd, Nat.reduceMul, Nat.reduceLeDiff, splice, newB, Ty.t3, Ty.t4, Ty.t9, Ty.t22, Ty.t24, Ty.t25, Ty.t27, Ty.t30, Ty.t32, Ty.t34, Ty.t86, Ty.t88, Ty.t89, *]; rfl) | (with_reducible first | refine aw_then ?_ | refine aw_skip ?_ | refine aw_ret ?_ | refine aw_exit ?_ | refine aw_block ?_ | refine xr_reg (by decide +kernel) ?_ | refine xr_nil ?_ | refine k_norm ?_ | refine k_ret ?_ | refine k_exit ?_ | refine b_norm ?_ | refine b_ret ?_ | refine b_exit ?_ | refine b_past (by decide) ?_ | refine xd_nil ?_) | (refine Ty.c6 (args := ?_) (K := ?_) ?_ ?_ ?_; rotate_left 2) | (refine Ty.d6 (args := ?_) (v := ?_) ?_ (by decide +kernel) ?_ ?_; rotate_left 2) | (refine Ty.c8 (args := ?_) (K := ?_) ?_ ?_ ?_; rotate_left 2) | (refine Ty.l8 (args := ?_) (v := ?_) (L := ?_) ?_ (by decide +kernel) ?_ ?_; rotate_left 3) | (refine Ty.c10 (args := ?_) (K := ?_) ?_ ?_ ?_; rotate_left 2) | (refine Ty.d10 (args := ?_) (v := ?_) ?_ (by decide +kernel) ?_ ?_; rotate_left 2) | (refine Ty.c11 (args := ?_) (K := ?_) ?_ ?_ ?_; rotate_left 2) | (refine Ty.d11 (args := ?_) (v := ?_) ?_ (by decide +kernel) ?_ ?_; rotate_left 2) | (refine Ty.c12 (args := ?_) (K := ?_) ?_ ?_ ?_; rotate_left 2) | (refine Ty.d12 (args := ?_) (v := ?_) ?_ (by decide +kernel) ?_ ?_; rotate_left 2) | (refine xr_do (v := ?_) (h' := ?_) (by exact rfl) ?_ ?_; rotate_left 2) | (refine xr_st (v := ?_) (h' := ?_) (by exact rfl) ?_ ?_; rotate_left 2) | refine xd_reg (ms := [0, 0, 2, 7, 15]) Ty.mx (by decide +kernel) (by decide +kernel) ?_ | (refine xd_do (v := ?_) (by exact rfl) (by decide +kernel) ?_ ?_; rotate_left 1) | (refine xr_g (b := ?_) (by exact rfl) ?_ ?_; rotate_left 1; (· simp only [ev, Zb, reduceIte, Nat.reduceEqDiff, Z8, Z5, *]; rfl)) | (refine xd_g (b := ?_) (by exact rfl) ?_ ?_; rotate_left 1; (· simp only [ev, Zb, reduceIte, Nat.reduceEqDiff, Z8, Z5, *]; rfl)) | (with_reducible first | refine gw_tt ?_ | refine gw_ff ?_ | refine gw_tf ?_ | refine gw_ft ?_ | refine gw_un ?_) | refine gw_if (fun hb => ?_) (fun hb => ?_) | (refine aw_c (b := ?_) (by decide) ?_ ?_; rotate_left 1; (· simp only [ev, Zb, reduceIte, Nat.reduceEqDiff, *]; rfl)) | (with_reducible first | refine cw_t ?_ | refine cw_f ?_) | refine cw_if (fun hb => ?_) (fun hb => ?_) | (refine r_ret (vs := ?_) ?_ ?_; rotate_left 1; (· simp only [resV, ev, Zb, reduceIte, Nat.reduceEqDiff, Zj, *]; rfl)) | ((with_reducible refine szPaper_ok p _ _ _ _ ?_ ?_ ?_ ?_); (· first | assumption | exact RTasksA.sub ‹_› (by first | assumption | exact Sub.refl _ | exact Sub.app ‹_› _ | exact Sub.app (Sub.refl _) _)); (· first | assumption | exact SlA.sub ‹_› (by first | assumption | exact Sub.refl _ | exact Sub.app ‹_› _ | exact Sub.app (Sub.refl _) _)); (· assumption); (· first | assumption | omega)) | (with_reducible exact hc1) | (with_reducible exact hc2) | (with_reducible exact hc3) | ((with_reducible refine eqPaper_ok p _ _ _ ?_ ?_ ?_); (· (try simp only [Z7, Zc, Zd]); exact hP2 _); (· (try simp only [Z7, Zc, Zd]); exact hP3); (· assumption)) | ((with_reducible refine specNameNo_p p _ _ _ ?_ ?_); (· (try simp only [Z7, Zc, Zd]); exact hP1); (· assumption)) | ((with_reducible refine implNameNo_p p _ _ _ ?_ ?_); (· exact hP2 _); (· assumption)) | ((with_reducible refine Z2w ?_); rintro _ _ ⟨rfl, hh⟩; replace hh := hh.symm; subst hh))
    rfl
  by_cases hz : szP p 1048576 < 0
  · have hd : decide (szP p 1048576 < 0) = true := decide_eq_true hz
    clear hz
    refine Z36 Try.func4 rfl Try.ntmps4 (by simp) (by dsimp only [Try.f4]) ?_
    repeat' (first | ((with_reducible refine eq_go ?_); simp only [stp, ev, ZB, reduceIte, Nat.reduceEqDiff, Z2x, Z13, Zy, binV_bool_neq, binV_bool_eql, Ty.un4, Ze, ZH, ldv, stv, vcs, blt, lenV, Z10, Zg, Z14, Zw, Z33, Nat.reduceAdd, Nat.reduceMul, Nat.reduceLeDiff, splice, newB, Ty.t3, Ty.t4, Ty.t9, Ty.t22, Ty.t24, Ty.t25, Ty.t27, Ty.t30, Ty.t32, Ty.t34, Ty.t86, Ty.t88, Ty.t89, *]; rfl) | (with_reducible first | refine aw_then ?_ | refine aw_skip ?_ | refine aw_ret ?_ | refine aw_exit ?_ | refine aw_block ?_ | refine xr_reg (by decide +kernel) ?_ | refine xr_nil ?_ | refine k_norm ?_ | refine k_ret ?_ | refine k_exit ?_ | refine b_norm ?_ | refine b_ret ?_ | refine b_exit ?_ | refine b_past (by decide) ?_ | refine xd_nil ?_) | (refine Ty.c6 (args := ?_) (K := ?_) ?_ ?_ ?_; rotate_left 2) | (refine Ty.d6 (args := ?_) (v := ?_) ?_ (by decide +kernel) ?_ ?_; rotate_left 2) | (refine Ty.c8 (args := ?_) (K := ?_) ?_ ?_ ?_; rotate_left 2) | (refine Ty.l8 (args := ?_) (v := ?_) (L := ?_) ?_ (by decide +kernel) ?_ ?_; rotate_left 3) | (refine Ty.c10 (args := ?_) (K := ?_) ?_ ?_ ?_; rotate_left 2) | (refine Ty.d10 (args := ?_) (v := ?_) ?_ (by decide +kernel) ?_ ?_; rotate_left 2) | (refine Ty.c11 (args := ?_) (K := ?_) ?_ ?_ ?_; rotate_left 2) | (refine Ty.d11 (args := ?_) (v := ?_) ?_ (by decide +kernel) ?_ ?_; rotate_left 2) | (refine Ty.c12 (args := ?_) (K := ?_) ?_ ?_ ?_; rotate_left 2) | (refine Ty.d12 (args := ?_) (v := ?_) ?_ (by decide +kernel) ?_ ?_; rotate_left 2) | (refine xr_do (v := ?_) (h' := ?_) (by exact rfl) ?_ ?_; rotate_left 2) | (refine xr_st (v := ?_) (h' := ?_) (by exact rfl) ?_ ?_; rotate_left 2) | refine xd_reg (ms := [0, 0, 2, 7, 15]) Ty.mx (by decide +kernel) (by decide +kernel) ?_ | (refine xd_do (v := ?_) (by exact rfl) (by decide +kernel) ?_ ?_; rotate_left 1) | (refine xr_g (b := ?_) (by exact rfl) ?_ ?_; rotate_left 1; (· simp only [ev, Zb, reduceIte, Nat.reduceEqDiff, Z8, Z5, *]; rfl)) | (refine xd_g (b := ?_) (by exact rfl) ?_ ?_; rotate_left 1; (· simp only [ev, Zb, reduceIte, Nat.reduceEqDiff, Z8, Z5, *]; rfl)) | (with_reducible first | refine gw_tt ?_ | refine gw_ff ?_ | refine gw_tf ?_ | refine gw_ft ?_ | refine gw_un ?_) | refine gw_if (fun hb => ?_) (fun hb => ?_) | (refine aw_c (b := ?_) (by decide) ?_ ?_; rotate_left 1; (· simp only [ev, Zb, reduceIte, Nat.reduceEqDiff, *]; rfl)) | (with_reducible first | refine cw_t ?_ | refine cw_f ?_) | refine cw_if (fun hb => ?_) (fun hb => ?_) | (refine r_ret (vs := ?_) ?_ ?_; rotate_left 1; (· simp only [resV, ev, Zb, reduceIte, Nat.reduceEqDiff, Zj, *]; rfl)) | ((with_reducible refine szPaper_ok p _ _ _ _ ?_ ?_ ?_ ?_); (· first | assumption | exact RTasksA.sub ‹_› (by first | assumption | exact Sub.refl _ | exact Sub.app ‹_› _ | exact Sub.app (Sub.refl _) _)); (· first | assumption | exact SlA.sub ‹_› (by first | assumption | exact Sub.refl _ | exact Sub.app ‹_› _ | exact Sub.app (Sub.refl _) _)); (· assumption); (· first | assumption | omega)) | (with_reducible exact hc1) | (with_reducible exact hc2) | (with_reducible exact hc3) | ((with_reducible refine eqPaper_ok p _ _ _ ?_ ?_ ?_); (· (try simp only [Z7, Zc, Zd]); exact hP2 _); (· (try simp only [Z7, Zc, Zd]); exact hP3); (· assumption)) | ((with_reducible refine specNameNo_p p _ _ _ ?_ ?_); (· (try simp only [Z7, Zc, Zd]); exact hP1); (· assumption)) | ((with_reducible refine implNameNo_p p _ _ _ ?_ ?_); (· exact hP2 _); (· assumption)) | ((with_reducible refine Z2w ?_); rintro _ _ ⟨rfl, hh⟩; replace hh := hh.symm; subst hh))
    rfl
  · have hd : decide (szP p 1048576 < 0) = false := decide_eq_false hz
    have hsm := szP_range (by omega) hz
    clear hz
    obtain ⟨L1, vt1, vn1, hc1, f1, g1, hP1⟩ := toPaper_x p va vna h (h ++ [⟨2, 1, [.int .i64 p.spec.conds, va, vna]⟩]) ((Sub.refl h).app _) hs hn hsm hcn
    obtain ⟨L2, vt2, vn2, hc2, f2, g2, hP2⟩ := toPaper_x p va vna h (h ++ ⟨2, 1, [.int .i64 p.spec.conds, va, vna]⟩ :: L1) ((Sub.refl h).app _) hs hn hsm hcn
    obtain ⟨L3, vt3, vn3, hc3, f3, g3, hP3⟩ := toPaper_x p va vna h (h ++ ⟨2, 1, [.int .i64 p.spec.conds, va, vna]⟩ :: (L1 ++ (L2 ++ [⟨2, 1, [.int .i64 p.spec.conds, vt2, vn2]⟩]))) ((Sub.refl h).app _) hs hn hsm hcn
    replace hP1 := hP1 []
    replace hP3 := hP3 []
    simp only [Z7, Zc, Zd, Zx] at hP1 hP2 hP3
    refine Z36 Try.func4 rfl Try.ntmps4 (by simp) (by dsimp only [Try.f4]) ?_
    repeat' (first | ((with_reducible refine eq_go ?_); simp only [stp, ev, ZB, reduceIte, Nat.reduceEqDiff, Z2x, Z13, Zy, binV_bool_neq, binV_bool_eql, Ty.un4, Ze, ZH, ldv, stv, vcs, blt, lenV, Z10, Zg, Z14, Zw, Z33, Nat.reduceAdd, Nat.reduceMul, Nat.reduceLeDiff, splice, newB, Ty.t3, Ty.t4, Ty.t9, Ty.t22, Ty.t24, Ty.t25, Ty.t27, Ty.t30, Ty.t32, Ty.t34, Ty.t86, Ty.t88, Ty.t89, nameNoV, *]; rfl) | (with_reducible first | refine aw_then ?_ | refine aw_skip ?_ | refine aw_ret ?_ | refine aw_exit ?_ | refine aw_block ?_ | refine xr_reg (by decide +kernel) ?_ | refine xr_nil ?_ | refine k_norm ?_ | refine k_ret ?_ | refine k_exit ?_ | refine b_norm ?_ | refine b_ret ?_ | refine b_exit ?_ | refine b_past (by decide) ?_ | refine xd_nil ?_) | (refine Ty.c6 (args := ?_) (K := ?_) ?_ ?_ ?_; rotate_left 2) | (refine Ty.d6 (args := ?_) (v := ?_) ?_ (by decide +kernel) ?_ ?_; rotate_left 2) | (refine Ty.c8 (args := ?_) (K := ?_) ?_ ?_ ?_; rotate_left 2) | (refine Ty.l8 (args := ?_) (v := ?_) (L := ?_) ?_ (by decide +kernel) ?_ ?_; rotate_left 3) | (refine Ty.c10 (args := ?_) (K := ?_) ?_ ?_ ?_; rotate_left 2) | (refine Ty.d10 (args := ?_) (v := ?_) ?_ (by decide +kernel) ?_ ?_; rotate_left 2) | (refine Ty.c11 (args := ?_) (K := ?_) ?_ ?_ ?_; rotate_left 2) | (refine Ty.d11 (args := ?_) (v := ?_) ?_ (by decide +kernel) ?_ ?_; rotate_left 2) | (refine Ty.c12 (args := ?_) (K := ?_) ?_ ?_ ?_; rotate_left 2) | (refine Ty.d12 (args := ?_) (v := ?_) ?_ (by decide +kernel) ?_ ?_; rotate_left 2) | (refine xr_do (v := ?_) (h' := ?_) (by exact rfl) ?_ ?_; rotate_left 2) | (refine xr_st (v := ?_) (h' := ?_) (by exact rfl) ?_ ?_; rotate_left 2) | refine xd_reg (ms := [0, 0, 2, 7, 15]) Ty.mx (by decide +kernel) (by decide +kernel) ?_ | (refine xd_do (v := ?_) (by exact rfl) (by decide +kernel) ?_ ?_; rotate_left 1) | (refine xr_g (b := ?_) (by exact rfl) ?_ ?_; rotate_left 1; (· simp only [ev, Zb, reduceIte, Nat.reduceEqDiff, Z8, Z5, *]; rfl)) | (refine xd_g (b := ?_) (by exact rfl) ?_ ?_; rotate_left 1; (· simp only [ev, Zb, reduceIte, Nat.reduceEqDiff, Z8, Z5, *]; rfl)) | (with_reducible first | refine gw_tt ?_ | refine gw_ff ?_ | refine gw_tf ?_ | refine gw_ft ?_ | refine gw_un ?_) | refine gw_if (fun hb => ?_) (fun hb => ?_) | (refine aw_c (b := ?_) (by decide) ?_ ?_; rotate_left 1; (· simp only [ev, Zb, reduceIte, Nat.reduceEqDiff, *]; rfl)) | (with_reducible first | refine cw_t ?_ | refine cw_f ?_) | refine cw_if (fun hb => ?_) (fun hb => ?_) | (refine r_ret (vs := ?_) ?_ ?_; rotate_left 1; (· simp only [resV, ev, Zb, reduceIte, Nat.reduceEqDiff, Zj, *]; rfl)) | ((with_reducible refine szPaper_ok p _ _ _ _ ?_ ?_ ?_ ?_); (· first | assumption | exact RTasksA.sub ‹_› (by first | assumption | exact Sub.refl _ | exact Sub.app ‹_› _ | exact Sub.app (Sub.refl _) _)); (· first | assumption | exact SlA.sub ‹_› (by first | assumption | exact Sub.refl _ | exact Sub.app ‹_› _ | exact Sub.app (Sub.refl _) _)); (· assumption); (· first | assumption | omega)) | (with_reducible exact hc1) | (with_reducible exact hc2) | (with_reducible exact hc3) | ((with_reducible refine eqPaper_ok p _ _ _ ?_ ?_ ?_); (· (try simp only [Z7, Zc, Zd]); exact hP2 _); (· (try simp only [Z7, Zc, Zd]); exact hP3); (· assumption)) | ((with_reducible refine specNameNo_p p _ _ _ ?_ ?_); (· (try simp only [Z7, Zc, Zd]); exact hP1); (· assumption)) | ((with_reducible refine implNameNo_p p _ _ _ ?_ ?_); (· exact hP2 _); (· assumption)) | ((with_reducible refine Z2w ?_); rintro _ _ ⟨rfl, hh⟩; replace hh := hh.symm; subst hh))
    all_goals first | rfl | (exfalso; simp at hb; done)
end Go.Proofs.Ytmjhfklmlcnofaa.Am
namespace Go.Proofs.Ytmjhfklmlcnofaa.Am
open Go Go.Proofs Go.RowKit
set_option linter.unusedVariables false
set_option linter.unusedSimpArgs false
set_option maxRecDepth 100000
section
variable {H : Type} {enc : TypeId × Value → H} {w : World}
theorem int_plain (n : Int) : ∀ u ∈ ([.int .i64 n] : List Value), af u = true ∧ flat u = true := fun u hu => by
  simp only [List.mem_cons, Z38, or_false] at hu
  subst hu; exact ⟨rfl, rfl⟩
theorem str_plain (s : ByteArray) : ∀ u ∈ ([.string s] : List Value), af u = true ∧ flat u = true := fun u hu => by
  simp only [List.mem_cons, Z38, or_false] at hu
  subst hu; exact ⟨rfl, rfl⟩
/-- A slice of whole numbers, wherever it lies. -/
theorem open_il {fuel : Nat} {v : Value} {x : DataW H × List MemPlace} (h : DataW.trod enc Try.prog w 0 (fun _ => true) true fuel 86 [v] = some x) {m : Map} {hp : Heap} (r : WRel 0 m hp w) (hno : NoOwn hp) :
    ∃ (l : List Int) (m' : Map) (h' : Heap) (v' : Value), WRel 0 m' (hp ++ h') w ∧ NoOwn (hp ++ h') ∧ Agree hp.length m m' ∧ SlA (hp ++ h') v' 1 (ints l) ∧ VRel (hp ++ h').length m' v' v ∧ l.length ≤ 9223372036854775807 ∧ flat v' = true := by
  obtain ⟨l, m', h', v', q1, q2, q3, q4, _, q5, q6, q7⟩ := open_leaf (G := 0) (fun z => [.int .i64 z]) (fun z => (Lit.int .i64 z).wf = true) Try.underlying86 (show Try.prog.cellsOf 3 = 1 by kernel_rfl) (by omega) int_plain
    (fun fuel cs y hy => el_int Try.underlying3 fuel cs y hy) h r hno
  exact ⟨l, m', h', v', q1, q2, q3, q4, q5, Nat.le_trans q6 (by decide), q7⟩
def RTaskF (h : Heap) (r : List Value) (t : TaskM) : Prop := RTaskA h r t ∧ t.fitL
theorem sub_app (h L : Heap) : Sub h (h ++ L) := (Sub.refl h).app L
theorem part_one {n o : Nat} {t : TypeId} {cs : List Value} {x : Value} (hc : Try.prog.cellsOf t = 1) (hx : cs[o]? = some x)
    (h : ∃ y, DataW.trod enc Try.prog w 0 (fun _ => true) true n t ((cs.drop o).take (Try.prog.cellsOf t)) = some y) : ∃ y, DataW.trod enc Try.prog w 0 (fun _ => true) true n t [x] = some y := by
  have : (cs.drop o).take 1 = [x] := by
    obtain ⟨hl, rfl⟩ := List.getElem?_eq_some_iff.1 hx
    rw [List.drop_eq_getElem_cons hl]; rfl
  rwa [hc, this] at h
theorem open_task (cs : List Value) (hcs : cs.length = 7 ∧ ∃ fuel y, DataW.trod enc Try.prog w 0 (fun _ => true) true fuel 88 cs = some y) (m : Map) (h : Heap) (r : WRel 0 m h w) (hno : NoOwn h) :
    ∃ (x : TaskM) (m' : Map) (h' : Heap) (acs : List Value), WRel 0 m' (h ++ h') w ∧ NoOwn (h ++ h') ∧ Agree h.length m m' ∧ RTaskF (h ++ h') acs x ∧ VRs (h ++ h').length m' acs cs ∧ ∀ u ∈ acs, flat u = true := by
  obtain ⟨hl, fuel, y, hy⟩ := hcs
  obtain ⟨_, n, hf⟩ := trod_struct Try.underlying88 hy
  obtain ⟨x0, x1, x2, x3, x4, x5, x6, rfl⟩ := len7 hl
  have c1 : Try.prog.cellsOf 86 = 1 := by kernel_rfl
  obtain ⟨a0, e0, _⟩ := part_int Try.underlying3 (by kernel_rfl) (hf _ (List.mem_of_getElem? (i := 0) rfl))
  obtain rfl := Option.some.inj e0
  obtain ⟨a1, e1, _⟩ := part_int Try.underlying3 (by kernel_rfl) (hf _ (List.mem_of_getElem? (i := 1) rfl))
  obtain rfl := Option.some.inj e1
  obtain ⟨a6, e6, _⟩ := part_int Try.underlying3 (by kernel_rfl) (hf _ (List.mem_of_getElem? (i := 6) rfl))
  obtain rfl := Option.some.inj e6
  obtain ⟨y2, t2⟩ := part_one c1 (x := x2) (o := 2) rfl (hf _ (List.mem_of_getElem? (i := 2) rfl))
  obtain ⟨y3, t3⟩ := part_one c1 (x := x3) (o := 3) rfl (hf _ (List.mem_of_getElem? (i := 3) rfl))
  obtain ⟨y4, t4⟩ := part_one c1 (x := x4) (o := 4) rfl (hf _ (List.mem_of_getElem? (i := 4) rfl))
  obtain ⟨y5, t5⟩ := part_one c1 (x := x5) (o := 5) rfl (hf _ (List.mem_of_getElem? (i := 5) rfl))
  obtain ⟨l2, m2, h2, v2, r2, n2, g2, s2, w2, k2, f2⟩ := open_il t2 r hno
  obtain ⟨l3, m3, h3, v3, r3, n3, g3, s3, w3, k3, f3⟩ := open_il t3 r2 n2
  obtain ⟨l4, m4, h4, v4, r4, n4, g4, s4, w4, k4, f4⟩ := open_il t4 r3 n3
  obtain ⟨l5, m5, h5, v5, r5, n5, g5, s5, w5, k5, f5⟩ := open_il t5 r4 n4
  have b2 := s2.sub (((sub_app _ h3).app h4).app h5)
  have b3 := s3.sub ((sub_app _ h4).app h5)
  have b4 := s4.sub (sub_app _ h5)
  have u2 := w2.mono (n' := (h ++ h2 ++ h3 ++ h4 ++ h5).length) (by simp) (g3.trans (g4.trans g5 (by simp)) (by simp))
  have u3 := w3.mono (n' := (h ++ h2 ++ h3 ++ h4 ++ h5).length) (by simp) (g4.trans g5 (by simp))
  have u4 := w4.mono (n' := (h ++ h2 ++ h3 ++ h4 ++ h5).length) (by simp) g5
  have e : h ++ (h2 ++ (h3 ++ (h4 ++ h5))) = h ++ h2 ++ h3 ++ h4 ++ h5 := by simp only [Z7]
  refine ⟨⟨a0, a1, l2, l3, l4, l5, a6, false⟩, m5, h2 ++ (h3 ++ (h4 ++ h5)), [.int .i64 a0, .int .i64 a1, v2, v3, v4, v5, .int .i64 a6], ?_, ?_, ?_, ?_, ?_, ?_⟩
  · rw [e]; exact r5
  · rw [e]; exact n5
  · exact g2.trans (g3.trans (g4.trans g5 (by simp)) (by simp)) (by simp)
  · rw [e]; exact ⟨⟨v2, v3, v4, v5, rfl, b2, b3, b4, s5, rfl⟩, k2, k3, k4, k5⟩
  · rw [e]; exact ⟨.int _ _, .int _ _, u2, u3, u4, w5, .int _ _, trivial⟩
  · intro u hu
    simp only [List.mem_cons, Z38, or_false] at hu
    rcases hu with rfl | rfl | rfl | rfl | rfl | rfl | rfl
    · rfl
    · rfl
    · exact f2
    · exact f3
    · exact f4
    · exact f5
    · rfl
theorem RTaskF.old (h L : Heap) (r : List Value) (x : TaskM) (q : RTaskF h r x) : RTaskF (h ++ L) r x := ⟨q.1.sub (sub_app h L), q.2⟩
theorem tasksF {h : Heap} {v : Value} {l : List TaskM} (q : RSA RTaskF 7 h v l) : RTasksA h v l ∧ ∀ t ∈ l, t.fitL ∧ t.cn = false := by
  refine ⟨q.mono (Sub.refl h) fun r x hr => hr.1, fun t ht => ?_⟩
  rcases q with ⟨rows, _, _, hlen, hr⟩ | ⟨_, rfl⟩
  · obtain ⟨i, hi, rfl⟩ := List.mem_iff_getElem.1 ht
    have := (hr i _ _ (List.getElem?_eq_getElem (by omega)) (List.getElem?_eq_getElem hi)).2
    obtain ⟨⟨_, _, _, _, _, _, _, _, _, hc⟩, hf⟩ := this
    exact ⟨hf, hc⟩
  · simp at ht
theorem open_paper {base : Nat} {v : Value} {d : DataW H} {ps : List MemPlace} {m : Map} {h : Heap}
    (hval : Value.okWide Try.prog w .any base 27 v) (ht : DataW.Trod enc Try.prog w 0 (fun _ => true) true 27 v d ps) (r : WRel 0 m h w) (hno : NoOwn h) :
    ∃ (p : PaperM) (va vna : Value) (m' : Map) (h' : Heap), WRel 0 m' (h ++ h') w ∧ NoOwn (h ++ h') ∧ Agree h.length m m' ∧ RTasksA (h ++ h') va p.spec.tasks ∧ SlA (h ++ h') vna 1 (strs p.names) ∧
      VRel (h ++ h').length m' (.agg #[.int .i64 p.spec.conds, va, vna]) v ∧ p.fitL ∧ ∀ t ∈ p.spec.tasks, t.cn = false := by
  obtain ⟨cs, rfl, hl, n, hf⟩ := open_parts Try.underlying27 hval ht
  rw [show Try.prog.cellsOf 27 = 3 by kernel_rfl] at hl
  obtain ⟨x0, x1, x2, rfl⟩ := len3 hl
  obtain ⟨y0, t0⟩ := hf 0 _ rfl
  have t0' : DataW.trod enc Try.prog w 0 (fun _ => true) true n 24 [x0, x1] = some y0 := by
    simpa [show Try.prog.cellsOf 24 = 2 by kernel_rfl] using t0
  obtain ⟨_, n2, hf2⟩ := trod_struct Try.underlying24 t0'
  obtain ⟨c, e0, _⟩ := part_int Try.underlying3 (by kernel_rfl) (hf2 _ (List.mem_of_getElem? (i := 0) rfl))
  obtain rfl := Option.some.inj e0
  obtain ⟨y1, t1⟩ := part_one (show Try.prog.cellsOf 22 = 1 by kernel_rfl) (x := x1) (o := 1) rfl (hf2 _ (List.mem_of_getElem? (i := 1) rfl))
  obtain ⟨y2, t2⟩ := part_one (show Try.prog.cellsOf 25 = 1 by kernel_rfl) (x := x2) (o := 2) rfl (hf 1 _ rfl)
  obtain ⟨l, m1, h1, va, r1, n1, g1, s1, w1, k1, f1⟩ := open_nested (G := 0) RTaskF RTaskF.old Try.underlying22 (show Try.prog.cellsOf 88 = 7 by kernel_rfl) (by omega) open_task t1 r hno
  obtain ⟨nm, m2, h2, vn, r2, n2, g2, s2, z2, w2, k2, f2⟩ := open_leaf (G := 0) (fun s => [.string s]) (fun s => s.size ≤ maxLen) Try.underlying25 (show Try.prog.cellsOf 9 = 1 by kernel_rfl) (by omega) str_plain
    (fun fuel cs y hy => trod_string Try.underlying9 hy) t2 r1 n1
  obtain ⟨q1, q2⟩ := tasksF s1
  have hmx : maxLen ≤ 9223372036854775807 := by decide
  rw [Z7] at *
  refine ⟨⟨⟨c, l⟩, nm⟩, va, vn, m2, h1 ++ h2, r2, n2, g1.trans g2 (by simp), ?_, s2, ?_, ⟨Nat.le_trans k1 hmx, fun t ht => (q2 t ht).1, Nat.le_trans k2 hmx, fun s hs => Nat.le_trans (z2 s hs) hmx⟩, fun t ht => (q2 t ht).2⟩
  · rw [← Z7]; exact q1.sub (sub_app _ h2)
  · have u1 := w1.mono (n' := (h ++ (h1 ++ h2)).length) (by simp) g2
    exact VRs.agg (l := [.int .i64 c, va, vn]) (l' := [.int .i64 c, x1, x2]) ⟨.int _ _, u1, w2, trivial⟩
end
end Go.Proofs.Ytmjhfklmlcnofaa.Am
