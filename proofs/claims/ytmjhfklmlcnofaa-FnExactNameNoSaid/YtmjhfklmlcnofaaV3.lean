/- Walks of a specification's moves. Conditions: none. -/
import Derived.Test.YtmjhfklmlcnofaaK3
import Derived.Test.YtmjhfklmlcnofaaV2
namespace Go.Proofs.Ytmjhfklmlcnofaa.Am
open Go Go.Proofs
set_option linter.unusedVariables false
set_option linter.unusedSimpArgs false
set_option maxRecDepth 100000
set_option maxHeartbeats 8000000
structure MoveM where
  task : Nat
  beg : Bool
  pick : Nat
def MoveM.cells (m : MoveM) : List Value := [.int .i64 m.task, .bool m.beg, .int .i64 m.pick]
def mvC (l : List MoveM) : List Value := (l.map MoveM.cells).flatten
theorem mvC_snoc (l : List MoveM) (m : MoveM) : mvC (l ++ [m]) = mvC l ++ m.cells := by simp [mvC]
theorem mvC_af (l : List MoveM) : ∀ x ∈ mvC l, af1 x = true := by
  intro x hx
  obtain ⟨r, hr, hx⟩ := List.mem_flatten.1 hx
  obtain ⟨m, _, rfl⟩ := List.mem_map.1 hr
  simp only [MoveM.cells, List.mem_cons, Z38, or_false] at hx
  rcases hx with rfl | rfl | rfl <;> rfl
def mvB (k : Nat) (t : TaskM) (i : Nat) : List MoveM := (List.range i).map fun j => ⟨k, true, j⟩
def mvE1 (k : Nat) (i : Nat) : List MoveM := (List.range i).map fun j => ⟨k, false, j⟩
def mvE2 (k : Nat) (i : Nat) : List MoveM := (List.range i).map fun j => ⟨k, false, j + 1⟩
/-- The moves of the k-th task, of which there is a first condition ahead. -/
def movesT (k : Nat) (t : TaskM) : List MoveM := mvB k t (if t.join = 2 then t.inn.length else 1) ++ (if t.split = 1 then [⟨k, false, 0⟩] else if t.split = 2 then mvE1 k t.out.length else mvE2 k (2 ^ t.out.length - 1))
def movesK (s : SpecM) : Nat → List MoveM
  | 0 => []
  | k + 1 => movesK s k ++ movesT k (s.tasks.getD k TaskM.nil)
def movesM (s : SpecM) : List MoveM := movesK s s.tasks.length
theorem mvB_succ (k : Nat) (t : TaskM) (i : Nat) : mvB k t (i + 1) = mvB k t i ++ [⟨k, true, i⟩] := by simp [mvB, List.range_succ]
theorem mvE1_succ (k i : Nat) : mvE1 k (i + 1) = mvE1 k i ++ [⟨k, false, i⟩] := by simp [mvE1, List.range_succ]
theorem mvE2_succ (k i : Nat) : mvE2 k (i + 1) = mvE2 k i ++ [⟨k, false, i + 1⟩] := by simp [mvE2, List.range_succ]
theorem movesT_len (k : Nat) (t : TaskM) (h1 : t.inn.length ≤ 3) (h2 : t.out.length ≤ 3) : (movesT k t).length ≤ 16 := by
  have h8 : 2 ^ t.out.length ≤ 8 := Nat.pow_le_pow_right (by decide) h2
  unfold movesT
  rw [Z6]
  have a1 : (mvB k t (if t.join = 2 then t.inn.length else 1)).length ≤ 3 := by
    simp only [mvB, Zv, List.length_range]; split <;> omega
  have a2 : (if t.split = 1 then [(⟨k, false, 0⟩ : MoveM)] else if t.split = 2 then mvE1 k t.out.length else mvE2 k (2 ^ t.out.length - 1)).length ≤ 8 := by
    split
    · simp
    · split
      · simp only [mvE1, Zv, List.length_range]; omega
      · simp only [mvE2, Zv, List.length_range]; omega
  omega
theorem movesK_len (s : SpecM) (h : ∀ k, k < s.tasks.length → (s.tasks.getD k TaskM.nil).inn.length ≤ 3 ∧ (s.tasks.getD k TaskM.nil).out.length ≤ 3) : ∀ k, k ≤ s.tasks.length → (movesK s k).length ≤ 16 * k
  | 0, _ => by simp [movesK]
  | k + 1, hk => by
      have h1 := movesK_len s h k (by omega)
      have h2 := movesT_len k _ (h k (by omega)).1 (h k (by omega)).2
      rw [movesK, Z6]; omega
def TaskM.fit (t : TaskM) : Prop := 1 ≤ t.inn.length ∧ t.inn.length ≤ 3 ∧ 1 ≤ t.out.length ∧ t.out.length ≤ 3
/-- What is known of a specification behind the tests of its tasks. -/
def SpecM.fit (s : SpecM) : Prop := (2 ≤ s.conds ∧ s.conds ≤ 8) ∧ (1 ≤ s.tasks.length ∧ s.tasks.length ≤ 6) ∧ ∀ k, k < s.tasks.length → taskOk s.conds s.tasks.length k (s.tasks.getD k TaskM.nil) = true
theorem taskOk_fit {c : Int} {n k : Nat} {t : TaskM} (h : taskOk c n k t = true) : t.fit := by
  simp only [taskOk, Bool.and_eq_true, decide_eq_true_eq] at h
  obtain ⟨_, _, _, h1, _, h2, _⟩ := h
  exact ⟨by omega, by omega, by omega, by omega⟩
def mvV (n : Nat) (l : List MoveM) : Value := if l = [] then .slice none 0 0 else .slice (some ⟨n, 0, some 0⟩) l.length l.length
def mvL (l : List MoveM) : Heap := if l = [] then [] else [⟨2, 3, mvC l⟩]
theorem mv_canon {h L : Heap} {v : Value} {l : List MoveM} (ha : App h.length L v 3 (mvC l) l.length) :
    ∃ (L' : Heap) (ks : List Nat), h ++ L = h ++ L' ∧ Inj ks ∧ ks.length = (mvL l).length ∧ BsOk (mvL l) L' ks ∧ RV h.length L' ks (mvV h.length l) v := by
  rcases ha with ⟨rfl, h1, h2⟩ | ⟨h1, h2, k, rfl, h4⟩
  · obtain rfl := List.length_eq_zero_iff.1 h1
    exact ⟨L, [], rfl, Inj.nil, rfl, BsOk.nil _ _, .plain _ rfl⟩
  · have hne : l ≠ [] := fun q => h1 (by rw [q]; rfl)
    simp only [mvL, mvV, if_neg hne]
    exact ⟨L, [k], rfl, Inj.one k, rfl, BsOk.cons rfl (mvC_af l) h4 (BsOk.nil _ _), .sl 0 k _ _ 3 _ _ rfl h4 h2 (Z4 _) (.inr rfl)⟩
theorem bsl_mv (H : Heap) (a : Int) (b : Bool) (c : Int) : bsl Try.prog 73 H 1 [(0, .agg #[.int .i64 a, .bool b, .int .i64 c])] = some (.slice (some ⟨H.length, 0, none⟩) 1 1, H ++ [⟨2, 3, [.int .i64 a, .bool b, .int .i64 c]⟩]) := by
  simp [bsl, Ty.sl73, Ty.zc97, fillL, newS, zeros, vcs, splice, Z30, Z2v]
theorem App.bid_ne {n : Nat} {L : Heap} {v : Value} {e : Nat} {cs : List Value} {len : Nat} (h : App n L v e cs len) {j : Nat} (hj : L.length ≤ j) : bid v ≠ some (n + j) := by
  rcases h with ⟨rfl, _, _⟩ | ⟨_, _, k, rfl, hk⟩
  · simp [bid]
  · have := lt_of_get hk
    simp only [bid, ne_eq, Option.some.injEq]; omega
/-- A block that stays, and a slice that does not lie in it. -/
def Keep (n : Nat) (L : Heap) (v : Value) (j : Nat) (b : Blk) : Prop := L[j]? = some b ∧ bid v ≠ some (n + j)
theorem Keep.getC {n : Nat} {L : Heap} {v : Value} {j : Nat} {cs : List Value} (h : Keep n L v j ⟨2, 1, cs⟩) (X : Heap) (o : Nat) : Am.getC (L ++ X) j o = cs[o]? := by
  unfold Am.getC; rw [get_old h.1]; simp
theorem Keep.getC0 {n : Nat} {L : Heap} {v : Value} {j : Nat} {cs : List Value} (h : Keep n L v j ⟨2, 1, cs⟩) (o : Nat) : Am.getC L j o = cs[o]? := by
  unfold Am.getC; rw [h.1]; simp
/-- One move more. -/
theorem mv_step {h L : Heap} {v : Value} {l : List MoveM} (m : MoveM) (hv : App h.length L v 3 (mvC l) l.length) (E : Heap) (hl : l.length ≤ 1000) :
    ∃ v' L', apS Try.prog (h ++ (L ++ (E ++ [⟨2, 3, m.cells⟩]))) 73 73 v (.slice (some ⟨h.length + (L.length + E.length), 0, none⟩) 1 1) = some (v', h ++ L') ∧ App h.length L' v' 3 (mvC (l ++ [m])) (l ++ [m]).length ∧
      ∀ (j0 : Nat) (b0 : Blk), (L ++ (E ++ [⟨2, 3, m.cells⟩]))[j0]? = some b0 → bid v ≠ some (h.length + j0) → Keep h.length L' v' j0 b0 := by
  obtain ⟨v', L', q1, q2, q3⟩ := app_keep (P := Try.prog) (h2 := h) (L := L) (E := E ++ [⟨2, 3, m.cells⟩]) (v := v) (cs := mvC l) (xs := m.cells) (len := l.length) (j := E.length) (ix := h.length + (L.length + E.length)) Ty.sl73 Ty.zc97 Ty.by97 hv (by rw [List.getElem?_append_right (Z4 _), Nat.sub_self]; rfl) rfl rfl (by omega) (by omega)
  exact ⟨v', L', q1, q2.cast rfl rfl rfl (mvC_snoc l m) (by simp), q3⟩
theorem movesOf_ok (s : SpecM) (vt : Value) (I h : Heap) (hI : Sub I h) (hs : RTasks I vt s.tasks) (hsm : s.small) (hf : s.fit) :
    ACalls Try.prog 0 89 #[.agg #[.int .i64 s.conds, vt]] h
    fun v h' => v = mvV h.length (movesM s) ∧ h' = h ++ mvL (movesM s) := by
  refine acalls_canon _ _ ?_
  have hfl := hs.flat
  obtain ⟨b, c, rfl, hcc, hrow⟩ := hs.form
  have hlen := hsm.1
  have hml := movesK_len s (fun k hk => ⟨(taskOk_fit (hf.2.2 k hk)).2.1, (taskOk_fit (hf.2.2 k hk)).2.2.2⟩)
  have h6 := hf.2.1.2
  refine Z36 Try.func89 rfl Try.ntmps89 (by simp) (by dsimp only [Try.f89]) ?_
  repeat' (first | ((with_reducible refine eq_go ?_); simp only [stp, ev, ZB, reduceIte, Nat.reduceEqDiff, Z2x, Z13, Zy, bld, fillL, vcs, splice, Ze, ZH, Z35, ldv, stv, fldA, idxA, blt, lenV, Z10, Zg, Z14, Zw, Z33, Nat.reduceAdd, Nat.reduceMul, Nat.reduceLeDiff, newB, Ty.t3, Ty.t4, Ty.t30, Ty.t32, Ty.t73, Ty.t86, Ty.t89, Ty.t97, *]; rfl) | (with_reducible first | refine aw_then ?_ | refine aw_skip ?_ | refine aw_ret ?_ | refine aw_exit ?_ | refine aw_block ?_ | refine xr_reg (by decide +kernel) ?_ | refine xr_nil ?_ | refine k_norm ?_ | refine k_ret ?_ | refine k_exit ?_ | refine b_norm ?_ | refine b_ret ?_ | refine b_exit ?_ | refine b_past (by decide) ?_) | (refine xr_do (v := ?_) (h' := ?_) (by exact rfl) ?_ ?_; rotate_left 2) | (refine xr_st (v := ?_) (h' := ?_) (by exact rfl) ?_ ?_; rotate_left 2) | (refine xr_g (b := ?_) (by exact rfl) ?_ ?_; rotate_left 1; (· simp only [ev, Zb, reduceIte, Nat.reduceEqDiff, Z8, Z5, *]; rfl)) | (with_reducible first | refine gw_tt ?_ | refine gw_ff ?_ | refine gw_tf ?_ | refine gw_ft ?_ | refine gw_un ?_) | refine gw_if (fun hb => ?_) (fun hb => ?_) | (refine aw_c (b := ?_) (by decide) ?_ ?_; rotate_left 1; (· simp only [ev, Zb, reduceIte, Nat.reduceEqDiff, *]; rfl)) | (with_reducible first | refine cw_t ?_ | refine cw_f ?_) | refine cw_if (fun hb => ?_) (fun hb => ?_) | (refine r_ret (vs := ?_) ?_ ?_; rotate_left 1; (· simp only [resV, ev, Zb, reduceIte, Nat.reduceEqDiff, Zj, *]; rfl)))
  refine aw_for [1, 2, 10, 11] (fun k T h' => ∃ L, h' = h ++ L ∧ T 12 = .int .i64 k ∧ App h.length L (T 3) 3 (mvC (movesK s k)) (movesK s k).length) s.tasks.length (k0 := 0) (Nat.zero_le _) ⟨_, rfl, rfl, App.nil _ _ _⟩ ?_
  rintro k T h' hk hR ⟨L, rfl, h12, hap⟩
  simp only [Z37, Z38, Z39, implies_true, and_true, stp, ev, ZB, reduceIte, Nat.reduceEqDiff, Z2x, Z13, Zy] at hR
  rcases Nat.lt_or_ge k s.tasks.length with hkn | hkn
  · have h1 : (k : Int) < s.tasks.length := by omega
    obtain ⟨a, row, rfl, hrl, hrt, hld0⟩ := hrow k hkn
    obtain ⟨x, y, z, w, rfl, q1, q2, q3, q4, _⟩ := hrt
    have hfit := taskOk_fit (hf.2.2 k hkn)
    have htk := hf.2.2 k hkn
    rw [show s.tasks.getD k TaskM.nil = s.tasks[k] by rw [List.getD_eq_getElem?_getD, List.getElem?_eq_getElem hkn]; rfl] at hfit htk
    have hsn : movesK s (k + 1) = movesK s k ++ movesT k s.tasks[k] := by rw [movesK, List.getD_eq_getElem?_getD, List.getElem?_eq_getElem hkn]; rfl
    have hk16 := hml k (by omega)
    have hld := fun L => hld0 _ (hI.app L)
    have f1 := q1.flat
    have f2 := q2.flat
    have f3 := q3.flat
    have f4 := q4.flat
    obtain ⟨x1, x2, rfl, _, _⟩ := q1
    obtain ⟨y1, y2, rfl, _, _⟩ := q2
    simp only [ints_length] at hld f1 f2
    clear hrow hld0 hml
    generalize s.tasks[k] = t at *
    generalize movesK s k = M at *
    obtain ⟨i1, i2, o1, o2⟩ := hfit
    have hbs := fun (H : Heap) (b : Bool) (c : Int) => bsl_mv H k b c
    have hcb : (L ++ [(⟨2, 1, [.int .i64 t.join, .int .i64 t.split, .slice x1 t.inn.length x2, .slice y1 t.out.length y2, z, w, .int .i64 t.role]⟩ : Blk), ⟨2, 3, [.int .i64 k, .bool true, .int .i64 0]⟩])[L.length]? = some ⟨2, 1, [.int .i64 t.join, .int .i64 t.split, .slice x1 t.inn.length x2, .slice y1 t.out.length y2, z, w, .int .i64 t.role]⟩ := by
      rw [List.getElem?_append_right (Z4 _), Nat.sub_self]; rfl
    obtain ⟨v1, L1, hap1, happ1, hkeep1⟩ := mv_step ⟨k, true, 0⟩ hap [⟨2, 1, [.int .i64 t.join, .int .i64 t.split, .slice x1 t.inn.length x2, .slice y1 t.out.length y2, z, w, .int .i64 t.role]⟩] (by omega)
    have hkp1 := hkeep1 L.length _ hcb (hap.bid_ne (Z4 _))
    simp only [MoveM.cells, Z7, Zc, Zd, Z6, Z3, Z2, Zf, Zi, Zh, Nat.reduceAdd, Int.natCast_zero] at hap1
    clear hkeep1 hcb
    repeat' (first | ((with_reducible refine eq_go ?_); simp only [stp, ev, ZB, reduceIte, Nat.reduceEqDiff, Z2x, Z13, Zy, bld, fillL, vcs, splice, Ze, ZH, Z35, ldv, stv, fldA, idxA, blt, lenV, Z10, Zg, Z14, Zw, Z33, Nat.reduceAdd, Nat.reduceMul, Nat.reduceLeDiff, newB, Ty.t3, Ty.t4, Ty.t30, Ty.t32, Ty.t73, Ty.t86, Ty.t89, Ty.t97, *]; rfl) | (with_reducible first | refine aw_then ?_ | refine aw_skip ?_ | refine aw_ret ?_ | refine aw_exit ?_ | refine aw_block ?_ | refine xr_reg (by decide +kernel) ?_ | refine xr_nil ?_ | refine k_norm ?_ | refine k_ret ?_ | refine k_exit ?_ | refine b_norm ?_ | refine b_ret ?_ | refine b_exit ?_ | refine b_past (by decide) ?_) | (refine xr_do (v := ?_) (h' := ?_) (by exact rfl) ?_ ?_; rotate_left 2) | (refine xr_st (v := ?_) (h' := ?_) (by exact rfl) ?_ ?_; rotate_left 2) | (refine xr_g (b := ?_) (by exact rfl) ?_ ?_; rotate_left 1; (· simp only [ev, Zb, reduceIte, Nat.reduceEqDiff, Z8, Z5, *]; rfl)) | (with_reducible first | refine gw_tt ?_ | refine gw_ff ?_ | refine gw_tf ?_ | refine gw_ft ?_ | refine gw_un ?_) | refine gw_if (fun hb => ?_) (fun hb => ?_) | (refine aw_c (b := ?_) (by decide) ?_ ?_; rotate_left 1; (· simp only [ev, Zb, reduceIte, Nat.reduceEqDiff, *]; rfl)) | (with_reducible first | refine cw_t ?_ | refine cw_f ?_) | refine cw_if (fun hb => ?_) (fun hb => ?_) | (refine r_ret (vs := ?_) ?_ ?_; rotate_left 1; (· simp only [resV, ev, Zb, reduceIte, Nat.reduceEqDiff, Zj, *]; rfl)))
    generalize L.length = p at *
    refine aw_for [1, 2, 4, 5, 10, 11, 12] (fun i T h' => ∃ L', h' = h ++ L' ∧ T 6 = .int .i64 i ∧ App h.length L' (T 3) 3 (mvC (M ++ mvB k t i)) (M ++ mvB k t i).length ∧ Keep h.length L' (T 3) p ⟨2, 1, [.int .i64 t.join, .int .i64 t.split, .slice x1 t.inn.length x2, .slice y1 t.out.length y2, z, w, .int .i64 t.role]⟩ ∧ (t.join = 2 ∨ i = 1)) t.inn.length (k0 := 1) i1 ⟨L1, rfl, rfl, happ1, hkp1, .inr rfl⟩ ?_
    clear hap1 happ1 hkp1 hap
    rintro i T h' hi hR ⟨L, rfl, h6', hap, hkp, hji⟩
    simp only [Z37, Z38, Z39, implies_true, and_true, stp, ev, ZB, reduceIte, Nat.reduceEqDiff, Z2x, Z13, Zy] at hR
    have hgc0 := hkp.getC0
    have hgc := hkp.getC
    have hmvl : (M ++ mvB k t i).length ≤ 900 := by rw [Z6]; simp only [mvB, Zv, List.length_range]; omega
    by_cases hgo : t.join = 2 ∧ i < t.inn.length
    · have hj2 : decide (t.join = 2) = true := decide_eq_true hgo.1
      have hi2 : decide ((i : Int) < t.inn.length) = true := decide_eq_true (by omega)
      obtain ⟨v2, L2, hap2, happ2, hkeep2⟩ := mv_step ⟨k, true, i⟩ hap [] (by omega)
      have hkp2 := hkeep2 p _ (get_old hkp.1) hkp.2
      simp only [MoveM.cells, Z7, Zc, Zd, Z6, Z3, Z2, Zf, Zi, Zh, Nat.reduceAdd, Int.natCast_zero] at hap2
      rw [Z7, ← mvB_succ] at happ2
      repeat' (first | ((with_reducible refine eq_go ?_); simp only [stp, ev, ZB, reduceIte, Nat.reduceEqDiff, Z2x, Z13, Zy, bld, fillL, vcs, splice, Ze, ZH, Z35, ldv, stv, fldA, idxA, blt, lenV, Z10, Zg, Z14, Zw, Z33, Nat.reduceAdd, Nat.reduceMul, Nat.reduceLeDiff, newB, Ty.t3, Ty.t4, Ty.t30, Ty.t32, Ty.t73, Ty.t86, Ty.t89, Ty.t97, *]; rfl) | (with_reducible first | refine aw_then ?_ | refine aw_skip ?_ | refine aw_ret ?_ | refine aw_exit ?_ | refine aw_block ?_ | refine xr_reg (by decide +kernel) ?_ | refine xr_nil ?_ | refine k_norm ?_ | refine k_ret ?_ | refine k_exit ?_ | refine b_norm ?_ | refine b_ret ?_ | refine b_exit ?_ | refine b_past (by decide) ?_) | (refine xr_do (v := ?_) (h' := ?_) (by exact rfl) ?_ ?_; rotate_left 2) | (refine xr_st (v := ?_) (h' := ?_) (by exact rfl) ?_ ?_; rotate_left 2) | (refine xr_g (b := ?_) (by exact rfl) ?_ ?_; rotate_left 1; (· simp only [ev, Zb, reduceIte, Nat.reduceEqDiff, Z8, Z5, *]; rfl)) | (with_reducible first | refine gw_tt ?_ | refine gw_ff ?_ | refine gw_tf ?_ | refine gw_ft ?_ | refine gw_un ?_) | refine gw_if (fun hb => ?_) (fun hb => ?_) | (refine aw_c (b := ?_) (by decide) ?_ ?_; rotate_left 1; (· simp only [ev, Zb, reduceIte, Nat.reduceEqDiff, *]; rfl)) | (with_reducible first | refine cw_t ?_ | refine cw_f ?_) | refine cw_if (fun hb => ?_) (fun hb => ?_) | (refine r_ret (vs := ?_) ?_ ?_; rotate_left 1; (· simp only [resV, ev, Zb, reduceIte, Nat.reduceEqDiff, Zj, *]; rfl)))
      refine ⟨by first | assumption | omega, ?_, ?_⟩
      · simp only [Z37, Z38, Z39, implies_true, and_true, ZB, stp, ev, reduceIte, Nat.reduceEqDiff, Z2x, Z13, Zy, *]
      refine ⟨L2, rfl, ?_, happ2, hkp2, .inl hgo.1⟩
      simp only [Zb, reduceIte, Nat.reduceEqDiff]
      rw [wrap_id (by omega)]; rfl
    · have hib : (if t.join = 2 then t.inn.length else 1) = i := by
        split
        · omega
        · rcases hji with q | q
          · exact absurd q ‹_›
          · exact q.symm
      have hout : (decide (t.join = 2) && decide ((i : Int) < t.inn.length)) = false := by
        rcases Decidable.em (t.join = 2) with q | q
        · rw [decide_eq_false (p := (i : Int) < t.inn.length) (by omega), Bool.and_false]
        · rw [decide_eq_false q, Bool.false_and]
      have hfin : ∀ ends : List MoveM, (if t.split = 1 then [⟨k, false, 0⟩] else if t.split = 2 then mvE1 k t.out.length else mvE2 k (2 ^ t.out.length - 1)) = ends → movesK s (k + 1) = (M ++ mvB k t i) ++ ends := fun ends q => by
        rw [hsn, movesT, hib, q, Z7]
      clear hsn hib
      generalize movesK s (k + 1) = M1 at *
      generalize M ++ mvB k t i = M2 at *
      have h3 : t.split = 1 ∨ t.split = 2 ∨ t.split = 3 := by
        simp only [taskOk, Bool.and_eq_true, decide_eq_true_eq] at htk; omega
      have hjc : decide (t.join = 2) = false ∨ (decide (t.join = 2) = true ∧ decide ((i : Int) < t.inn.length) = false) := by
        rcases Decidable.em (t.join = 2) with q | q
        · exact .inr ⟨decide_eq_true q, decide_eq_false (by omega)⟩
        · exact .inl (decide_eq_false q)
      clear hgo hout hji
      rcases hjc with hj2 | ⟨hj2, hi2⟩
      all_goals
        rcases h3 with h3 | h3 | h3
        · have d1 : decide (t.split = 1) = true := decide_eq_true h3
          have hm1 := hfin _ (if_pos h3)
          subst hm1
          clear hfin h3
          obtain ⟨v2, L2, hap2, happ2, -⟩ := mv_step ⟨k, false, 0⟩ hap [] (by omega)
          simp only [MoveM.cells, Z7, Zc, Zd, Z6, Z3, Z2, Zf, Zi, Zh, Nat.reduceAdd, Int.natCast_zero] at hap2
          repeat' (first | ((with_reducible refine eq_go ?_); simp only [stp, ev, ZB, reduceIte, Nat.reduceEqDiff, Z2x, Z13, Zy, bld, fillL, vcs, splice, Ze, ZH, Z35, ldv, stv, fldA, idxA, blt, lenV, Z10, Zg, Z14, Zw, Z33, Nat.reduceAdd, Nat.reduceMul, Nat.reduceLeDiff, newB, Ty.t3, Ty.t4, Ty.t30, Ty.t32, Ty.t73, Ty.t86, Ty.t89, Ty.t97, *]; rfl) | (with_reducible first | refine aw_then ?_ | refine aw_skip ?_ | refine aw_ret ?_ | refine aw_exit ?_ | refine aw_block ?_ | refine xr_reg (by decide +kernel) ?_ | refine xr_nil ?_ | refine k_norm ?_ | refine k_ret ?_ | refine k_exit ?_ | refine b_norm ?_ | refine b_ret ?_ | refine b_exit ?_ | refine b_past (by decide) ?_) | (refine xr_do (v := ?_) (h' := ?_) (by exact rfl) ?_ ?_; rotate_left 2) | (refine xr_st (v := ?_) (h' := ?_) (by exact rfl) ?_ ?_; rotate_left 2) | (refine xr_g (b := ?_) (by exact rfl) ?_ ?_; rotate_left 1; (· simp only [ev, Zb, reduceIte, Nat.reduceEqDiff, Z8, Z5, *]; rfl)) | (with_reducible first | refine gw_tt ?_ | refine gw_ff ?_ | refine gw_tf ?_ | refine gw_ft ?_ | refine gw_un ?_) | refine gw_if (fun hb => ?_) (fun hb => ?_) | (refine aw_c (b := ?_) (by decide) ?_ ?_; rotate_left 1; (· simp only [ev, Zb, reduceIte, Nat.reduceEqDiff, *]; rfl)) | (with_reducible first | refine cw_t ?_ | refine cw_f ?_) | refine cw_if (fun hb => ?_) (fun hb => ?_) | (refine r_ret (vs := ?_) ?_ ?_; rotate_left 1; (· simp only [resV, ev, Zb, reduceIte, Nat.reduceEqDiff, Zj, *]; rfl)))
          refine ⟨by first | assumption | omega, ?_, ?_⟩
          · simp only [Z37, Z38, Z39, implies_true, and_true, ZB, stp, ev, reduceIte, Nat.reduceEqDiff, Z2x, Z13, Zy, *]
          refine ⟨L2, rfl, ?_, happ2⟩
          simp only [Zb, reduceIte, Nat.reduceEqDiff]
          rw [wrap_id (by omega)]; rfl
        · have d1 : decide (t.split = 1) = false := decide_eq_false (by omega)
          have d2 : decide (t.split = 2) = true := decide_eq_true h3
          have hm1 := hfin (mvE1 k t.out.length) (by rw [if_neg (by omega), if_pos h3])
          subst hm1
          clear hfin h3
          repeat' (first | ((with_reducible refine eq_go ?_); simp only [stp, ev, ZB, reduceIte, Nat.reduceEqDiff, Z2x, Z13, Zy, bld, fillL, vcs, splice, Ze, ZH, Z35, ldv, stv, fldA, idxA, blt, lenV, Z10, Zg, Z14, Zw, Z33, Nat.reduceAdd, Nat.reduceMul, Nat.reduceLeDiff, newB, Ty.t3, Ty.t4, Ty.t30, Ty.t32, Ty.t73, Ty.t86, Ty.t89, Ty.t97, *]; rfl) | (with_reducible first | refine aw_then ?_ | refine aw_skip ?_ | refine aw_ret ?_ | refine aw_exit ?_ | refine aw_block ?_ | refine xr_reg (by decide +kernel) ?_ | refine xr_nil ?_ | refine k_norm ?_ | refine k_ret ?_ | refine k_exit ?_ | refine b_norm ?_ | refine b_ret ?_ | refine b_exit ?_ | refine b_past (by decide) ?_) | (refine xr_do (v := ?_) (h' := ?_) (by exact rfl) ?_ ?_; rotate_left 2) | (refine xr_st (v := ?_) (h' := ?_) (by exact rfl) ?_ ?_; rotate_left 2) | (refine xr_g (b := ?_) (by exact rfl) ?_ ?_; rotate_left 1; (· simp only [ev, Zb, reduceIte, Nat.reduceEqDiff, Z8, Z5, *]; rfl)) | (with_reducible first | refine gw_tt ?_ | refine gw_ff ?_ | refine gw_tf ?_ | refine gw_ft ?_ | refine gw_un ?_) | refine gw_if (fun hb => ?_) (fun hb => ?_) | (refine aw_c (b := ?_) (by decide) ?_ ?_; rotate_left 1; (· simp only [ev, Zb, reduceIte, Nat.reduceEqDiff, *]; rfl)) | (with_reducible first | refine cw_t ?_ | refine cw_f ?_) | refine cw_if (fun hb => ?_) (fun hb => ?_) | (refine r_ret (vs := ?_) ?_ ?_; rotate_left 1; (· simp only [resV, ev, Zb, reduceIte, Nat.reduceEqDiff, Zj, *]; rfl)))
          refine aw_for [1, 2, 4, 5, 10, 11, 12, 67] (fun i T h' => ∃ L', h' = h ++ L' ∧ T 68 = .int .i64 i ∧ App h.length L' (T 3) 3 (mvC (M2 ++ mvE1 k i)) (M2 ++ mvE1 k i).length) t.out.length (k0 := 0) (Nat.zero_le _) ⟨L, rfl, rfl, hap.cast rfl rfl rfl (by simp [mvE1]) (by simp [mvE1])⟩ ?_
          clear hap hkp hgc hgc0
          rintro i T h' hi hR ⟨L, rfl, h68, hap⟩
          simp only [Z37, Z38, Z39, implies_true, and_true, stp, ev, ZB, reduceIte, Nat.reduceEqDiff, Z2x, Z13, Zy] at hR
          have hmvl2 : (M2 ++ mvE1 k i).length ≤ 910 := by rw [Z6]; simp only [mvE1, Zv, List.length_range]; omega
          rcases Nat.lt_or_ge i t.out.length with hio | hio
          · have h1n : (i : Int) < t.out.length := by omega
            obtain ⟨v2, L2, hap2, happ2, -⟩ := mv_step ⟨k, false, i⟩ hap [] (by omega)
            simp only [MoveM.cells, Z7, Zc, Zd, Z6, Z3, Z2, Zf, Zi, Zh, Nat.reduceAdd, Int.natCast_zero] at hap2
            rw [Z7, ← mvE1_succ] at happ2
            repeat' (first | ((with_reducible refine eq_go ?_); simp only [stp, ev, ZB, reduceIte, Nat.reduceEqDiff, Z2x, Z13, Zy, bld, fillL, vcs, splice, Ze, ZH, Z35, ldv, stv, fldA, idxA, blt, lenV, Z10, Zg, Z14, Zw, Z33, Nat.reduceAdd, Nat.reduceMul, Nat.reduceLeDiff, newB, Ty.t3, Ty.t4, Ty.t30, Ty.t32, Ty.t73, Ty.t86, Ty.t89, Ty.t97, *]; rfl) | (with_reducible first | refine aw_then ?_ | refine aw_skip ?_ | refine aw_ret ?_ | refine aw_exit ?_ | refine aw_block ?_ | refine xr_reg (by decide +kernel) ?_ | refine xr_nil ?_ | refine k_norm ?_ | refine k_ret ?_ | refine k_exit ?_ | refine b_norm ?_ | refine b_ret ?_ | refine b_exit ?_ | refine b_past (by decide) ?_) | (refine xr_do (v := ?_) (h' := ?_) (by exact rfl) ?_ ?_; rotate_left 2) | (refine xr_st (v := ?_) (h' := ?_) (by exact rfl) ?_ ?_; rotate_left 2) | (refine xr_g (b := ?_) (by exact rfl) ?_ ?_; rotate_left 1; (· simp only [ev, Zb, reduceIte, Nat.reduceEqDiff, Z8, Z5, *]; rfl)) | (with_reducible first | refine gw_tt ?_ | refine gw_ff ?_ | refine gw_tf ?_ | refine gw_ft ?_ | refine gw_un ?_) | refine gw_if (fun hb => ?_) (fun hb => ?_) | (refine aw_c (b := ?_) (by decide) ?_ ?_; rotate_left 1; (· simp only [ev, Zb, reduceIte, Nat.reduceEqDiff, *]; rfl)) | (with_reducible first | refine cw_t ?_ | refine cw_f ?_) | refine cw_if (fun hb => ?_) (fun hb => ?_) | (refine r_ret (vs := ?_) ?_ ?_; rotate_left 1; (· simp only [resV, ev, Zb, reduceIte, Nat.reduceEqDiff, Zj, *]; rfl)))
            refine ⟨by first | assumption | omega, ?_, ?_⟩
            · simp only [Z37, Z38, Z39, implies_true, and_true, ZB, stp, ev, reduceIte, Nat.reduceEqDiff, Z2x, Z13, Zy, *]
            refine ⟨L2, rfl, ?_, happ2⟩
            simp only [Zb, reduceIte, Nat.reduceEqDiff]
            rw [wrap_id (by omega)]; rfl
          · have h1n : ¬ (i : Int) < t.out.length := by omega
            obtain rfl : i = t.out.length := by omega
            repeat' (first | ((with_reducible refine eq_go ?_); simp only [stp, ev, ZB, reduceIte, Nat.reduceEqDiff, Z2x, Z13, Zy, bld, fillL, vcs, splice, Ze, ZH, Z35, ldv, stv, fldA, idxA, blt, lenV, Z10, Zg, Z14, Zw, Z33, Nat.reduceAdd, Nat.reduceMul, Nat.reduceLeDiff, newB, Ty.t3, Ty.t4, Ty.t30, Ty.t32, Ty.t73, Ty.t86, Ty.t89, Ty.t97, *]; rfl) | (with_reducible first | refine aw_then ?_ | refine aw_skip ?_ | refine aw_ret ?_ | refine aw_exit ?_ | refine aw_block ?_ | refine xr_reg (by decide +kernel) ?_ | refine xr_nil ?_ | refine k_norm ?_ | refine k_ret ?_ | refine k_exit ?_ | refine b_norm ?_ | refine b_ret ?_ | refine b_exit ?_ | refine b_past (by decide) ?_) | (refine xr_do (v := ?_) (h' := ?_) (by exact rfl) ?_ ?_; rotate_left 2) | (refine xr_st (v := ?_) (h' := ?_) (by exact rfl) ?_ ?_; rotate_left 2) | (refine xr_g (b := ?_) (by exact rfl) ?_ ?_; rotate_left 1; (· simp only [ev, Zb, reduceIte, Nat.reduceEqDiff, Z8, Z5, *]; rfl)) | (with_reducible first | refine gw_tt ?_ | refine gw_ff ?_ | refine gw_tf ?_ | refine gw_ft ?_ | refine gw_un ?_) | refine gw_if (fun hb => ?_) (fun hb => ?_) | (refine aw_c (b := ?_) (by decide) ?_ ?_; rotate_left 1; (· simp only [ev, Zb, reduceIte, Nat.reduceEqDiff, *]; rfl)) | (with_reducible first | refine cw_t ?_ | refine cw_f ?_) | refine cw_if (fun hb => ?_) (fun hb => ?_) | (refine r_ret (vs := ?_) ?_ ?_; rotate_left 1; (· simp only [resV, ev, Zb, reduceIte, Nat.reduceEqDiff, Zj, *]; rfl)))
            refine ⟨by first | assumption | omega, ?_, ?_⟩
            · simp only [Z37, Z38, Z39, implies_true, and_true, ZB, stp, ev, reduceIte, Nat.reduceEqDiff, Z2x, Z13, Zy, *]
            refine ⟨L, rfl, ?_, ?_⟩
            · simp only [Zb, reduceIte, Nat.reduceEqDiff]
              rw [wrap_id (by omega)]; rfl
            · simp only [Zb, reduceIte, Nat.reduceEqDiff]; exact hap
        · have d1 : decide (t.split = 1) = false := decide_eq_false (by omega)
          have d2 : decide (t.split = 2) = false := decide_eq_false (by omega)
          have hm1 := hfin (mvE2 k (2 ^ t.out.length - 1)) (by rw [if_neg (by omega), if_neg (by omega)])
          subst hm1
          clear hfin h3
          have h8 : 2 ^ t.out.length ≤ 8 := Nat.pow_le_pow_right (by decide) o2
          have h2p : 1 ≤ 2 ^ t.out.length := Nat.one_le_two_pow
          have hshl : ∀ (ty : TypeId) (xo yo : Operand), binV Try.prog .shl ty xo yo (.int .i64 1) (.int .i64 t.out.length) = some (.int .i64 ((2 ^ t.out.length : Nat) : Int)) := fun ty xo yo => by
            rw [Z2g _ _ _ _ _ _ _ (by omega)]
            have : t.out.length = 1 ∨ t.out.length = 2 ∨ t.out.length = 3 := by omega
            rcases this with q | q | q <;> rw [q] <;> rfl
          repeat' (first | ((with_reducible refine eq_go ?_); simp only [stp, ev, ZB, reduceIte, Nat.reduceEqDiff, Z2x, Z13, Zy, bld, fillL, vcs, splice, Ze, ZH, Z35, ldv, stv, fldA, idxA, blt, lenV, Z10, Zg, Z14, Zw, Z33, Nat.reduceAdd, Nat.reduceMul, Nat.reduceLeDiff, newB, Ty.t3, Ty.t4, Ty.t30, Ty.t32, Ty.t73, Ty.t86, Ty.t89, Ty.t97, *]; rfl) | (with_reducible first | refine aw_then ?_ | refine aw_skip ?_ | refine aw_ret ?_ | refine aw_exit ?_ | refine aw_block ?_ | refine xr_reg (by decide +kernel) ?_ | refine xr_nil ?_ | refine k_norm ?_ | refine k_ret ?_ | refine k_exit ?_ | refine b_norm ?_ | refine b_ret ?_ | refine b_exit ?_ | refine b_past (by decide) ?_) | (refine xr_do (v := ?_) (h' := ?_) (by exact rfl) ?_ ?_; rotate_left 2) | (refine xr_st (v := ?_) (h' := ?_) (by exact rfl) ?_ ?_; rotate_left 2) | (refine xr_g (b := ?_) (by exact rfl) ?_ ?_; rotate_left 1; (· simp only [ev, Zb, reduceIte, Nat.reduceEqDiff, Z8, Z5, *]; rfl)) | (with_reducible first | refine gw_tt ?_ | refine gw_ff ?_ | refine gw_tf ?_ | refine gw_ft ?_ | refine gw_un ?_) | refine gw_if (fun hb => ?_) (fun hb => ?_) | (refine aw_c (b := ?_) (by decide) ?_ ?_; rotate_left 1; (· simp only [ev, Zb, reduceIte, Nat.reduceEqDiff, *]; rfl)) | (with_reducible first | refine cw_t ?_ | refine cw_f ?_) | refine cw_if (fun hb => ?_) (fun hb => ?_) | (refine r_ret (vs := ?_) ?_ ?_; rotate_left 1; (· simp only [resV, ev, Zb, reduceIte, Nat.reduceEqDiff, Zj, *]; rfl)))
          clear hgc hgc0
          generalize hQ : 2 ^ t.out.length = Q at *
          refine aw_for [1, 2, 4, 5, 10, 11, 12] (fun i T h' => ∃ L', h' = h ++ L' ∧ T 8 = .int .i64 ((i + 1 : Nat) : Int) ∧ App h.length L' (T 3) 3 (mvC (M2 ++ mvE2 k i)) (M2 ++ mvE2 k i).length ∧ Keep h.length L' (T 3) p ⟨2, 1, [.int .i64 t.join, .int .i64 t.split, .slice x1 t.inn.length x2, .slice y1 t.out.length y2, z, w, .int .i64 t.role]⟩) (Q - 1) (k0 := 0) (Nat.zero_le _) ⟨L, rfl, rfl, hap.cast rfl rfl rfl (by simp [mvE2]) (by simp [mvE2]), hkp⟩ ?_
          clear hap hkp
          rintro i T h' hi hR ⟨L, rfl, h8', hap, hkp⟩
          simp only [Z37, Z38, Z39, implies_true, and_true, stp, ev, ZB, reduceIte, Nat.reduceEqDiff, Z2x, Z13, Zy] at hR
          have hgc0 := hkp.getC0
          have hgc := hkp.getC
          have hmvl2 : (M2 ++ mvE2 k i).length ≤ 910 := by rw [Z6]; simp only [mvE2, Zv, List.length_range]; omega
          rcases Nat.lt_or_ge i (Q - 1) with hio | hio
          · have h1n : ((i + 1 : Nat) : Int) < (Q : Int) := by omega
            obtain ⟨v2, L2, hap2, happ2, hkeep2⟩ := mv_step ⟨k, false, i + 1⟩ hap [] (by omega)
            have hkp2 := hkeep2 p _ (get_old hkp.1) hkp.2
            simp only [MoveM.cells, Z7, Zc, Zd, Z6, Z3, Z2, Zf, Zi, Zh, Nat.reduceAdd, Int.natCast_zero] at hap2
            rw [Z7, ← mvE2_succ] at happ2
            repeat' (first | ((with_reducible refine eq_go ?_); simp only [stp, ev, ZB, reduceIte, Nat.reduceEqDiff, Z2x, Z13, Zy, bld, fillL, vcs, splice, Ze, ZH, Z35, ldv, stv, fldA, idxA, blt, lenV, Z10, Zg, Z14, Zw, Z33, Nat.reduceAdd, Nat.reduceMul, Nat.reduceLeDiff, newB, Ty.t3, Ty.t4, Ty.t30, Ty.t32, Ty.t73, Ty.t86, Ty.t89, Ty.t97, *]; rfl) | (with_reducible first | refine aw_then ?_ | refine aw_skip ?_ | refine aw_ret ?_ | refine aw_exit ?_ | refine aw_block ?_ | refine xr_reg (by decide +kernel) ?_ | refine xr_nil ?_ | refine k_norm ?_ | refine k_ret ?_ | refine k_exit ?_ | refine b_norm ?_ | refine b_ret ?_ | refine b_exit ?_ | refine b_past (by decide) ?_) | (refine xr_do (v := ?_) (h' := ?_) (by exact rfl) ?_ ?_; rotate_left 2) | (refine xr_st (v := ?_) (h' := ?_) (by exact rfl) ?_ ?_; rotate_left 2) | (refine xr_g (b := ?_) (by exact rfl) ?_ ?_; rotate_left 1; (· simp only [ev, Zb, reduceIte, Nat.reduceEqDiff, Z8, Z5, *]; rfl)) | (with_reducible first | refine gw_tt ?_ | refine gw_ff ?_ | refine gw_tf ?_ | refine gw_ft ?_ | refine gw_un ?_) | refine gw_if (fun hb => ?_) (fun hb => ?_) | (refine aw_c (b := ?_) (by decide) ?_ ?_; rotate_left 1; (· simp only [ev, Zb, reduceIte, Nat.reduceEqDiff, *]; rfl)) | (with_reducible first | refine cw_t ?_ | refine cw_f ?_) | refine cw_if (fun hb => ?_) (fun hb => ?_) | (refine r_ret (vs := ?_) ?_ ?_; rotate_left 1; (· simp only [resV, ev, Zb, reduceIte, Nat.reduceEqDiff, Zj, *]; rfl)))
            refine ⟨by first | assumption | omega, ?_, ?_⟩
            · simp only [Z37, Z38, Z39, implies_true, and_true, ZB, stp, ev, reduceIte, Nat.reduceEqDiff, Z2x, Z13, Zy, *]
            refine ⟨L2, rfl, ?_, happ2, hkp2⟩
            simp only [Zb, reduceIte, Nat.reduceEqDiff]
            rw [wrap_id (by omega)]; rfl
          · have h1n : ¬ ((i + 1 : Nat) : Int) < (Q : Int) := by omega
            obtain rfl : i = Q - 1 := by omega
            repeat' (first | ((with_reducible refine eq_go ?_); simp only [stp, ev, ZB, reduceIte, Nat.reduceEqDiff, Z2x, Z13, Zy, bld, fillL, vcs, splice, Ze, ZH, Z35, ldv, stv, fldA, idxA, blt, lenV, Z10, Zg, Z14, Zw, Z33, Nat.reduceAdd, Nat.reduceMul, Nat.reduceLeDiff, newB, Ty.t3, Ty.t4, Ty.t30, Ty.t32, Ty.t73, Ty.t86, Ty.t89, Ty.t97, *]; rfl) | (with_reducible first | refine aw_then ?_ | refine aw_skip ?_ | refine aw_ret ?_ | refine aw_exit ?_ | refine aw_block ?_ | refine xr_reg (by decide +kernel) ?_ | refine xr_nil ?_ | refine k_norm ?_ | refine k_ret ?_ | refine k_exit ?_ | refine b_norm ?_ | refine b_ret ?_ | refine b_exit ?_ | refine b_past (by decide) ?_) | (refine xr_do (v := ?_) (h' := ?_) (by exact rfl) ?_ ?_; rotate_left 2) | (refine xr_st (v := ?_) (h' := ?_) (by exact rfl) ?_ ?_; rotate_left 2) | (refine xr_g (b := ?_) (by exact rfl) ?_ ?_; rotate_left 1; (· simp only [ev, Zb, reduceIte, Nat.reduceEqDiff, Z8, Z5, *]; rfl)) | (with_reducible first | refine gw_tt ?_ | refine gw_ff ?_ | refine gw_tf ?_ | refine gw_ft ?_ | refine gw_un ?_) | refine gw_if (fun hb => ?_) (fun hb => ?_) | (refine aw_c (b := ?_) (by decide) ?_ ?_; rotate_left 1; (· simp only [ev, Zb, reduceIte, Nat.reduceEqDiff, *]; rfl)) | (with_reducible first | refine cw_t ?_ | refine cw_f ?_) | refine cw_if (fun hb => ?_) (fun hb => ?_) | (refine r_ret (vs := ?_) ?_ ?_; rotate_left 1; (· simp only [resV, ev, Zb, reduceIte, Nat.reduceEqDiff, Zj, *]; rfl)))
            refine ⟨by first | assumption | omega, ?_, ?_⟩
            · simp only [Z37, Z38, Z39, implies_true, and_true, ZB, stp, ev, reduceIte, Nat.reduceEqDiff, Z2x, Z13, Zy, *]
            refine ⟨L, rfl, ?_, ?_⟩
            · simp only [Zb, reduceIte, Nat.reduceEqDiff]
              rw [wrap_id (by omega)]; rfl
            · simp only [Zb, reduceIte, Nat.reduceEqDiff]; exact hap
  · have h1 : ¬ (k : Int) < s.tasks.length := by omega
    obtain rfl : k = s.tasks.length := by omega
    repeat' (first | ((with_reducible refine eq_go ?_); simp only [stp, ev, ZB, reduceIte, Nat.reduceEqDiff, Z2x, Z13, Zy, bld, fillL, vcs, splice, Ze, ZH, Z35, ldv, stv, fldA, idxA, blt, lenV, Z10, Zg, Z14, Zw, Z33, Nat.reduceAdd, Nat.reduceMul, Nat.reduceLeDiff, newB, Ty.t3, Ty.t4, Ty.t30, Ty.t32, Ty.t73, Ty.t86, Ty.t89, Ty.t97, *]; rfl) | (with_reducible first | refine aw_then ?_ | refine aw_skip ?_ | refine aw_ret ?_ | refine aw_exit ?_ | refine aw_block ?_ | refine xr_reg (by decide +kernel) ?_ | refine xr_nil ?_ | refine k_norm ?_ | refine k_ret ?_ | refine k_exit ?_ | refine b_norm ?_ | refine b_ret ?_ | refine b_exit ?_ | refine b_past (by decide) ?_) | (refine xr_do (v := ?_) (h' := ?_) (by exact rfl) ?_ ?_; rotate_left 2) | (refine xr_st (v := ?_) (h' := ?_) (by exact rfl) ?_ ?_; rotate_left 2) | (refine xr_g (b := ?_) (by exact rfl) ?_ ?_; rotate_left 1; (· simp only [ev, Zb, reduceIte, Nat.reduceEqDiff, Z8, Z5, *]; rfl)) | (with_reducible first | refine gw_tt ?_ | refine gw_ff ?_ | refine gw_tf ?_ | refine gw_ft ?_ | refine gw_un ?_) | refine gw_if (fun hb => ?_) (fun hb => ?_) | (refine aw_c (b := ?_) (by decide) ?_ ?_; rotate_left 1; (· simp only [ev, Zb, reduceIte, Nat.reduceEqDiff, *]; rfl)) | (with_reducible first | refine cw_t ?_ | refine cw_f ?_) | refine cw_if (fun hb => ?_) (fun hb => ?_) | (refine r_ret (vs := ?_) ?_ ?_; rotate_left 1; (· simp only [resV, ev, Zb, reduceIte, Nat.reduceEqDiff, Zj, *]; rfl)))
    exact mv_canon hap
end Go.Proofs.Ytmjhfklmlcnofaa.Am
namespace Go.Proofs.Ytmjhfklmlcnofaa.Am
open Go Go.Proofs
set_option linter.unusedVariables false
set_option linter.unusedSimpArgs false
set_option maxRecDepth 100000
set_option maxHeartbeats 8000000
def bitsK (n k : Nat) : List Int := ((List.range k).filter fun i => n / 2 ^ i % 2 == 1).map Int.ofNat
def bitsL (n : Nat) : List Int := bitsK n 3
theorem bitsK_succ (n k : Nat) : bitsK n (k + 1) = bitsK n k ++ (if n / 2 ^ k % 2 = 1 then [(k : Int)] else []) := by
  unfold bitsK
  rw [List.range_succ, List.filter_append, List.map_append]
  congr 1
  by_cases q : n / 2 ^ k % 2 = 1
  · rw [if_pos q]; simp [q]
  · rw [if_neg q]; simp [q]
theorem bitsK_len (n k : Nat) : (bitsK n k).length ≤ k := by
  unfold bitsK; rw [Zv]; exact Nat.le_trans (List.length_filter_le _ _) (by simp)
theorem bits_end {n k : Nat} (hn : n ≤ 7) (hk : k ≤ 3) (hz : n / 2 ^ k = 0) : bitsK n k = bitsL n := by
  have : ∀ n : Nat, n < 8 → ∀ k : Nat, k < 4 → n / 2 ^ k = 0 → bitsK n k = bitsL n := by decide
  exact this n (by omega) k (by omega) hz
theorem bits_lt {n m : Nat} (hm : m ≤ 3) (hn : n < 2 ^ m) : ∀ x ∈ bitsL n, 0 ≤ x ∧ x < (m : Int) := by
  have : ∀ m : Nat, m < 4 → ∀ n : Nat, n < 8 → n < 2 ^ m → ∀ x ∈ bitsL n, 0 ≤ x ∧ x < (m : Int) := by decide
  have h8 : 2 ^ m ≤ 8 := Nat.pow_le_pow_right (by decide) hm
  exact this m (by omega) n (by omega) hn
theorem bits_ne {n : Nat} (h1 : 1 ≤ n) (hn : n ≤ 7) : bitsL n ≠ [] := by
  have : ∀ n : Nat, n < 8 → 1 ≤ n → bitsL n ≠ [] := by decide
  exact this n (by omega) h1
theorem shr7 {n k : Nat} (hn : n ≤ 7) (hk : k ≤ 3) {P : Program} : ∀ (t : TypeId) (xo yo : Operand) (kk : IntKind), binV P .shr t xo yo (.int .i64 n) (.int kk k) = some (.int .i64 ((n / 2 ^ k : Nat) : Int)) := by
  intro t xo yo kk
  rw [Z2d _ _ _ _ _ _ _ (by omega)]
  have : ∀ n : Nat, n < 8 → ∀ k : Nat, k < 4 → (n : Int).fdiv (2 ^ min (k : Int).toNat IntKind.i64.bits) = ((n / 2 ^ k : Nat) : Int) := by decide
  rw [this n (by omega) k (by omega)]
theorem and7 {n k : Nat} (hn : n ≤ 7) (hk : k ≤ 3) : bits .and .i64 ((n / 2 ^ k : Nat) : Int) 1 = ((n / 2 ^ k % 2 : Nat) : Int) := by
  have : ∀ n : Nat, n < 8 → ∀ k : Nat, k < 4 → bits .and .i64 ((n / 2 ^ k : Nat) : Int) 1 = ((n / 2 ^ k % 2 : Nat) : Int) := by decide
  exact this n (by omega) k (by omega)
theorem setOf_ok (n : Nat) (h : Heap) (hn : n ≤ 7) :
    ACalls Try.prog 0 100 #[.int .i64 n] h fun v h' => v = listV h.length (bitsL n) ∧ h' = h ++ listL (bitsL n) := by
  refine acalls_canon _ _ ?_
  refine Z36 Try.func100 rfl Try.ntmps100 (by simp) (by dsimp only [Try.f100]) ?_
  repeat' (first | ((with_reducible refine eq_go ?_); simp only [stp, ev, ZB, reduceIte, Nat.reduceEqDiff, Z2x, Z13, Zy, blt, lenV, Z10, ZH, Zg, Ze, Z14, Zw, Z33, Nat.reduceAdd, Nat.reduceMul, Nat.reduceLeDiff, splice, newB, vcs, Ty.t3, Ty.t86, *]; rfl) | (with_reducible first | refine aw_then ?_ | refine aw_skip ?_ | refine aw_ret ?_ | refine aw_exit ?_ | refine aw_block ?_ | refine xr_reg (by decide +kernel) ?_ | refine xr_nil ?_ | refine k_norm ?_ | refine k_ret ?_ | refine k_exit ?_ | refine b_norm ?_ | refine b_ret ?_ | refine b_exit ?_ | refine b_past (by decide) ?_) | (refine xr_do (v := ?_) (h' := ?_) (by exact rfl) ?_ ?_; rotate_left 2) | (refine xr_st (v := ?_) (h' := ?_) (by exact rfl) ?_ ?_; rotate_left 2) | (refine aw_c (b := ?_) (by decide) ?_ ?_; rotate_left 1; (· simp only [ev, Zb, reduceIte, Nat.reduceEqDiff, *]; rfl)) | (with_reducible first | refine cw_t ?_ | refine cw_f ?_) | refine cw_if (fun hb => ?_) (fun hb => ?_) | (refine r_ret (vs := ?_) ?_ ?_; rotate_left 1; (· simp only [resV, ev, Zb, reduceIte, Nat.reduceEqDiff, Zj, *]; rfl)))
  refine aw_for [0] (fun k T h' => ∃ L, h' = h ++ L ∧ T 4 = .int .i64 k ∧ App h.length L (T 3) 1 (ints (bitsK n k)).flatten (bitsK n k).length) 3 (k0 := 0) (Nat.zero_le _) ⟨[], by rw [Zx], rfl, App.nil _ _ _⟩ ?_
  rintro k T h' hk hR ⟨L, rfl, h4, hap⟩
  simp only [Z37, Z38, Z39, implies_true, and_true, stp, ev, ZB, reduceIte, Nat.reduceEqDiff, Z2x, Z13, Zy] at hR
  have hsh := shr7 (P := Try.prog) hn hk
  have hsn := bitsK_succ n k
  have hkl := bitsK_len n k
  have h64 : IntKind.u64.wrap (k : Int) = k := wrap_u64_id (by omega)
  rcases Nat.eq_zero_or_pos (n / 2 ^ k) with hz | hz
  · rw [hz] at hsh
    have hend : bitsK n k = bitsL n := bits_end hn hk hz
    rw [hend] at hap
    have hz0 : decide (((0 : Nat) : Int) = 0) = true := rfl
    have hz1 : decide ((0 : Int) < ((0 : Nat) : Int)) = false := rfl
    repeat' (first | ((with_reducible refine eq_go ?_); simp only [stp, ev, ZB, reduceIte, Nat.reduceEqDiff, Z2x, Z13, Zy, blt, lenV, Z10, ZH, Zg, Ze, Z14, Zw, Z33, Nat.reduceAdd, Nat.reduceMul, Nat.reduceLeDiff, splice, newB, vcs, Ty.t3, Ty.t86, *]; rfl) | (with_reducible first | refine aw_then ?_ | refine aw_skip ?_ | refine aw_ret ?_ | refine aw_exit ?_ | refine aw_block ?_ | refine xr_reg (by decide +kernel) ?_ | refine xr_nil ?_ | refine k_norm ?_ | refine k_ret ?_ | refine k_exit ?_ | refine b_norm ?_ | refine b_ret ?_ | refine b_exit ?_ | refine b_past (by decide) ?_) | (refine xr_do (v := ?_) (h' := ?_) (by exact rfl) ?_ ?_; rotate_left 2) | (refine xr_st (v := ?_) (h' := ?_) (by exact rfl) ?_ ?_; rotate_left 2) | (refine aw_c (b := ?_) (by decide) ?_ ?_; rotate_left 1; (· simp only [ev, Zb, reduceIte, Nat.reduceEqDiff, *]; rfl)) | (with_reducible first | refine cw_t ?_ | refine cw_f ?_) | refine cw_if (fun hb => ?_) (fun hb => ?_) | (refine r_ret (vs := ?_) ?_ ?_; rotate_left 1; (· simp only [resV, ev, Zb, reduceIte, Nat.reduceEqDiff, Zj, *]; rfl)))
    exact list_canon1 hap
  · have hk3 : k < 3 := by
      rcases Nat.lt_or_ge k 3 with q | q
      · exact q
      · obtain rfl : k = 3 := by omega
        have : n / 2 ^ 3 = 0 := Nat.div_eq_of_lt (by omega)
        omega
    have hp0 : decide (((n / 2 ^ k : Nat) : Int) = 0) = false := decide_eq_false (by omega)
    have hp1 : decide ((0 : Int) < ((n / 2 ^ k : Nat) : Int)) = true := decide_eq_true (by omega)
    have hand := and7 (n := n) (k := k) hn hk
    generalize n / 2 ^ k = q at *
    rcases Nat.mod_two_eq_zero_or_one q with hm | hm
    · rw [hm] at hand
      have hm0 : decide (((0 : Nat) : Int) = 1) = false := rfl
      rw [if_neg (by omega), Zx] at hsn
      repeat' (first | ((with_reducible refine eq_go ?_); simp only [stp, ev, ZB, reduceIte, Nat.reduceEqDiff, Z2x, Z13, Zy, blt, lenV, Z10, ZH, Zg, Ze, Z14, Zw, Z33, Nat.reduceAdd, Nat.reduceMul, Nat.reduceLeDiff, splice, newB, vcs, Ty.t3, Ty.t86, *]; rfl) | (with_reducible first | refine aw_then ?_ | refine aw_skip ?_ | refine aw_ret ?_ | refine aw_exit ?_ | refine aw_block ?_ | refine xr_reg (by decide +kernel) ?_ | refine xr_nil ?_ | refine k_norm ?_ | refine k_ret ?_ | refine k_exit ?_ | refine b_norm ?_ | refine b_ret ?_ | refine b_exit ?_ | refine b_past (by decide) ?_) | (refine xr_do (v := ?_) (h' := ?_) (by exact rfl) ?_ ?_; rotate_left 2) | (refine xr_st (v := ?_) (h' := ?_) (by exact rfl) ?_ ?_; rotate_left 2) | (refine aw_c (b := ?_) (by decide) ?_ ?_; rotate_left 1; (· simp only [ev, Zb, reduceIte, Nat.reduceEqDiff, *]; rfl)) | (with_reducible first | refine cw_t ?_ | refine cw_f ?_) | refine cw_if (fun hb => ?_) (fun hb => ?_) | (refine r_ret (vs := ?_) ?_ ?_; rotate_left 1; (· simp only [resV, ev, Zb, reduceIte, Nat.reduceEqDiff, Zj, *]; rfl)))
      refine ⟨by first | assumption | omega, ?_, ?_⟩
      · simp only [Z37, Z38, Z39, implies_true, and_true, ZB, stp, ev, reduceIte, Nat.reduceEqDiff, Z2x, Z13, Zy, *]
      refine ⟨_, rfl, ?_, ?_⟩
      · simp only [Zb, reduceIte, Nat.reduceEqDiff]
        rw [wrap_id (by omega)]; rfl
      · simp only [Zb, reduceIte, Nat.reduceEqDiff]
        rw [hsn]; exact hap
    · rw [hm] at hand
      have hm0 : decide (((1 : Nat) : Int) = 1) = true := rfl
      rw [if_pos hm] at hsn
      have hbs := bsl_one (h := h ++ L) (x := .int .i64 k) Ty.sl86 Ty.zc3 rfl rfl
      obtain ⟨v', L', hap', happ⟩ := app_step (h2 := h) (L := L) (E := [⟨2, 1, [.int .i64 k]⟩]) (j := 0) (ix := h.length + L.length) Ty.sl86 Ty.zc3 Ty.by3 hap rfl rfl (by simp) (by omega) (by omega)
      simp only [Z7, Zc, Zd, Z6, Z3, Z2, Zf, Zh, Nat.reduceAdd] at hbs hap' happ
      repeat' (first | ((with_reducible refine eq_go ?_); simp only [stp, ev, ZB, reduceIte, Nat.reduceEqDiff, Z2x, Z13, Zy, blt, lenV, Z10, ZH, Zg, Ze, Z14, Zw, Z33, Nat.reduceAdd, Nat.reduceMul, Nat.reduceLeDiff, splice, newB, vcs, Ty.t3, Ty.t86, *]; rfl) | (with_reducible first | refine aw_then ?_ | refine aw_skip ?_ | refine aw_ret ?_ | refine aw_exit ?_ | refine aw_block ?_ | refine xr_reg (by decide +kernel) ?_ | refine xr_nil ?_ | refine k_norm ?_ | refine k_ret ?_ | refine k_exit ?_ | refine b_norm ?_ | refine b_ret ?_ | refine b_exit ?_ | refine b_past (by decide) ?_) | (refine xr_do (v := ?_) (h' := ?_) (by exact rfl) ?_ ?_; rotate_left 2) | (refine xr_st (v := ?_) (h' := ?_) (by exact rfl) ?_ ?_; rotate_left 2) | (refine aw_c (b := ?_) (by decide) ?_ ?_; rotate_left 1; (· simp only [ev, Zb, reduceIte, Nat.reduceEqDiff, *]; rfl)) | (with_reducible first | refine cw_t ?_ | refine cw_f ?_) | refine cw_if (fun hb => ?_) (fun hb => ?_) | (refine r_ret (vs := ?_) ?_ ?_; rotate_left 1; (· simp only [resV, ev, Zb, reduceIte, Nat.reduceEqDiff, Zj, *]; rfl)))
      refine ⟨by first | assumption | omega, ?_, ?_⟩
      · simp only [Z37, Z38, Z39, implies_true, and_true, ZB, stp, ev, reduceIte, Nat.reduceEqDiff, Z2x, Z13, Zy, *]
      refine ⟨_, rfl, ?_, ?_⟩
      · simp only [Zb, reduceIte, Nat.reduceEqDiff]
        rw [wrap_id (by omega)]; rfl
      · simp only [Zb, reduceIte, Nat.reduceEqDiff]
        rw [hsn]
        refine happ.cast rfl rfl rfl ?_ ?_
        · simp [ints]
        · simp
theorem l1Set_ok (n : Nat) (h : Heap) (hn : n ≤ 7) :
    ACalls Try.prog 0 77 #[.int .i64 n] h fun v h' => v = listV h.length (bitsL n) ∧ h' = h ++ listL (bitsL n) := by
  refine acalls_canon _ _ ?_
  refine Z36 Try.func77 rfl Try.ntmps77 (by simp) (by dsimp only [Try.f77]) ?_
  repeat' (first | ((with_reducible refine eq_go ?_); simp only [stp, ev, ZB, reduceIte, Nat.reduceEqDiff, Z2x, Z13, Zy, conV, blt, lenV, Z10, ZH, Zg, Ze, Z14, Zw, Z33, Nat.reduceAdd, Nat.reduceMul, Nat.reduceLeDiff, splice, newB, vcs, Ty.t3, Ty.un3, Ty.t86, Ty.un86, Ty.t98, Ty.un98, *]; rfl) | (with_reducible first | refine aw_then ?_ | refine aw_skip ?_ | refine aw_ret ?_ | refine aw_exit ?_ | refine aw_block ?_ | refine xr_reg (by decide +kernel) ?_ | refine xr_nil ?_ | refine k_norm ?_ | refine k_ret ?_ | refine k_exit ?_ | refine b_norm ?_ | refine b_ret ?_ | refine b_exit ?_ | refine b_past (by decide) ?_) | (refine xr_do (v := ?_) (h' := ?_) (by exact rfl) ?_ ?_; rotate_left 2) | (refine xr_st (v := ?_) (h' := ?_) (by exact rfl) ?_ ?_; rotate_left 2) | (refine aw_c (b := ?_) (by decide) ?_ ?_; rotate_left 1; (· simp only [ev, Zb, reduceIte, Nat.reduceEqDiff, *]; rfl)) | (with_reducible first | refine cw_t ?_ | refine cw_f ?_) | refine cw_if (fun hb => ?_) (fun hb => ?_) | (refine r_ret (vs := ?_) ?_ ?_; rotate_left 1; (· simp only [resV, ev, Zb, reduceIte, Nat.reduceEqDiff, Zj, *]; rfl)))
  refine aw_for [0] (fun k T h' => ∃ L, h' = h ++ L ∧ T 4 = .int .i64 k ∧ App h.length L (T 3) 1 (ints (bitsK n k)).flatten (bitsK n k).length) 3 (k0 := 0) (Nat.zero_le _) ⟨[], by rw [Zx], rfl, App.nil _ _ _⟩ ?_
  rintro k T h' hk hR ⟨L, rfl, h4, hap⟩
  simp only [Z37, Z38, Z39, implies_true, and_true, stp, ev, ZB, reduceIte, Nat.reduceEqDiff, Z2x, Z13, Zy] at hR
  have hsh := shr7 (P := Try.prog) hn hk
  have hsn := bitsK_succ n k
  have hkl := bitsK_len n k
  have h64 : IntKind.u64.wrap (k : Int) = k := wrap_u64_id (by omega)
  rcases Nat.eq_zero_or_pos (n / 2 ^ k) with hz | hz
  · rw [hz] at hsh
    have hend : bitsK n k = bitsL n := bits_end hn hk hz
    rw [hend] at hap
    have hz0 : decide (((0 : Nat) : Int) = 0) = true := rfl
    have hz1 : decide ((0 : Int) < ((0 : Nat) : Int)) = false := rfl
    repeat' (first | ((with_reducible refine eq_go ?_); simp only [stp, ev, ZB, reduceIte, Nat.reduceEqDiff, Z2x, Z13, Zy, conV, blt, lenV, Z10, ZH, Zg, Ze, Z14, Zw, Z33, Nat.reduceAdd, Nat.reduceMul, Nat.reduceLeDiff, splice, newB, vcs, Ty.t3, Ty.un3, Ty.t86, Ty.un86, Ty.t98, Ty.un98, *]; rfl) | (with_reducible first | refine aw_then ?_ | refine aw_skip ?_ | refine aw_ret ?_ | refine aw_exit ?_ | refine aw_block ?_ | refine xr_reg (by decide +kernel) ?_ | refine xr_nil ?_ | refine k_norm ?_ | refine k_ret ?_ | refine k_exit ?_ | refine b_norm ?_ | refine b_ret ?_ | refine b_exit ?_ | refine b_past (by decide) ?_) | (refine xr_do (v := ?_) (h' := ?_) (by exact rfl) ?_ ?_; rotate_left 2) | (refine xr_st (v := ?_) (h' := ?_) (by exact rfl) ?_ ?_; rotate_left 2) | (refine aw_c (b := ?_) (by decide) ?_ ?_; rotate_left 1; (· simp only [ev, Zb, reduceIte, Nat.reduceEqDiff, *]; rfl)) | (with_reducible first | refine cw_t ?_ | refine cw_f ?_) | refine cw_if (fun hb => ?_) (fun hb => ?_) | (refine r_ret (vs := ?_) ?_ ?_; rotate_left 1; (· simp only [resV, ev, Zb, reduceIte, Nat.reduceEqDiff, Zj, *]; rfl)))
    exact list_canon1 hap
  · have hk3 : k < 3 := by
      rcases Nat.lt_or_ge k 3 with q | q
      · exact q
      · obtain rfl : k = 3 := by omega
        have : n / 2 ^ 3 = 0 := Nat.div_eq_of_lt (by omega)
        omega
    have hp0 : decide (((n / 2 ^ k : Nat) : Int) = 0) = false := decide_eq_false (by omega)
    have hp1 : decide ((0 : Int) < ((n / 2 ^ k : Nat) : Int)) = true := decide_eq_true (by omega)
    have hand := and7 (n := n) (k := k) hn hk
    generalize n / 2 ^ k = q at *
    rcases Nat.mod_two_eq_zero_or_one q with hm | hm
    · rw [hm] at hand
      have hm0 : decide (((0 : Nat) : Int) = 1) = false := rfl
      rw [if_neg (by omega), Zx] at hsn
      repeat' (first | ((with_reducible refine eq_go ?_); simp only [stp, ev, ZB, reduceIte, Nat.reduceEqDiff, Z2x, Z13, Zy, conV, blt, lenV, Z10, ZH, Zg, Ze, Z14, Zw, Z33, Nat.reduceAdd, Nat.reduceMul, Nat.reduceLeDiff, splice, newB, vcs, Ty.t3, Ty.un3, Ty.t86, Ty.un86, Ty.t98, Ty.un98, *]; rfl) | (with_reducible first | refine aw_then ?_ | refine aw_skip ?_ | refine aw_ret ?_ | refine aw_exit ?_ | refine aw_block ?_ | refine xr_reg (by decide +kernel) ?_ | refine xr_nil ?_ | refine k_norm ?_ | refine k_ret ?_ | refine k_exit ?_ | refine b_norm ?_ | refine b_ret ?_ | refine b_exit ?_ | refine b_past (by decide) ?_) | (refine xr_do (v := ?_) (h' := ?_) (by exact rfl) ?_ ?_; rotate_left 2) | (refine xr_st (v := ?_) (h' := ?_) (by exact rfl) ?_ ?_; rotate_left 2) | (refine aw_c (b := ?_) (by decide) ?_ ?_; rotate_left 1; (· simp only [ev, Zb, reduceIte, Nat.reduceEqDiff, *]; rfl)) | (with_reducible first | refine cw_t ?_ | refine cw_f ?_) | refine cw_if (fun hb => ?_) (fun hb => ?_) | (refine r_ret (vs := ?_) ?_ ?_; rotate_left 1; (· simp only [resV, ev, Zb, reduceIte, Nat.reduceEqDiff, Zj, *]; rfl)))
      refine ⟨by first | assumption | omega, ?_, ?_⟩
      · simp only [Z37, Z38, Z39, implies_true, and_true, ZB, stp, ev, reduceIte, Nat.reduceEqDiff, Z2x, Z13, Zy, *]
      refine ⟨_, rfl, ?_, ?_⟩
      · simp only [Zb, reduceIte, Nat.reduceEqDiff]
        rw [wrap_id (by omega)]; rfl
      · simp only [Zb, reduceIte, Nat.reduceEqDiff]
        rw [hsn]; exact hap
    · rw [hm] at hand
      have hm0 : decide (((1 : Nat) : Int) = 1) = true := rfl
      rw [if_pos hm] at hsn
      have hbs := bsl_one (h := h ++ L) (x := .int .i64 k) Ty.sl86 Ty.zc3 rfl rfl
      obtain ⟨v', L', hap', happ⟩ := app_step (h2 := h) (L := L) (E := [⟨2, 1, [.int .i64 k]⟩]) (j := 0) (ix := h.length + L.length) Ty.sl86 Ty.zc3 Ty.by3 hap rfl rfl (by simp) (by omega) (by omega)
      simp only [Z7, Zc, Zd, Z6, Z3, Z2, Zf, Zh, Nat.reduceAdd] at hbs hap' happ
      repeat' (first | ((with_reducible refine eq_go ?_); simp only [stp, ev, ZB, reduceIte, Nat.reduceEqDiff, Z2x, Z13, Zy, conV, blt, lenV, Z10, ZH, Zg, Ze, Z14, Zw, Z33, Nat.reduceAdd, Nat.reduceMul, Nat.reduceLeDiff, splice, newB, vcs, Ty.t3, Ty.un3, Ty.t86, Ty.un86, Ty.t98, Ty.un98, *]; rfl) | (with_reducible first | refine aw_then ?_ | refine aw_skip ?_ | refine aw_ret ?_ | refine aw_exit ?_ | refine aw_block ?_ | refine xr_reg (by decide +kernel) ?_ | refine xr_nil ?_ | refine k_norm ?_ | refine k_ret ?_ | refine k_exit ?_ | refine b_norm ?_ | refine b_ret ?_ | refine b_exit ?_ | refine b_past (by decide) ?_) | (refine xr_do (v := ?_) (h' := ?_) (by exact rfl) ?_ ?_; rotate_left 2) | (refine xr_st (v := ?_) (h' := ?_) (by exact rfl) ?_ ?_; rotate_left 2) | (refine aw_c (b := ?_) (by decide) ?_ ?_; rotate_left 1; (· simp only [ev, Zb, reduceIte, Nat.reduceEqDiff, *]; rfl)) | (with_reducible first | refine cw_t ?_ | refine cw_f ?_) | refine cw_if (fun hb => ?_) (fun hb => ?_) | (refine r_ret (vs := ?_) ?_ ?_; rotate_left 1; (· simp only [resV, ev, Zb, reduceIte, Nat.reduceEqDiff, Zj, *]; rfl)))
      refine ⟨by first | assumption | omega, ?_, ?_⟩
      · simp only [Z37, Z38, Z39, implies_true, and_true, ZB, stp, ev, reduceIte, Nat.reduceEqDiff, Z2x, Z13, Zy, *]
      refine ⟨_, rfl, ?_, ?_⟩
      · simp only [Zb, reduceIte, Nat.reduceEqDiff]
        rw [wrap_id (by omega)]; rfl
      · simp only [Zb, reduceIte, Nat.reduceEqDiff]
        rw [hsn]
        refine happ.cast rfl rfl rfl ?_ ?_
        · simp [ints]
        · simp
end Go.Proofs.Ytmjhfklmlcnofaa.Am
namespace Go.Proofs.Ytmjhfklmlcnofaa.Am
open Go Go.Proofs
set_option linter.unusedVariables false
set_option linter.unusedSimpArgs false
set_option maxRecDepth 100000
set_option maxHeartbeats 8000000
theorem getC_of_loads {h : Heap} {id o n j : Nat} {l : List Value} (hl : loadCs h id o n = some l) (hj : j < n) : getC h id (o + j) = l[j]? := by
  unfold loadCs at hl
  unfold getC
  cases hb : h[id]? with
  | none => rw [hb] at hl; simp at hl
  | some b =>
    rw [hb] at hl
    simp only at hl ⊢
    split at hl
    · rename_i hk
      rw [if_pos hk.1]
      have h1 := Option.some.inj hl
      rw [← h1, List.getElem?_take, if_pos hj, List.getElem?_drop]
    · cases hl
def ownV (n : Nat) (l : List Int) : Value := .slice (some ⟨n, 0, some 0⟩) l.length l.length
def ownL (l : List Int) : Heap := [⟨2, 1, (ints l).flatten⟩]
theorem listV_own {n : Nat} {l : List Int} (h : l ≠ []) : listV n l = ownV n l := if_neg h
theorem listL_own {l : List Int} (h : l ≠ []) : listL l = ownL l := if_neg h
theorem own_sl (h : Heap) (l : List Int) (X : Heap) : Sl (h ++ (ownL l ++ X)) (ownV h.length l) 1 (ints l) := by
  have := sl_at (h := h) (e := 1) (n := l.length) (k := 0) (c := l.length) (sp := some 0) (rows := ints l) (L := [⟨2, 1, (ints l).flatten⟩] ++ X) rfl (ints_len l) (ints_length l).symm (Z4 _)
  exact this
theorem own_canon {h L : Heap} {k : Nat} {sp : Option Nat} {l : List Int} {n c : Nat} (hb : L[k]? = some ⟨2, 1, (ints l).flatten⟩) (hn : n = l.length) (hs : (sp = none ∧ c = n) ∨ sp = some 0) (hc : n ≤ c) :
    ∃ (L' : Heap) (ks : List Nat), h ++ L = h ++ L' ∧ Inj ks ∧ ks.length = (ownL l).length ∧ BsOk (ownL l) L' ks ∧ RV h.length L' ks (ownV h.length l) (.slice (some ⟨h.length + k, 0, sp⟩) n c) := by
  subst hn
  exact ⟨L, [k], rfl, Inj.one k, rfl, BsOk.cons rfl (ints_af l) hb (BsOk.nil _ _), .sl 0 k _ _ 1 _ _ rfl hb (ints_flen l) hc hs⟩
theorem l1Own_ok (l : List Int) (v0 : Value) (h : Heap) (hs : Sl h v0 1 (ints l)) (hl : l.length ≤ 1048576) :
    ACalls Try.prog 0 59 #[v0] h fun v h' => v = ownV h.length l ∧ h' = h ++ ownL l := by
  refine acalls_canon _ _ ?_
  have hf := hs.flat
  obtain ⟨b, c, rfl, hc, hrow⟩ := id hs
  rw [ints_length] at *
  have hbs := bsl_empty (h := h) Ty.sl86 Ty.zc3
  have hap := apS_build (i := h.length) Ty.sl86 Ty.zc3 Ty.by3 Ty.sz3 (by rw [get_at0]; rfl) rfl (hs.old [⟨2, 1, []⟩]) (ints_length l) (by omega) (by omega)
  by_cases h0 : l.length = 0
  · rw [if_pos h0] at hap
    obtain rfl := List.length_eq_zero_iff.1 h0
    refine Z36 Try.func59 rfl Try.ntmps59 (by simp) (by dsimp only [Try.f59]) ?_
    repeat' (first | ((with_reducible refine eq_go ?_); simp only [stp, ev, ZB, reduceIte, Nat.reduceEqDiff, Z2x, Z13, Zy, blt, lenV, Z10, ZH, Zg, Ze, Z14, Zw, Z33, Nat.reduceAdd, Nat.reduceMul, Nat.reduceLeDiff, splice, newB, vcs, Ty.t3, Ty.t86, *]; rfl) | (with_reducible first | refine aw_then ?_ | refine aw_skip ?_ | refine aw_ret ?_ | refine aw_exit ?_ | refine aw_block ?_ | refine xr_reg (by decide +kernel) ?_ | refine xr_nil ?_ | refine k_norm ?_ | refine k_ret ?_ | refine k_exit ?_ | refine b_norm ?_ | refine b_ret ?_ | refine b_exit ?_ | refine b_past (by decide) ?_) | (refine xr_do (v := ?_) (h' := ?_) (by exact rfl) ?_ ?_; rotate_left 2) | (refine xr_st (v := ?_) (h' := ?_) (by exact rfl) ?_ ?_; rotate_left 2) | (refine aw_c (b := ?_) (by decide) ?_ ?_; rotate_left 1; (· simp only [ev, Zb, reduceIte, Nat.reduceEqDiff, *]; rfl)) | (with_reducible first | refine cw_t ?_ | refine cw_f ?_) | refine cw_if (fun hb => ?_) (fun hb => ?_) | (refine r_ret (vs := ?_) ?_ ?_; rotate_left 1; (· simp only [resV, ev, Zb, reduceIte, Nat.reduceEqDiff, Zj, *]; rfl)))
    exact own_canon (k := 0) rfl rfl (.inl ⟨rfl, rfl⟩) (Z4 _)
  · rw [if_neg h0] at hap
    simp only [Z7, Zc, Zd, Z6, Z3, Z2, Zf] at hap
    refine Z36 Try.func59 rfl Try.ntmps59 (by simp) (by dsimp only [Try.f59]) ?_
    repeat' (first | ((with_reducible refine eq_go ?_); simp only [stp, ev, ZB, reduceIte, Nat.reduceEqDiff, Z2x, Z13, Zy, blt, lenV, Z10, ZH, Zg, Ze, Z14, Zw, Z33, Nat.reduceAdd, Nat.reduceMul, Nat.reduceLeDiff, splice, newB, vcs, Ty.t3, Ty.t86, *]; rfl) | (with_reducible first | refine aw_then ?_ | refine aw_skip ?_ | refine aw_ret ?_ | refine aw_exit ?_ | refine aw_block ?_ | refine xr_reg (by decide +kernel) ?_ | refine xr_nil ?_ | refine k_norm ?_ | refine k_ret ?_ | refine k_exit ?_ | refine b_norm ?_ | refine b_ret ?_ | refine b_exit ?_ | refine b_past (by decide) ?_) | (refine xr_do (v := ?_) (h' := ?_) (by exact rfl) ?_ ?_; rotate_left 2) | (refine xr_st (v := ?_) (h' := ?_) (by exact rfl) ?_ ?_; rotate_left 2) | (refine aw_c (b := ?_) (by decide) ?_ ?_; rotate_left 1; (· simp only [ev, Zb, reduceIte, Nat.reduceEqDiff, *]; rfl)) | (with_reducible first | refine cw_t ?_ | refine cw_f ?_) | refine cw_if (fun hb => ?_) (fun hb => ?_) | (refine r_ret (vs := ?_) ?_ ?_; rotate_left 1; (· simp only [resV, ev, Zb, reduceIte, Nat.reduceEqDiff, Zj, *]; rfl)))
    exact own_canon (k := 1) rfl rfl (.inr rfl) (Z4 _)
theorem cloneInts_ok (l : List Int) (v0 : Value) (h : Heap) (hs : Sl h v0 1 (ints l)) (hl : l.length ≤ 1048576) (hn : nilB v0 = false) :
    ACalls Try.prog 0 99 #[v0] h fun v h' => v = ownV h.length l ∧ h' = h ++ ownL l := by
  refine acalls_canon _ _ ?_
  have hf := hs.flat
  obtain ⟨b, c, rfl, hc, hrow⟩ := id hs
  rw [ints_length] at *
  cases b with
  | none => simp [nilB] at hn
  | some a =>
  have hbs := bsl_empty (h := h) Ty.sl86 Ty.zc3
  have hap := apS_build (i := h.length) Ty.sl86 Ty.zc3 Ty.by3 Ty.sz3 (by rw [get_at0]; rfl) rfl (hs.old [⟨2, 1, []⟩]) (ints_length l) (by omega) (by omega)
  by_cases h0 : l.length = 0
  · rw [if_pos h0] at hap
    obtain rfl := List.length_eq_zero_iff.1 h0
    refine Z36 Try.func99 rfl Try.ntmps99 (by simp) (by dsimp only [Try.f99]) ?_
    repeat' (first | ((with_reducible refine eq_go ?_); simp only [stp, ev, ZB, reduceIte, Nat.reduceEqDiff, Z2x, Z13, Zy, blt, lenV, Z10, ZH, Zg, Ze, Z14, Zw, Z33, Nat.reduceAdd, Nat.reduceMul, Nat.reduceLeDiff, splice, newB, vcs, Ty.t3, Ty.t86, *]; rfl) | (with_reducible first | refine aw_then ?_ | refine aw_skip ?_ | refine aw_ret ?_ | refine aw_exit ?_ | refine aw_block ?_ | refine xr_reg (by decide +kernel) ?_ | refine xr_nil ?_ | refine k_norm ?_ | refine k_ret ?_ | refine k_exit ?_ | refine b_norm ?_ | refine b_ret ?_ | refine b_exit ?_ | refine b_past (by decide) ?_) | (refine xr_do (v := ?_) (h' := ?_) (by exact rfl) ?_ ?_; rotate_left 2) | (refine xr_st (v := ?_) (h' := ?_) (by exact rfl) ?_ ?_; rotate_left 2) | (refine aw_c (b := ?_) (by decide) ?_ ?_; rotate_left 1; (· simp only [ev, Zb, reduceIte, Nat.reduceEqDiff, *]; rfl)) | (with_reducible first | refine cw_t ?_ | refine cw_f ?_) | refine cw_if (fun hb => ?_) (fun hb => ?_) | (refine r_ret (vs := ?_) ?_ ?_; rotate_left 1; (· simp only [resV, ev, Zb, reduceIte, Nat.reduceEqDiff, Zj, *]; rfl)))
    exact own_canon (k := 0) rfl rfl (.inl ⟨rfl, rfl⟩) (Z4 _)
  · rw [if_neg h0] at hap
    simp only [Z7, Zc, Zd, Z6, Z3, Z2, Zf] at hap
    refine Z36 Try.func99 rfl Try.ntmps99 (by simp) (by dsimp only [Try.f99]) ?_
    repeat' (first | ((with_reducible refine eq_go ?_); simp only [stp, ev, ZB, reduceIte, Nat.reduceEqDiff, Z2x, Z13, Zy, blt, lenV, Z10, ZH, Zg, Ze, Z14, Zw, Z33, Nat.reduceAdd, Nat.reduceMul, Nat.reduceLeDiff, splice, newB, vcs, Ty.t3, Ty.t86, *]; rfl) | (with_reducible first | refine aw_then ?_ | refine aw_skip ?_ | refine aw_ret ?_ | refine aw_exit ?_ | refine aw_block ?_ | refine xr_reg (by decide +kernel) ?_ | refine xr_nil ?_ | refine k_norm ?_ | refine k_ret ?_ | refine k_exit ?_ | refine b_norm ?_ | refine b_ret ?_ | refine b_exit ?_ | refine b_past (by decide) ?_) | (refine xr_do (v := ?_) (h' := ?_) (by exact rfl) ?_ ?_; rotate_left 2) | (refine xr_st (v := ?_) (h' := ?_) (by exact rfl) ?_ ?_; rotate_left 2) | (refine aw_c (b := ?_) (by decide) ?_ ?_; rotate_left 1; (· simp only [ev, Zb, reduceIte, Nat.reduceEqDiff, *]; rfl)) | (with_reducible first | refine cw_t ?_ | refine cw_f ?_) | refine cw_if (fun hb => ?_) (fun hb => ?_) | (refine r_ret (vs := ?_) ?_ ?_; rotate_left 1; (· simp only [resV, ev, Zb, reduceIte, Nat.reduceEqDiff, Zj, *]; rfl)))
    exact own_canon (k := 1) rfl rfl (.inr rfl) (Z4 _)
theorem cloneNil_ok (c : Nat) (h : Heap) :
    ACalls Try.prog 0 99 #[.slice none 0 c] h fun v h' => v = .slice none 0 0 ∧ h' = h := by
  refine Z36 Try.func99 rfl Try.ntmps99 (by simp) (by dsimp only [Try.f99]) ?_
  repeat' (first | ((with_reducible refine eq_go ?_); simp only [stp, ev, ZB, reduceIte, Nat.reduceEqDiff, Z2x, Z13, Zy, blt, lenV, Z10, ZH, Zg, Ze, Z14, Zw, Z33, Nat.reduceAdd, Nat.reduceMul, Nat.reduceLeDiff, splice, newB, vcs, Ty.t3, Ty.t86, *]; rfl) | (with_reducible first | refine aw_then ?_ | refine aw_skip ?_ | refine aw_ret ?_ | refine aw_exit ?_ | refine aw_block ?_ | refine xr_reg (by decide +kernel) ?_ | refine xr_nil ?_ | refine k_norm ?_ | refine k_ret ?_ | refine k_exit ?_ | refine b_norm ?_ | refine b_ret ?_ | refine b_exit ?_ | refine b_past (by decide) ?_) | (refine xr_do (v := ?_) (h' := ?_) (by exact rfl) ?_ ?_; rotate_left 2) | (refine xr_st (v := ?_) (h' := ?_) (by exact rfl) ?_ ?_; rotate_left 2) | (refine aw_c (b := ?_) (by decide) ?_ ?_; rotate_left 1; (· simp only [ev, Zb, reduceIte, Nat.reduceEqDiff, *]; rfl)) | (with_reducible first | refine cw_t ?_ | refine cw_f ?_) | refine cw_if (fun hb => ?_) (fun hb => ?_) | (refine r_ret (vs := ?_) ?_ ?_; rotate_left 1; (· simp only [resV, ev, Zb, reduceIte, Nat.reduceEqDiff, Zj, *]; rfl)))
  · exact ⟨rfl, rfl⟩
  · simp at hb
/-- A slice that is never nil, built by appends behind n. -/
def AppO (n : Nat) (L : Heap) (v : Value) (e : Nat) (cs : List Value) (len : Nat) : Prop := cs.length = len * e ∧ ∃ k, v = .slice (some ⟨n + k, 0, some 0⟩) len len ∧ L[k]? = some ⟨2, e, cs⟩
theorem AppO.cast {n n' : Nat} {L L' : Heap} {v v' : Value} {e : Nat} {cs cs' : List Value} {len len' : Nat} (h : AppO n L v e cs len) (h1 : n = n') (h2 : L = L') (h3 : v = v') (h4 : cs = cs') (h5 : len = len') : AppO n' L' v' e cs' len' := by
  subst h1 h2 h3 h4 h5; exact h
theorem AppO.of_app {n : Nat} {L : Heap} {v : Value} {e : Nat} {cs : List Value} {len : Nat} (h : App n L v e cs len) (h0 : len ≠ 0) : AppO n L v e cs len := by
  rcases h with ⟨_, h1, _⟩ | ⟨_, h2⟩
  · exact absurd h1 h0
  · exact h2
theorem appo_step {P : Program} {h2 : Heap} {t e : TypeId} {z : List Value} {b' : Nat} (hs : slT P t = some e) (hz : zcT P e = some z) (hb : byT P e = some b') {L E : Heap} {v : Value} {cs xs : List Value} {len j ix : Nat}
    (hv : AppO h2.length L v z.length cs len) (hx : E[j]? = some ⟨2, z.length, xs⟩) (hxl : xs.length = z.length) (hix : ix = h2.length + (L.length + j))
    (hle : (len + 1) * b' ≤ 70368744177664) (hl2 : len + 1 ≤ 4611686018427387904) :
    ∃ v' L', apS P (h2 ++ (L ++ E)) t t v (.slice (some ⟨ix, 0, none⟩) 1 1) = some (v', h2 ++ L') ∧ AppO h2.length L' v' z.length (cs ++ xs) (len + 1) := by
  have hxb : (h2 ++ (L ++ E))[ix]? = some ⟨2, z.length, xs⟩ := by rw [hix, get_at, get_at]; exact hx
  have hnews : Am.cellsOf (h2 ++ (L ++ E)) z.length 1 (.slice (some ⟨ix, 0, none⟩) 1 1) = some xs := by
    simp only [Am.cellsOf]
    exact load_whole hxb (by omega)
  obtain ⟨hcl, k, rfl, hk⟩ := hv
  have hkl := (List.getElem?_eq_some_iff.1 hk).1
  have hkb : (h2 ++ (L ++ E))[h2.length + k]? = some ⟨2, z.length, cs⟩ := by rw [get_at]; exact get_old hk
  have holds : Am.cellsOf (h2 ++ (L ++ E)) z.length len (.slice (some ⟨h2.length + k, 0, some 0⟩) len len) = some cs := by
    simp only [Am.cellsOf]
    exact load_whole hkb (by omega)
  refine ⟨.slice (some ⟨h2.length + (L.length + E.length), 0, some 0⟩) (len + 1) (len + 1), L.set k ⟨0, 0, []⟩ ++ E ++ [⟨2, z.length, cs ++ xs⟩], ?_,
    by simp [hcl, hxl, Nat.succ_mul], L.length + E.length, rfl, ?_⟩
  · unfold apS
    simp only [hs, hz, hb, hnews]
    rw [if_pos ⟨Z4 _, Z4 _⟩, if_neg (by omega), if_neg (by omega), if_pos ⟨hle, hl2⟩]
    simp only [holds, hkb]
    rw [if_neg (by simp), if_pos (by simp)]
    simp only [newS, Z1y, List.set_append_left _ _ hkl, Z6, List.length_set, Z7]
  · rw [List.getElem?_append_right (by simp)]; simp
theorem AppO.flat {n : Nat} {L : Heap} {v : Value} {e : Nat} {cs : List Value} {len : Nat} (h : AppO n L v e cs len) : Am.flat v = true := by obtain ⟨_, k, rfl, _⟩ := h; rfl
/-- The region of a task. -/
def regM (c : Int) (t : TaskM) : List Int := t.cuts ++ t.stops.map (c + ·)
def regK (c : Int) (t : TaskM) (k : Nat) : List Int := t.cuts ++ (t.stops.take k).map (c + ·)
theorem regK_succ (c : Int) (t : TaskM) (k : Nat) (hk : k < t.stops.length) : regK c t (k + 1) = regK c t k ++ [c + t.stops.getD k 0] := by
  unfold regK
  rw [← List.take_append_getElem hk, List.map_append, Z7, List.getD_eq_getElem?_getD, List.getElem?_eq_getElem hk]; rfl
theorem regK_len (c : Int) (t : TaskM) (k : Nat) (hk : k ≤ t.stops.length) : (regK c t k).length = t.cuts.length + k := by
  simp only [regK, Z6, Zv, List.length_take]; omega
theorem regK_zero (c : Int) (t : TaskM) : regK c t 0 = t.cuts := by simp [regK]
theorem regK_all (c : Int) (t : TaskM) : regK c t t.stops.length = regM c t := by simp [regK, regM]
def regV (n : Nat) (c : Int) (t : TaskM) : Value := .slice (if t.cn = true ∧ regM c t = [] then none else some ⟨n, 0, some 0⟩) (regM c t).length (regM c t).length
theorem regV_eq (n : Nat) (c : Int) (t : TaskM) : regV n c t = if t.cn = true then listV n (regM c t) else ownV n (regM c t) := by
  unfold regV listV ownV
  by_cases h1 : t.cn = true
  · by_cases h2 : regM c t = []
    · rw [if_pos ⟨h1, h2⟩, if_pos h1, if_pos h2, h2]; rfl
    · rw [if_neg (fun q => h2 q.2), if_pos h1, if_neg h2]
  · rw [if_neg (fun q => h1 q.1), if_neg h1]
def regL (c : Int) (t : TaskM) : Heap := if t.cn = true then listL (regM c t) else ownL (regM c t)
theorem l13Region_ok (s : SpecM) (k : Nat) (vt : Value) (I h : Heap) (hI : Sub I h) (hs : RTasks I vt s.tasks) (hsm : s.small) (hf : s.fit) (hk : k < s.tasks.length) :
    ACalls Try.prog 0 61 #[.agg #[.int .i64 s.conds, vt], .int .i64 k] h
    fun v h' => v = ownV h.length (regM s.conds (s.tasks.getD k TaskM.nil)) ∧ h' = h ++ ownL (regM s.conds (s.tasks.getD k TaskM.nil)) := by
  refine acalls_canon _ _ ?_
  have hfl := hs.flat
  obtain ⟨b, c, rfl, hcc, hrow⟩ := hs.form
  have hlen := hsm.1
  have h1 : (k : Int) < s.tasks.length := by omega
  obtain ⟨a, row, rfl, hrl, hrt, hld0⟩ := hrow k hk
  obtain ⟨x, y, z, w, rfl, q1, q2, q3, q4, _⟩ := hrt
  obtain ⟨s1, s2, s3, s4⟩ := hsm.2 s.tasks[k] (List.getElem_mem hk)
  have hld := fun L => hld0 _ (hI.app L)
  have f1 := q1.flat
  have f2 := q2.flat
  have f3 := q3.flat
  have f4 := q4.flat
  have hc8 := hf.1
  rw [show s.tasks.getD k TaskM.nil = s.tasks[k] by rw [List.getD_eq_getElem?_getD, List.getElem?_eq_getElem hk]; rfl]
  have htk := hf.2.2 k hk
  rw [show s.tasks.getD k TaskM.nil = s.tasks[k] by rw [List.getD_eq_getElem?_getD, List.getElem?_eq_getElem hk]; rfl] at htk
  have hst : ∀ x ∈ s.tasks[k].stops, 0 ≤ x ∧ x ≤ 5 := by
    have h6 := hf.2.1.2
    simp only [taskOk, rise, Bool.and_eq_true, allIn, List.all_eq_true, decide_eq_true_eq] at htk
    intro x hx
    have := htk.2.2.2.2.2.2.2.2.1.2 x hx
    omega
  have hg4 : ∀ L, getC (h ++ L) a.block (a.off + (k * 7 + 4)) = some z := fun L => by have := getC_of_loads (hld L) (j := 4) (by omega); rw [Zh] at this; exact this
  have hg5 : ∀ L, getC (h ++ L) a.block (a.off + (k * 7 + 5)) = some w := fun L => by have := getC_of_loads (hld L) (j := 5) (by omega); rw [Zh] at this; exact this
  clear hrow hld0 htk hld
  have hsucc := regK_succ s.conds s.tasks[k]
  have hkl := regK_len s.conds s.tasks[k]
  have hall := regK_all s.conds s.tasks[k]
  have hzero := regK_zero s.conds s.tasks[k]
  generalize s.tasks[k] = t at *
  have hq4 := fun L => q4.sub (hI.app L)
  obtain ⟨w1, w2, rfl, hwc, hwr⟩ := id q4
  rw [ints_length] at *
  refine Z36 Try.func61 rfl Try.ntmps61 (by simp) (by dsimp only [Try.f61]) ?_
  repeat' (first | ((with_reducible refine eq_go ?_); simp only [stp, ev, ZB, reduceIte, Nat.reduceEqDiff, Z2x, Z13, Zy, ldv, fldA, idxA, blt, lenV, Z10, ZH, Zg, Ze, Z14, Zw, Z33, Nat.reduceAdd, Nat.reduceMul, Nat.reduceLeDiff, splice, newB, vcs, Ty.t3, Ty.t30, Ty.t32, Ty.t86, Ty.t89, *]; rfl) | (with_reducible first | refine aw_then ?_ | refine aw_skip ?_ | refine aw_ret ?_ | refine aw_exit ?_ | refine aw_block ?_ | refine xr_reg (by decide +kernel) ?_ | refine xr_nil ?_ | refine k_norm ?_ | refine k_ret ?_ | refine k_exit ?_ | refine b_norm ?_ | refine b_ret ?_ | refine b_exit ?_ | refine b_past (by decide) ?_) | (refine Ty.c59 (args := ?_) (K := ?_) ?_ ?_ ?_; rotate_left 2) | (refine xr_do (v := ?_) (h' := ?_) (by exact rfl) ?_ ?_; rotate_left 2) | (refine xr_st (v := ?_) (h' := ?_) (by exact rfl) ?_ ?_; rotate_left 2) | (refine aw_c (b := ?_) (by decide) ?_ ?_; rotate_left 1; (· simp only [ev, Zb, reduceIte, Nat.reduceEqDiff, *]; rfl)) | (with_reducible first | refine cw_t ?_ | refine cw_f ?_) | refine cw_if (fun hb => ?_) (fun hb => ?_) | (refine r_ret (vs := ?_) ?_ ?_; rotate_left 1; (· simp only [resV, ev, Zb, reduceIte, Nat.reduceEqDiff, Zj, *]; rfl)) | ((with_reducible refine l1Own_ok ?_ _ _ ?_ ?_); rotate_left 1; (· first | assumption | exact Sl.sub ‹_› (by first | assumption | exact Sub.refl _ | exact Sub.app ‹_› _ | exact Sub.app (Sub.refl _) _)); (· first | omega | (simp only [Z2]; omega))) | ((with_reducible refine Z2w ?_); rintro _ _ ⟨rfl, hh⟩; replace hh := hh.symm; subst hh))
  refine aw_for [2, 4, 20, 21] (fun j T h' => ∃ L, h' = h ++ ⟨2, 1, [.int .i64 s.conds, .slice (some a) s.tasks.length c]⟩ :: L ∧ T 22 = .int .i64 j ∧ AppO (h.length + 1) L (T 5) 1 (ints (regK s.conds t j)).flatten (regK s.conds t j).length) t.stops.length (k0 := 0) (Nat.zero_le _) ⟨_, rfl, rfl, by rw [hzero]; exact ⟨ints_flen _, 0, rfl, rfl⟩⟩ ?_
  rintro j T h' hj hR ⟨L, rfl, h22, hap⟩
  simp only [Z37, Z38, Z39, implies_true, and_true, stp, ev, ZB, reduceIte, Nat.reduceEqDiff, Z2x, Z13, Zy] at hR
  have hjl := hkl j hj
  rcases Nat.lt_or_ge j t.stops.length with hjn | hjn
  · have h2 : (j : Int) < t.stops.length := by omega
    have hsn := hsucc j hjn
    obtain ⟨wa, rfl, hg⟩ := sl_get (e := 1) hwr j hjn
    have hge := fun L => (hI.app L).get hg
    have hx := hst (t.stops.getD j 0) (by rw [List.getD_eq_getElem?_getD, List.getElem?_eq_getElem hjn]; exact List.getElem_mem hjn)
    have hwx : IntKind.i64.wrap (s.conds + t.stops.getD j 0) = s.conds + t.stops.getD j 0 := wrap_id (by omega)
    generalize t.stops.getD j 0 = xx at *
    have hbs := bsl_one (h := h ++ ⟨2, 1, [.int .i64 s.conds, .slice (some a) s.tasks.length c]⟩ :: L) (x := .int .i64 (s.conds + xx)) Ty.sl86 Ty.zc3 rfl rfl
    obtain ⟨v', L', hap', happ⟩ := appo_step (h2 := h ++ [⟨2, 1, [.int .i64 s.conds, .slice (some a) s.tasks.length c]⟩]) (L := L) (E := [⟨2, 1, [.int .i64 (s.conds + xx)]⟩]) (j := 0) (ix := h.length + (L.length + 1)) Ty.sl86 Ty.zc3 Ty.by3 (hap.cast (by simp) rfl rfl rfl rfl) rfl rfl (by simp; omega) (by omega) (by omega)
    simp only [Z7, Zc, Zd, Z6, Z3, Z2, Zf, Zh, Nat.reduceAdd] at hbs hap' happ
    clear hwr hg4 hg5 q1 q2 q3
    repeat' (first | ((with_reducible refine eq_go ?_); simp only [stp, ev, ZB, reduceIte, Nat.reduceEqDiff, Z2x, Z13, Zy, ldv, fldA, idxA, blt, lenV, Z10, ZH, Zg, Ze, Z14, Zw, Z33, Nat.reduceAdd, Nat.reduceMul, Nat.reduceLeDiff, splice, newB, vcs, Ty.t3, Ty.t30, Ty.t32, Ty.t86, Ty.t89, *]; rfl) | (with_reducible first | refine aw_then ?_ | refine aw_skip ?_ | refine aw_ret ?_ | refine aw_exit ?_ | refine aw_block ?_ | refine xr_reg (by decide +kernel) ?_ | refine xr_nil ?_ | refine k_norm ?_ | refine k_ret ?_ | refine k_exit ?_ | refine b_norm ?_ | refine b_ret ?_ | refine b_exit ?_ | refine b_past (by decide) ?_) | (refine Ty.c59 (args := ?_) (K := ?_) ?_ ?_ ?_; rotate_left 2) | (refine xr_do (v := ?_) (h' := ?_) (by exact rfl) ?_ ?_; rotate_left 2) | (refine xr_st (v := ?_) (h' := ?_) (by exact rfl) ?_ ?_; rotate_left 2) | (refine aw_c (b := ?_) (by decide) ?_ ?_; rotate_left 1; (· simp only [ev, Zb, reduceIte, Nat.reduceEqDiff, *]; rfl)) | (with_reducible first | refine cw_t ?_ | refine cw_f ?_) | refine cw_if (fun hb => ?_) (fun hb => ?_) | (refine r_ret (vs := ?_) ?_ ?_; rotate_left 1; (· simp only [resV, ev, Zb, reduceIte, Nat.reduceEqDiff, Zj, *]; rfl)) | ((with_reducible refine l1Own_ok ?_ _ _ ?_ ?_); rotate_left 1; (· first | assumption | exact Sl.sub ‹_› (by first | assumption | exact Sub.refl _ | exact Sub.app ‹_› _ | exact Sub.app (Sub.refl _) _)); (· first | omega | (simp only [Z2]; omega))) | ((with_reducible refine Z2w ?_); rintro _ _ ⟨rfl, hh⟩; replace hh := hh.symm; subst hh))
    refine ⟨by first | assumption | omega, ?_, ?_⟩
    · simp only [Z37, Z38, Z39, implies_true, and_true, ZB, stp, ev, reduceIte, Nat.reduceEqDiff, Z2x, Z13, Zy, *]
    refine ⟨_, rfl, ?_, ?_⟩
    · simp only [Zb, reduceIte, Nat.reduceEqDiff]
      rw [wrap_id (by omega)]; rfl
    · simp only [Zb, reduceIte, Nat.reduceEqDiff]
      rw [hsn]
      refine happ.cast rfl rfl rfl ?_ ?_
      · simp [ints]
      · simp
  · have h2 : ¬ (j : Int) < t.stops.length := by omega
    clear hwr
    obtain rfl : j = t.stops.length := by omega
    rw [hall] at hap
    repeat' (first | ((with_reducible refine eq_go ?_); simp only [stp, ev, ZB, reduceIte, Nat.reduceEqDiff, Z2x, Z13, Zy, ldv, fldA, idxA, blt, lenV, Z10, ZH, Zg, Ze, Z14, Zw, Z33, Nat.reduceAdd, Nat.reduceMul, Nat.reduceLeDiff, splice, newB, vcs, Ty.t3, Ty.t30, Ty.t32, Ty.t86, Ty.t89, *]; rfl) | (with_reducible first | refine aw_then ?_ | refine aw_skip ?_ | refine aw_ret ?_ | refine aw_exit ?_ | refine aw_block ?_ | refine xr_reg (by decide +kernel) ?_ | refine xr_nil ?_ | refine k_norm ?_ | refine k_ret ?_ | refine k_exit ?_ | refine b_norm ?_ | refine b_ret ?_ | refine b_exit ?_ | refine b_past (by decide) ?_) | (refine Ty.c59 (args := ?_) (K := ?_) ?_ ?_ ?_; rotate_left 2) | (refine xr_do (v := ?_) (h' := ?_) (by exact rfl) ?_ ?_; rotate_left 2) | (refine xr_st (v := ?_) (h' := ?_) (by exact rfl) ?_ ?_; rotate_left 2) | (refine aw_c (b := ?_) (by decide) ?_ ?_; rotate_left 1; (· simp only [ev, Zb, reduceIte, Nat.reduceEqDiff, *]; rfl)) | (with_reducible first | refine cw_t ?_ | refine cw_f ?_) | refine cw_if (fun hb => ?_) (fun hb => ?_) | (refine r_ret (vs := ?_) ?_ ?_; rotate_left 1; (· simp only [resV, ev, Zb, reduceIte, Nat.reduceEqDiff, Zj, *]; rfl)) | ((with_reducible refine l1Own_ok ?_ _ _ ?_ ?_); rotate_left 1; (· first | assumption | exact Sl.sub ‹_› (by first | assumption | exact Sub.refl _ | exact Sub.app ‹_› _ | exact Sub.app (Sub.refl _) _)); (· first | omega | (simp only [Z2]; omega))) | ((with_reducible refine Z2w ?_); rintro _ _ ⟨rfl, hh⟩; replace hh := hh.symm; subst hh))
    obtain ⟨_, k2, hv, hb⟩ := hap
    rw [hv]
    have := own_canon (h := h) (L := ⟨2, 1, [.int .i64 s.conds, .slice (some a) s.tasks.length c]⟩ :: L) (k := k2 + 1) (sp := some 0) (n := (regM s.conds t).length) (c := (regM s.conds t).length) hb rfl (.inr rfl) (Z4 _)
    rw [show h.length + 1 + k2 = h.length + (k2 + 1) by omega]
    exact this
theorem regionOf_ok (s : SpecM) (k : Nat) (vt : Value) (I h : Heap) (hI : Sub I h) (hs : RTasks I vt s.tasks) (hsm : s.small) (hf : s.fit) (hk : k < s.tasks.length) :
    ACalls Try.prog 0 101 #[.agg #[.int .i64 s.conds, vt], .int .i64 k] h
    fun v h' => v = regV h.length s.conds (s.tasks.getD k TaskM.nil) ∧ h' = h ++ regL s.conds (s.tasks.getD k TaskM.nil) := by
  refine acalls_canon _ _ ?_
  have hfl := hs.flat
  obtain ⟨b, c, rfl, hcc, hrow⟩ := hs.form
  have hlen := hsm.1
  have h1 : (k : Int) < s.tasks.length := by omega
  obtain ⟨a, row, rfl, hrl, hrt, hld0⟩ := hrow k hk
  obtain ⟨x, y, z, w, rfl, q1, q2, q3, q4, hnb⟩ := hrt
  obtain ⟨s1, s2, s3, s4⟩ := hsm.2 s.tasks[k] (List.getElem_mem hk)
  have hld := fun L => hld0 _ (hI.app L)
  have f1 := q1.flat
  have f2 := q2.flat
  have f3 := q3.flat
  have f4 := q4.flat
  have hc8 := hf.1
  rw [show s.tasks.getD k TaskM.nil = s.tasks[k] by rw [List.getD_eq_getElem?_getD, List.getElem?_eq_getElem hk]; rfl]
  have htk := hf.2.2 k hk
  rw [show s.tasks.getD k TaskM.nil = s.tasks[k] by rw [List.getD_eq_getElem?_getD, List.getElem?_eq_getElem hk]; rfl] at htk
  have hst : ∀ x ∈ s.tasks[k].stops, 0 ≤ x ∧ x ≤ 5 := by
    have h6 := hf.2.1.2
    simp only [taskOk, rise, Bool.and_eq_true, allIn, List.all_eq_true, decide_eq_true_eq] at htk
    intro x hx
    have := htk.2.2.2.2.2.2.2.2.1.2 x hx
    omega
  have hg4 : ∀ L, getC (h ++ L) a.block (a.off + (k * 7 + 4)) = some z := fun L => by have := getC_of_loads (hld L) (j := 4) (by omega); rw [Zh] at this; exact this
  have hg5 : ∀ L, getC (h ++ L) a.block (a.off + (k * 7 + 5)) = some w := fun L => by have := getC_of_loads (hld L) (j := 5) (by omega); rw [Zh] at this; exact this
  clear hrow hld0 htk hld
  have hsucc := regK_succ s.conds s.tasks[k]
  have hkl := regK_len s.conds s.tasks[k]
  have hall := regK_all s.conds s.tasks[k]
  have hzero := regK_zero s.conds s.tasks[k]
  generalize s.tasks[k] = t at *
  have hq4 := fun L => q4.sub (hI.app L)
  obtain ⟨w1, w2, rfl, hwc, hwr⟩ := id q4
  rw [ints_length] at *
  obtain ⟨z1, z2, rfl, hzc, hzr⟩ := id q3
  rw [ints_length] at *
  cases hcn : t.cn with
  | false =>
    simp only [hcn] at hnb
    simp only [regV_eq, regL, hcn, Bool.false_eq_true, if_false]
    refine Z36 Try.func101 rfl Try.ntmps101 (by simp) (by dsimp only [Try.f101]) ?_
    repeat' (first | ((with_reducible refine eq_go ?_); simp only [stp, ev, ZB, reduceIte, Nat.reduceEqDiff, Z2x, Z13, Zy, ldv, fldA, idxA, blt, lenV, Z10, ZH, Zg, Ze, Z14, Zw, Z33, Nat.reduceAdd, Nat.reduceMul, Nat.reduceLeDiff, splice, newB, vcs, Ty.t3, Ty.t30, Ty.t32, Ty.t86, Ty.t89, *]; rfl) | (with_reducible first | refine aw_then ?_ | refine aw_skip ?_ | refine aw_ret ?_ | refine aw_exit ?_ | refine aw_block ?_ | refine xr_reg (by decide +kernel) ?_ | refine xr_nil ?_ | refine k_norm ?_ | refine k_ret ?_ | refine k_exit ?_ | refine b_norm ?_ | refine b_ret ?_ | refine b_exit ?_ | refine b_past (by decide) ?_) | (refine Ty.c99 (args := ?_) (K := ?_) ?_ ?_ ?_; rotate_left 2) | (refine xr_do (v := ?_) (h' := ?_) (by exact rfl) ?_ ?_; rotate_left 2) | (refine xr_st (v := ?_) (h' := ?_) (by exact rfl) ?_ ?_; rotate_left 2) | (refine aw_c (b := ?_) (by decide) ?_ ?_; rotate_left 1; (· simp only [ev, Zb, reduceIte, Nat.reduceEqDiff, *]; rfl)) | (with_reducible first | refine cw_t ?_ | refine cw_f ?_) | refine cw_if (fun hb => ?_) (fun hb => ?_) | (refine r_ret (vs := ?_) ?_ ?_; rotate_left 1; (· simp only [resV, ev, Zb, reduceIte, Nat.reduceEqDiff, Zj, *]; rfl)) | ((with_reducible refine cloneInts_ok ?_ _ _ ?_ ?_ ?_); rotate_left 1; (· first | assumption | exact Sl.sub ‹_› (by first | assumption | exact Sub.refl _ | exact Sub.app ‹_› _ | exact Sub.app (Sub.refl _) _)); (· first | omega | (simp only [Z2]; omega)); (· assumption)) | ((with_reducible refine Z2w ?_); rintro _ _ ⟨rfl, hh⟩; replace hh := hh.symm; subst hh))
    refine aw_for [2, 4, 20, 21] (fun j T h' => ∃ L, h' = h ++ ⟨2, 1, [.int .i64 s.conds, .slice (some a) s.tasks.length c]⟩ :: L ∧ T 22 = .int .i64 j ∧ AppO (h.length + 1) L (T 5) 1 (ints (regK s.conds t j)).flatten (regK s.conds t j).length) t.stops.length (k0 := 0) (Nat.zero_le _) ⟨_, rfl, rfl, by rw [hzero]; exact ⟨ints_flen _, 0, rfl, rfl⟩⟩ ?_
    rintro j T h' hj hR ⟨L, rfl, h22, hap⟩
    simp only [Z37, Z38, Z39, implies_true, and_true, stp, ev, ZB, reduceIte, Nat.reduceEqDiff, Z2x, Z13, Zy] at hR
    have hjl := hkl j hj
    rcases Nat.lt_or_ge j t.stops.length with hjn | hjn
    · have h2 : (j : Int) < t.stops.length := by omega
      have hsn := hsucc j hjn
      obtain ⟨wa, rfl, hg⟩ := sl_get (e := 1) hwr j hjn
      have hge := fun L => (hI.app L).get hg
      have hx := hst (t.stops.getD j 0) (by rw [List.getD_eq_getElem?_getD, List.getElem?_eq_getElem hjn]; exact List.getElem_mem hjn)
      have hwx : IntKind.i64.wrap (s.conds + t.stops.getD j 0) = s.conds + t.stops.getD j 0 := wrap_id (by omega)
      generalize t.stops.getD j 0 = xx at *
      have hbs := bsl_one (h := h ++ ⟨2, 1, [.int .i64 s.conds, .slice (some a) s.tasks.length c]⟩ :: L) (x := .int .i64 (s.conds + xx)) Ty.sl86 Ty.zc3 rfl rfl
      obtain ⟨v', L', hap', happ⟩ := appo_step (h2 := h ++ [⟨2, 1, [.int .i64 s.conds, .slice (some a) s.tasks.length c]⟩]) (L := L) (E := [⟨2, 1, [.int .i64 (s.conds + xx)]⟩]) (j := 0) (ix := h.length + (L.length + 1)) Ty.sl86 Ty.zc3 Ty.by3 (hap.cast (by simp) rfl rfl rfl rfl) rfl rfl (by simp; omega) (by omega) (by omega)
      simp only [Z7, Zc, Zd, Z6, Z3, Z2, Zf, Zh, Nat.reduceAdd] at hbs hap' happ
      clear hwr hg4 hg5 q1 q2 q3
      repeat' (first | ((with_reducible refine eq_go ?_); simp only [stp, ev, ZB, reduceIte, Nat.reduceEqDiff, Z2x, Z13, Zy, ldv, fldA, idxA, blt, lenV, Z10, ZH, Zg, Ze, Z14, Zw, Z33, Nat.reduceAdd, Nat.reduceMul, Nat.reduceLeDiff, splice, newB, vcs, Ty.t3, Ty.t30, Ty.t32, Ty.t86, Ty.t89, *]; rfl) | (with_reducible first | refine aw_then ?_ | refine aw_skip ?_ | refine aw_ret ?_ | refine aw_exit ?_ | refine aw_block ?_ | refine xr_reg (by decide +kernel) ?_ | refine xr_nil ?_ | refine k_norm ?_ | refine k_ret ?_ | refine k_exit ?_ | refine b_norm ?_ | refine b_ret ?_ | refine b_exit ?_ | refine b_past (by decide) ?_) | (refine Ty.c99 (args := ?_) (K := ?_) ?_ ?_ ?_; rotate_left 2) | (refine xr_do (v := ?_) (h' := ?_) (by exact rfl) ?_ ?_; rotate_left 2) | (refine xr_st (v := ?_) (h' := ?_) (by exact rfl) ?_ ?_; rotate_left 2) | (refine aw_c (b := ?_) (by decide) ?_ ?_; rotate_left 1; (· simp only [ev, Zb, reduceIte, Nat.reduceEqDiff, *]; rfl)) | (with_reducible first | refine cw_t ?_ | refine cw_f ?_) | refine cw_if (fun hb => ?_) (fun hb => ?_) | (refine r_ret (vs := ?_) ?_ ?_; rotate_left 1; (· simp only [resV, ev, Zb, reduceIte, Nat.reduceEqDiff, Zj, *]; rfl)) | ((with_reducible refine cloneInts_ok ?_ _ _ ?_ ?_ ?_); rotate_left 1; (· first | assumption | exact Sl.sub ‹_› (by first | assumption | exact Sub.refl _ | exact Sub.app ‹_› _ | exact Sub.app (Sub.refl _) _)); (· first | omega | (simp only [Z2]; omega)); (· assumption)) | ((with_reducible refine Z2w ?_); rintro _ _ ⟨rfl, hh⟩; replace hh := hh.symm; subst hh))
      refine ⟨by first | assumption | omega, ?_, ?_⟩
      · simp only [Z37, Z38, Z39, implies_true, and_true, ZB, stp, ev, reduceIte, Nat.reduceEqDiff, Z2x, Z13, Zy, *]
      refine ⟨_, rfl, ?_, ?_⟩
      · simp only [Zb, reduceIte, Nat.reduceEqDiff]
        rw [wrap_id (by omega)]; rfl
      · simp only [Zb, reduceIte, Nat.reduceEqDiff]
        rw [hsn]
        refine happ.cast rfl rfl rfl ?_ ?_
        · simp [ints]
        · simp
    · have h2 : ¬ (j : Int) < t.stops.length := by omega
      clear hwr
      obtain rfl : j = t.stops.length := by omega
      rw [hall] at hap
      repeat' (first | ((with_reducible refine eq_go ?_); simp only [stp, ev, ZB, reduceIte, Nat.reduceEqDiff, Z2x, Z13, Zy, ldv, fldA, idxA, blt, lenV, Z10, ZH, Zg, Ze, Z14, Zw, Z33, Nat.reduceAdd, Nat.reduceMul, Nat.reduceLeDiff, splice, newB, vcs, Ty.t3, Ty.t30, Ty.t32, Ty.t86, Ty.t89, *]; rfl) | (with_reducible first | refine aw_then ?_ | refine aw_skip ?_ | refine aw_ret ?_ | refine aw_exit ?_ | refine aw_block ?_ | refine xr_reg (by decide +kernel) ?_ | refine xr_nil ?_ | refine k_norm ?_ | refine k_ret ?_ | refine k_exit ?_ | refine b_norm ?_ | refine b_ret ?_ | refine b_exit ?_ | refine b_past (by decide) ?_) | (refine Ty.c99 (args := ?_) (K := ?_) ?_ ?_ ?_; rotate_left 2) | (refine xr_do (v := ?_) (h' := ?_) (by exact rfl) ?_ ?_; rotate_left 2) | (refine xr_st (v := ?_) (h' := ?_) (by exact rfl) ?_ ?_; rotate_left 2) | (refine aw_c (b := ?_) (by decide) ?_ ?_; rotate_left 1; (· simp only [ev, Zb, reduceIte, Nat.reduceEqDiff, *]; rfl)) | (with_reducible first | refine cw_t ?_ | refine cw_f ?_) | refine cw_if (fun hb => ?_) (fun hb => ?_) | (refine r_ret (vs := ?_) ?_ ?_; rotate_left 1; (· simp only [resV, ev, Zb, reduceIte, Nat.reduceEqDiff, Zj, *]; rfl)) | ((with_reducible refine cloneInts_ok ?_ _ _ ?_ ?_ ?_); rotate_left 1; (· first | assumption | exact Sl.sub ‹_› (by first | assumption | exact Sub.refl _ | exact Sub.app ‹_› _ | exact Sub.app (Sub.refl _) _)); (· first | omega | (simp only [Z2]; omega)); (· assumption)) | ((with_reducible refine Z2w ?_); rintro _ _ ⟨rfl, hh⟩; replace hh := hh.symm; subst hh))
      obtain ⟨_, k2, hv, hb⟩ := hap
      rw [hv]
      have := own_canon (h := h) (L := ⟨2, 1, [.int .i64 s.conds, .slice (some a) s.tasks.length c]⟩ :: L) (k := k2 + 1) (sp := some 0) (n := (regM s.conds t).length) (c := (regM s.conds t).length) hb rfl (.inr rfl) (Z4 _)
      rw [show h.length + 1 + k2 = h.length + (k2 + 1) by omega]
      exact this
  | true =>
    simp only [hcn] at hnb
    have hz0 : z1 = none := by
      cases z1 with
      | none => rfl
      | some _ => simp [nilB] at hnb
    subst hz0
    have hcu : t.cuts = [] := by
      cases hq : t.cuts with
      | nil => rfl
      | cons x xs =>
        obtain ⟨a, q, _⟩ := hzr 0 [.int .i64 x] (by simp [hq, ints])
        cases q
    simp only [regV_eq, regL, hcn, Z2x]
    rw [hcu] at hzero hkl
    simp only [Z2, Zf] at hkl
    simp only [hcu, Z2] at hg4 f3
    clear hzc hzr q3 hcu hnb
    refine Z36 Try.func101 rfl Try.ntmps101 (by simp) (by dsimp only [Try.f101]) ?_
    repeat' (first | ((with_reducible refine eq_go ?_); simp only [stp, ev, ZB, reduceIte, Nat.reduceEqDiff, Z2x, Z13, Zy, ldv, fldA, idxA, blt, lenV, Z10, ZH, Zg, Ze, Z14, Zw, Z33, Nat.reduceAdd, Nat.reduceMul, Nat.reduceLeDiff, splice, newB, vcs, Ty.t3, Ty.t30, Ty.t32, Ty.t86, Ty.t89, *]; rfl) | (with_reducible first | refine aw_then ?_ | refine aw_skip ?_ | refine aw_ret ?_ | refine aw_exit ?_ | refine aw_block ?_ | refine xr_reg (by decide +kernel) ?_ | refine xr_nil ?_ | refine k_norm ?_ | refine k_ret ?_ | refine k_exit ?_ | refine b_norm ?_ | refine b_ret ?_ | refine b_exit ?_ | refine b_past (by decide) ?_) | (refine Ty.c99 (args := ?_) (K := ?_) ?_ ?_ ?_; rotate_left 2) | (refine xr_do (v := ?_) (h' := ?_) (by exact rfl) ?_ ?_; rotate_left 2) | (refine xr_st (v := ?_) (h' := ?_) (by exact rfl) ?_ ?_; rotate_left 2) | (refine aw_c (b := ?_) (by decide) ?_ ?_; rotate_left 1; (· simp only [ev, Zb, reduceIte, Nat.reduceEqDiff, *]; rfl)) | (with_reducible first | refine cw_t ?_ | refine cw_f ?_) | refine cw_if (fun hb => ?_) (fun hb => ?_) | (refine r_ret (vs := ?_) ?_ ?_; rotate_left 1; (· simp only [resV, ev, Zb, reduceIte, Nat.reduceEqDiff, Zj, *]; rfl)) | (with_reducible exact cloneNil_ok _ _) | ((with_reducible refine Z2w ?_); rintro _ _ ⟨rfl, hh⟩; replace hh := hh.symm; subst hh))
    refine aw_for [2, 4, 20, 21] (fun j T h' => ∃ L, h' = h ++ ⟨2, 1, [.int .i64 s.conds, .slice (some a) s.tasks.length c]⟩ :: L ∧ T 22 = .int .i64 j ∧ App (h.length + 1) L (T 5) 1 (ints (regK s.conds t j)).flatten (regK s.conds t j).length) t.stops.length (k0 := 0) (Nat.zero_le _) ⟨[], rfl, rfl, by rw [hzero]; exact App.nil _ _ _⟩ ?_
    rintro j T h' hj hR ⟨L, rfl, h22, hap⟩
    simp only [Z37, Z38, Z39, implies_true, and_true, stp, ev, ZB, reduceIte, Nat.reduceEqDiff, Z2x, Z13, Zy] at hR
    have hjl := hkl j hj
    rcases Nat.lt_or_ge j t.stops.length with hjn | hjn
    · have h2 : (j : Int) < t.stops.length := by omega
      have hsn := hsucc j hjn
      obtain ⟨wa, rfl, hg⟩ := sl_get (e := 1) hwr j hjn
      have hge := fun L => (hI.app L).get hg
      have hx := hst (t.stops.getD j 0) (by rw [List.getD_eq_getElem?_getD, List.getElem?_eq_getElem hjn]; exact List.getElem_mem hjn)
      have hwx : IntKind.i64.wrap (s.conds + t.stops.getD j 0) = s.conds + t.stops.getD j 0 := wrap_id (by omega)
      generalize t.stops.getD j 0 = xx at *
      have hbs := bsl_one (h := h ++ ⟨2, 1, [.int .i64 s.conds, .slice (some a) s.tasks.length c]⟩ :: L) (x := .int .i64 (s.conds + xx)) Ty.sl86 Ty.zc3 rfl rfl
      obtain ⟨v', L', hap', happ⟩ := app_step (h2 := h ++ [⟨2, 1, [.int .i64 s.conds, .slice (some a) s.tasks.length c]⟩]) (L := L) (E := [⟨2, 1, [.int .i64 (s.conds + xx)]⟩]) (j := 0) (ix := h.length + (L.length + 1)) Ty.sl86 Ty.zc3 Ty.by3 (hap.cast (by simp) rfl rfl rfl rfl) rfl rfl (by simp; omega) (by omega) (by omega)
      simp only [Z7, Zc, Zd, Z6, Z3, Z2, Zf, Zh, Nat.reduceAdd] at hbs hap' happ
      clear hwr hg4 hg5 q1 q2
      repeat' (first | ((with_reducible refine eq_go ?_); simp only [stp, ev, ZB, reduceIte, Nat.reduceEqDiff, Z2x, Z13, Zy, ldv, fldA, idxA, blt, lenV, Z10, ZH, Zg, Ze, Z14, Zw, Z33, Nat.reduceAdd, Nat.reduceMul, Nat.reduceLeDiff, splice, newB, vcs, Ty.t3, Ty.t30, Ty.t32, Ty.t86, Ty.t89, *]; rfl) | (with_reducible first | refine aw_then ?_ | refine aw_skip ?_ | refine aw_ret ?_ | refine aw_exit ?_ | refine aw_block ?_ | refine xr_reg (by decide +kernel) ?_ | refine xr_nil ?_ | refine k_norm ?_ | refine k_ret ?_ | refine k_exit ?_ | refine b_norm ?_ | refine b_ret ?_ | refine b_exit ?_ | refine b_past (by decide) ?_) | (refine Ty.c99 (args := ?_) (K := ?_) ?_ ?_ ?_; rotate_left 2) | (refine xr_do (v := ?_) (h' := ?_) (by exact rfl) ?_ ?_; rotate_left 2) | (refine xr_st (v := ?_) (h' := ?_) (by exact rfl) ?_ ?_; rotate_left 2) | (refine aw_c (b := ?_) (by decide) ?_ ?_; rotate_left 1; (· simp only [ev, Zb, reduceIte, Nat.reduceEqDiff, *]; rfl)) | (with_reducible first | refine cw_t ?_ | refine cw_f ?_) | refine cw_if (fun hb => ?_) (fun hb => ?_) | (refine r_ret (vs := ?_) ?_ ?_; rotate_left 1; (· simp only [resV, ev, Zb, reduceIte, Nat.reduceEqDiff, Zj, *]; rfl)) | (with_reducible exact cloneNil_ok _ _) | ((with_reducible refine Z2w ?_); rintro _ _ ⟨rfl, hh⟩; replace hh := hh.symm; subst hh))
      refine ⟨by first | assumption | omega, ?_, ?_⟩
      · simp only [Z37, Z38, Z39, implies_true, and_true, ZB, stp, ev, reduceIte, Nat.reduceEqDiff, Z2x, Z13, Zy, *]
      refine ⟨_, rfl, ?_, ?_⟩
      · simp only [Zb, reduceIte, Nat.reduceEqDiff]
        rw [wrap_id (by omega)]; rfl
      · simp only [Zb, reduceIte, Nat.reduceEqDiff]
        rw [hsn]
        refine happ.cast rfl rfl rfl ?_ ?_
        · simp [ints]
        · simp
    · have h2 : ¬ (j : Int) < t.stops.length := by omega
      clear hwr
      obtain rfl : j = t.stops.length := by omega
      rw [hall] at hap
      repeat' (first | ((with_reducible refine eq_go ?_); simp only [stp, ev, ZB, reduceIte, Nat.reduceEqDiff, Z2x, Z13, Zy, ldv, fldA, idxA, blt, lenV, Z10, ZH, Zg, Ze, Z14, Zw, Z33, Nat.reduceAdd, Nat.reduceMul, Nat.reduceLeDiff, splice, newB, vcs, Ty.t3, Ty.t30, Ty.t32, Ty.t86, Ty.t89, *]; rfl) | (with_reducible first | refine aw_then ?_ | refine aw_skip ?_ | refine aw_ret ?_ | refine aw_exit ?_ | refine aw_block ?_ | refine xr_reg (by decide +kernel) ?_ | refine xr_nil ?_ | refine k_norm ?_ | refine k_ret ?_ | refine k_exit ?_ | refine b_norm ?_ | refine b_ret ?_ | refine b_exit ?_ | refine b_past (by decide) ?_) | (refine Ty.c99 (args := ?_) (K := ?_) ?_ ?_ ?_; rotate_left 2) | (refine xr_do (v := ?_) (h' := ?_) (by exact rfl) ?_ ?_; rotate_left 2) | (refine xr_st (v := ?_) (h' := ?_) (by exact rfl) ?_ ?_; rotate_left 2) | (refine aw_c (b := ?_) (by decide) ?_ ?_; rotate_left 1; (· simp only [ev, Zb, reduceIte, Nat.reduceEqDiff, *]; rfl)) | (with_reducible first | refine cw_t ?_ | refine cw_f ?_) | refine cw_if (fun hb => ?_) (fun hb => ?_) | (refine r_ret (vs := ?_) ?_ ?_; rotate_left 1; (· simp only [resV, ev, Zb, reduceIte, Nat.reduceEqDiff, Zj, *]; rfl)) | (with_reducible exact cloneNil_ok _ _) | ((with_reducible refine Z2w ?_); rintro _ _ ⟨rfl, hh⟩; replace hh := hh.symm; subst hh))
      exact list_canon1 (hap.cons _)
end Go.Proofs.Ytmjhfklmlcnofaa.Am
namespace Go.Proofs.Ytmjhfklmlcnofaa.Am
open Go Go.Proofs
set_option linter.unusedVariables false
set_option linter.unusedSimpArgs false
set_option maxRecDepth 100000
set_option maxHeartbeats 8000000
/-- The members of a list that a choice has. -/
def someM (l : List Int) (n : Nat) : List Int := (bitsL n).map fun i => l.getD i.toNat 0
def someK (l : List Int) (n k : Nat) : List Int := ((bitsL n).take k).map fun i => l.getD i.toNat 0
theorem someK_succ (l : List Int) (n k : Nat) (hk : k < (bitsL n).length) : someK l n (k + 1) = someK l n k ++ [l.getD ((bitsL n).getD k 0).toNat 0] := by
  unfold someK
  rw [← List.take_append_getElem hk, List.map_append, List.getD_eq_getElem?_getD (l := bitsL n), List.getElem?_eq_getElem hk]; rfl
theorem someK_len (l : List Int) (n k : Nat) (hk : k ≤ (bitsL n).length) : (someK l n k).length = k := by
  simp only [someK, Zv, List.length_take]; omega
theorem someK_all (l : List Int) (n : Nat) : someK l n (bitsL n).length = someM l n := by simp [someK, someM]
theorem someM_ne {l : List Int} {n : Nat} (h1 : 1 ≤ n) (hn : n ≤ 7) : someM l n ≠ [] := fun q => bits_ne h1 hn (List.map_eq_nil_iff.1 q)
theorem pow_le7 {n m : Nat} (hm : m ≤ 3) (h : n < 2 ^ m) : n ≤ 7 := by
  have h8 : 2 ^ m ≤ 8 := Nat.pow_le_pow_right (by decide) hm
  omega
theorem l13Some_ok (l : List Int) (n : Nat) (v0 : Value) (h : Heap) (hs : Sl h v0 1 (ints l)) (hl : l.length ≤ 3) (h1 : 1 ≤ n) (hn : n < 2 ^ l.length) :
    ACalls Try.prog 0 60 #[v0, .int .i64 n] h fun v h' => v = ownV h.length (someM l n) ∧ h' = h ++ ownL (someM l n) := by
  refine acalls_canon _ _ ?_
  have h7 := pow_le7 hl hn
  have hf := hs.flat
  obtain ⟨b, c, rfl, hc, hrow⟩ := id hs
  have hbl := bits_lt hl hn
  have hne := bits_ne h1 h7
  have hsm := someM_ne (l := l) h1 h7
  have hb3 : (bitsL n).length ≤ 3 := bitsK_len n 3
  have hsucc := someK_succ l n
  have hkl := someK_len l n
  have hall := someK_all l n
  have hset := l1Set_ok n h h7
  have hbs0 := own_sl h (bitsL n) []
  simp only [Zx] at hbs0
  obtain ⟨bb, bc, hbe, _, hbr⟩ := id hbs0
  rw [listV_own hne, listL_own hne] at hset
  simp only [ownV, ownL] at hset
  unfold ownV at hbe
  rw [ints_length] at hbe
  cases hbe
  rw [ints_length] at *
  generalize bitsL n = B at *
  refine Z36 Try.func60 rfl Try.ntmps60 (by simp) (by dsimp only [Try.f60]) ?_
  repeat' (first | ((with_reducible refine eq_go ?_); simp only [stp, ev, ZB, reduceIte, Nat.reduceEqDiff, Z2x, Z13, Zy, ldv, idxA, blt, lenV, Z10, ZH, Zg, Ze, Z14, Zw, Z33, Nat.reduceAdd, Nat.reduceMul, Nat.reduceLeDiff, splice, newB, vcs, Ty.t3, Ty.t86, *]; rfl) | (with_reducible first | refine aw_then ?_ | refine aw_skip ?_ | refine aw_ret ?_ | refine aw_exit ?_ | refine aw_block ?_ | refine xr_reg (by decide +kernel) ?_ | refine xr_nil ?_ | refine k_norm ?_ | refine k_ret ?_ | refine k_exit ?_ | refine b_norm ?_ | refine b_ret ?_ | refine b_exit ?_ | refine b_past (by decide) ?_) | (refine Ty.c77 (args := ?_) (K := ?_) ?_ ?_ ?_; rotate_left 2) | (refine xr_do (v := ?_) (h' := ?_) (by exact rfl) ?_ ?_; rotate_left 2) | (refine xr_st (v := ?_) (h' := ?_) (by exact rfl) ?_ ?_; rotate_left 2) | (refine aw_c (b := ?_) (by decide) ?_ ?_; rotate_left 1; (· simp only [ev, Zb, reduceIte, Nat.reduceEqDiff, *]; rfl)) | (with_reducible first | refine cw_t ?_ | refine cw_f ?_) | refine cw_if (fun hb => ?_) (fun hb => ?_) | (refine r_ret (vs := ?_) ?_ ?_; rotate_left 1; (· simp only [resV, ev, Zb, reduceIte, Nat.reduceEqDiff, Zj, *]; rfl)) | (with_reducible exact hset) | ((with_reducible refine Z2w ?_); rintro _ _ ⟨rfl, hh⟩; replace hh := hh.symm; subst hh))
  refine aw_for [0, 4, 9, 10] (fun k T h' => ∃ L, h' = h ++ ⟨2, 1, (ints B).flatten⟩ :: L ∧ T 11 = .int .i64 k ∧ App (h.length + 1) L (T 5) 1 (ints (someK l n k)).flatten (someK l n k).length) B.length (k0 := 0) (Nat.zero_le _) ⟨[], rfl, rfl, App.nil _ _ _⟩ ?_
  rintro k T h' hk hR ⟨L, rfl, h11, hap⟩
  simp only [Z37, Z38, Z39, implies_true, and_true, stp, ev, ZB, reduceIte, Nat.reduceEqDiff, Z2x, Z13, Zy] at hR
  have hkn := hkl k hk
  rcases Nat.lt_or_ge k B.length with hkb | hkb
  · have h2 : (k : Int) < B.length := by omega
    have hsn := hsucc k hkb
    obtain ⟨ba, hba, hg⟩ := sl_get (e := 1) hbr k hkb
    cases hba
    have hge : ∀ L : Heap, getC (h ++ ⟨2, 1, (ints B).flatten⟩ :: L) h.length (k * 1) = some (.int .i64 (B.getD k 0)) := fun L => by
      have := getC_old (l := L) hg
      simpa [ownL] using this
    have hx := hbl (B.getD k 0) (by rw [List.getD_eq_getElem?_getD, List.getElem?_eq_getElem hkb]; exact List.getElem_mem hkb)
    generalize B.getD k 0 = i at *
    obtain ⟨i, rfl⟩ := Int.eq_ofNat_of_zero_le hx.1
    have hil : i < l.length := by omega
    obtain ⟨la, rfl, hlg⟩ := sl_get (e := 1) hrow i hil
    have hle := fun L => getC_old (l := L) hlg
    have h3 : (i : Int) < l.length := by omega
    simp only [Zq] at hsn
    generalize l.getD i 0 = x at *
    have hbs := bsl_one (h := h ++ ⟨2, 1, (ints B).flatten⟩ :: L) (x := .int .i64 x) Ty.sl86 Ty.zc3 rfl rfl
    obtain ⟨v', L', hap', happ⟩ := app_step (h2 := h ++ [⟨2, 1, (ints B).flatten⟩]) (L := L) (E := [⟨2, 1, [.int .i64 x]⟩]) (j := 0) (ix := h.length + (L.length + 1)) Ty.sl86 Ty.zc3 Ty.by3 (hap.cast (by simp) rfl rfl rfl rfl) rfl rfl (by simp; omega) (by omega) (by omega)
    simp only [Z7, Zc, Zd, Z6, Z3, Z2, Zf, Zh, Nat.reduceAdd] at hbs hap' happ
    clear hrow hbr hbs0 hset
    repeat' (first | ((with_reducible refine eq_go ?_); simp only [stp, ev, ZB, reduceIte, Nat.reduceEqDiff, Z2x, Z13, Zy, ldv, idxA, blt, lenV, Z10, ZH, Zg, Ze, Z14, Zw, Z33, Nat.reduceAdd, Nat.reduceMul, Nat.reduceLeDiff, splice, newB, vcs, Ty.t3, Ty.t86, *]; rfl) | (with_reducible first | refine aw_then ?_ | refine aw_skip ?_ | refine aw_ret ?_ | refine aw_exit ?_ | refine aw_block ?_ | refine xr_reg (by decide +kernel) ?_ | refine xr_nil ?_ | refine k_norm ?_ | refine k_ret ?_ | refine k_exit ?_ | refine b_norm ?_ | refine b_ret ?_ | refine b_exit ?_ | refine b_past (by decide) ?_) | (refine Ty.c77 (args := ?_) (K := ?_) ?_ ?_ ?_; rotate_left 2) | (refine xr_do (v := ?_) (h' := ?_) (by exact rfl) ?_ ?_; rotate_left 2) | (refine xr_st (v := ?_) (h' := ?_) (by exact rfl) ?_ ?_; rotate_left 2) | (refine aw_c (b := ?_) (by decide) ?_ ?_; rotate_left 1; (· simp only [ev, Zb, reduceIte, Nat.reduceEqDiff, *]; rfl)) | (with_reducible first | refine cw_t ?_ | refine cw_f ?_) | refine cw_if (fun hb => ?_) (fun hb => ?_) | (refine r_ret (vs := ?_) ?_ ?_; rotate_left 1; (· simp only [resV, ev, Zb, reduceIte, Nat.reduceEqDiff, Zj, *]; rfl)) | (with_reducible exact hset) | ((with_reducible refine Z2w ?_); rintro _ _ ⟨rfl, hh⟩; replace hh := hh.symm; subst hh))
    refine ⟨by first | assumption | omega, ?_, ?_⟩
    · simp only [Z37, Z38, Z39, implies_true, and_true, ZB, stp, ev, reduceIte, Nat.reduceEqDiff, Z2x, Z13, Zy, *]
    refine ⟨_, rfl, ?_, ?_⟩
    · simp only [Zb, reduceIte, Nat.reduceEqDiff]
      rw [wrap_id (by omega)]; rfl
    · simp only [Zb, reduceIte, Nat.reduceEqDiff]
      rw [hsn]
      refine happ.cast rfl rfl rfl ?_ ?_
      · simp [ints]
      · simp
  · have h2 : ¬ (k : Int) < B.length := by omega
    obtain rfl : k = B.length := by omega
    clear hrow hbr hbs0 hset
    rw [hall] at hap
    repeat' (first | ((with_reducible refine eq_go ?_); simp only [stp, ev, ZB, reduceIte, Nat.reduceEqDiff, Z2x, Z13, Zy, ldv, idxA, blt, lenV, Z10, ZH, Zg, Ze, Z14, Zw, Z33, Nat.reduceAdd, Nat.reduceMul, Nat.reduceLeDiff, splice, newB, vcs, Ty.t3, Ty.t86, *]; rfl) | (with_reducible first | refine aw_then ?_ | refine aw_skip ?_ | refine aw_ret ?_ | refine aw_exit ?_ | refine aw_block ?_ | refine xr_reg (by decide +kernel) ?_ | refine xr_nil ?_ | refine k_norm ?_ | refine k_ret ?_ | refine k_exit ?_ | refine b_norm ?_ | refine b_ret ?_ | refine b_exit ?_ | refine b_past (by decide) ?_) | (refine Ty.c77 (args := ?_) (K := ?_) ?_ ?_ ?_; rotate_left 2) | (refine xr_do (v := ?_) (h' := ?_) (by exact rfl) ?_ ?_; rotate_left 2) | (refine xr_st (v := ?_) (h' := ?_) (by exact rfl) ?_ ?_; rotate_left 2) | (refine aw_c (b := ?_) (by decide) ?_ ?_; rotate_left 1; (· simp only [ev, Zb, reduceIte, Nat.reduceEqDiff, *]; rfl)) | (with_reducible first | refine cw_t ?_ | refine cw_f ?_) | refine cw_if (fun hb => ?_) (fun hb => ?_) | (refine r_ret (vs := ?_) ?_ ?_; rotate_left 1; (· simp only [resV, ev, Zb, reduceIte, Nat.reduceEqDiff, Zj, *]; rfl)) | (with_reducible exact hset) | ((with_reducible refine Z2w ?_); rintro _ _ ⟨rfl, hh⟩; replace hh := hh.symm; subst hh))
    rw [← listV_own hsm, ← listL_own hsm]
    exact list_canon1 (hap.cons _)
end Go.Proofs.Ytmjhfklmlcnofaa.Am
namespace Go.Proofs.Ytmjhfklmlcnofaa.Am
open Go Go.Proofs
set_option linter.unusedVariables false
set_option linter.unusedSimpArgs false
set_option maxRecDepth 100000
set_option maxHeartbeats 8000000
def trM (c : Int) (t : TaskM) (m : MoveM) : Tr :=
  if m.beg = true then ⟨if t.join = 2 then [t.inn.getD m.pick 0] else t.inn, [c + m.task], []⟩
  else ⟨[c + m.task], if t.split = 2 then [t.out.getD m.pick 0] else if t.split = 3 then someM t.out m.pick else t.out, regM c t⟩
def trCn (t : TaskM) (m : MoveM) : Bool := m.beg || t.cn
def trRow (n : Nat) (t : Tr) (cn : Bool) : List Value := [ownV n t.inn, ownV (n + 1) t.out, .slice (if cn = true ∧ t.res = [] then none else some ⟨n + 2, 0, some 0⟩) t.res.length t.res.length]
def trV (n : Nat) (t : Tr) (cn : Bool) : Value := .agg (trRow n t cn).toArray
theorem res_eq (n : Nat) (r : List Int) (cn : Bool) : (.slice (if cn = true ∧ r = [] then none else some ⟨n, 0, some 0⟩) r.length r.length : Value) = if cn = true then listV n r else ownV n r := by
  unfold listV ownV
  by_cases h1 : cn = true
  · by_cases h2 : r = []
    · rw [if_pos ⟨h1, h2⟩, if_pos h1, if_pos h2, h2]; rfl
    · rw [if_neg (fun q => h2 q.2), if_pos h1, if_neg h2]
  · rw [if_neg (fun q => h1 q.1), if_neg h1]
theorem trV_eq (n : Nat) (t : Tr) (cn : Bool) : trV n t cn = .agg #[ownV n t.inn, ownV (n + 1) t.out, if cn = true then listV (n + 2) t.res else ownV (n + 2) t.res] := by
  unfold trV trRow; rw [res_eq]
def trL (t : Tr) (cn : Bool) : Heap := ⟨2, 1, (ints t.inn).flatten⟩ :: ⟨2, 1, (ints t.out).flatten⟩ :: (if cn = true then listL t.res else ownL t.res)
def MoveM.fit (m : MoveM) (t : TaskM) : Prop := (m.beg = true → t.join = 2 → m.pick < t.inn.length) ∧ (m.beg = false → (t.split = 2 → m.pick < t.out.length) ∧ (t.split = 3 → 1 ≤ m.pick ∧ m.pick < 2 ^ t.out.length))
theorem tr_canon2 {h L : Heap} {k1 k2 : Nat} {sp1 sp2 : Option Nat} {inn out : List Int} (hb1 : L[k1]? = some ⟨2, 1, (ints inn).flatten⟩) (hb2 : L[k2]? = some ⟨2, 1, (ints out).flatten⟩) (hne : k1 ≠ k2) (hs1 : sp1 = none ∨ sp1 = some 0) (hs2 : sp2 = none ∨ sp2 = some 0) :
    ∃ (L' : Heap) (ks : List Nat), h ++ L = h ++ L' ∧ Inj ks ∧ ks.length = (trL ⟨inn, out, []⟩ true).length ∧ BsOk (trL ⟨inn, out, []⟩ true) L' ks ∧
      RV h.length L' ks (trV h.length ⟨inn, out, []⟩ true) (.agg #[.slice (some ⟨h.length + k1, 0, sp1⟩) inn.length inn.length, .slice (some ⟨h.length + k2, 0, sp2⟩) out.length out.length, .slice none 0 0]) :=
  ⟨L, [k1, k2], rfl, Inj.two hne, rfl, BsOk.cons rfl (ints_af _) hb1 (BsOk.cons rfl (ints_af _) hb2 (BsOk.nil _ _)),
    RVl.agg (l := [_, _, _]) (l' := [_, _, _]) ⟨.sl 0 k1 _ _ 1 _ _ rfl hb1 (ints_flen _) (Z4 _) (by rcases hs1 with q | q <;> simp [q]), .sl 1 k2 _ _ 1 _ _ rfl hb2 (ints_flen _) (Z4 _) (by rcases hs2 with q | q <;> simp [q]), .plain _ rfl, trivial⟩⟩
theorem tr_canon3 {h X : Heap} {k1 k2 n : Nat} {sp1 sp2 : Option Nat} {inn out : List Int} {c : Int} {t : TaskM} (hb1 : X[k1]? = some ⟨2, 1, (ints inn).flatten⟩) (hb2 : X[k2]? = some ⟨2, 1, (ints out).flatten⟩) (hne : k1 ≠ k2) (hs1 : sp1 = none ∨ sp1 = some 0) (hs2 : sp2 = none ∨ sp2 = some 0) (hn : n = h.length + X.length) :
    ∃ (L' : Heap) (ks : List Nat), h ++ (X ++ regL c t) = h ++ L' ∧ Inj ks ∧ ks.length = (trL ⟨inn, out, regM c t⟩ t.cn).length ∧ BsOk (trL ⟨inn, out, regM c t⟩ t.cn) L' ks ∧
      RV h.length L' ks (trV h.length ⟨inn, out, regM c t⟩ t.cn) (.agg #[.slice (some ⟨h.length + k1, 0, sp1⟩) inn.length inn.length, .slice (some ⟨h.length + k2, 0, sp2⟩) out.length out.length, regV n c t]) := by
  subst hn
  have l1 := (List.getElem?_eq_some_iff.1 hb1).1
  have l2 := (List.getElem?_eq_some_iff.1 hb2).1
  have key : ∀ (r : List Int), (∃ (L' : Heap) (ks : List Nat), h ++ (X ++ ownL r) = h ++ L' ∧ Inj ks ∧ ks.length = (⟨2, 1, (ints inn).flatten⟩ :: ⟨2, 1, (ints out).flatten⟩ :: ownL r).length ∧ BsOk (⟨2, 1, (ints inn).flatten⟩ :: ⟨2, 1, (ints out).flatten⟩ :: ownL r) L' ks ∧
      RV h.length L' ks (.agg #[ownV h.length inn, ownV (h.length + 1) out, ownV (h.length + 2) r]) (.agg #[.slice (some ⟨h.length + k1, 0, sp1⟩) inn.length inn.length, .slice (some ⟨h.length + k2, 0, sp2⟩) out.length out.length, ownV (h.length + X.length) r])) := by
    intro r
    have hb3 : (X ++ ownL r)[X.length]? = some ⟨2, 1, (ints r).flatten⟩ := by rw [List.getElem?_append_right (Z4 _), Nat.sub_self]; rfl
    exact ⟨_, [k1, k2, X.length], rfl, Inj.three hne (by omega) (by omega), rfl, BsOk.cons rfl (ints_af _) (get_old hb1) (BsOk.cons rfl (ints_af _) (get_old hb2) (BsOk.cons rfl (ints_af _) hb3 (BsOk.nil _ _))),
      RVl.agg (l := [_, _, _]) (l' := [_, _, _]) ⟨.sl 0 k1 _ _ 1 _ _ rfl (get_old hb1) (ints_flen _) (Z4 _) (by rcases hs1 with q | q <;> simp [q]), .sl 1 k2 _ _ 1 _ _ rfl (get_old hb2) (ints_flen _) (Z4 _) (by rcases hs2 with q | q <;> simp [q]),
        .sl 2 X.length _ _ 1 _ _ rfl hb3 (ints_flen _) (Z4 _) (.inr rfl), trivial⟩⟩
  unfold trL regL
  rw [regV_eq, trV_eq]
  simp only []
  cases t.cn with
  | false => exact key _
  | true =>
    by_cases hr : regM c t = []
    · simp only [Z2x, hr, listV, listL, Zx]
      exact ⟨X, [k1, k2], rfl, Inj.two hne, rfl, BsOk.cons rfl (ints_af _) hb1 (BsOk.cons rfl (ints_af _) hb2 (BsOk.nil _ _)),
        RVl.agg (l := [_, _, _]) (l' := [_, _, _]) ⟨.sl 0 k1 _ _ 1 _ _ rfl hb1 (ints_flen _) (Z4 _) (by rcases hs1 with q | q <;> simp [q]), .sl 1 k2 _ _ 1 _ _ rfl hb2 (ints_flen _) (Z4 _) (by rcases hs2 with q | q <;> simp [q]), .plain _ rfl, trivial⟩⟩
    · simp only [Z2x, listV_own hr, listL_own hr]
      exact key _
theorem transOf_ok (s : SpecM) (m : MoveM) (vt : Value) (I h : Heap) (hI : Sub I h) (hs : RTasks I vt s.tasks) (hsm : s.small) (hf : s.fit) (hk : m.task < s.tasks.length) (hm : m.fit (s.tasks.getD m.task TaskM.nil)) :
    ACalls Try.prog 0 90 #[.agg #[.int .i64 s.conds, vt], .agg #[.int .i64 m.task, .bool m.beg, .int .i64 m.pick]] h
    fun v h' => v = trV h.length (trM s.conds (s.tasks.getD m.task TaskM.nil) m) (trCn (s.tasks.getD m.task TaskM.nil) m) ∧ h' = h ++ trL (trM s.conds (s.tasks.getD m.task TaskM.nil) m) (trCn (s.tasks.getD m.task TaskM.nil) m) := by
  refine acalls_canon _ _ ?_
  have hfl := hs.flat
  have hRT := hs
  obtain ⟨b, c, rfl, hcc, hrow⟩ := hs.form
  have hlen := hsm.1
  obtain ⟨k, beg, pick⟩ := m
  simp only at hk hm ⊢
  have h1 : (k : Int) < s.tasks.length := by omega
  obtain ⟨a, row, rfl, hrl, hrt, hld0⟩ := hrow k hk
  obtain ⟨x, y, z, w, rfl, q1, q2, q3, q4, hnb⟩ := hrt
  obtain ⟨s1, s2, s3, s4⟩ := hsm.2 s.tasks[k] (List.getElem_mem hk)
  have hld := fun L => hld0 _ (hI.app L)
  have f1 := q1.flat
  have f2 := q2.flat
  have f3 := q3.flat
  have f4 := q4.flat
  have hc8 := hf.1
  have h6 := hf.2.1.2
  have htk := hf.2.2 k hk
  have hgt : s.tasks.getD k TaskM.nil = s.tasks[k] := by rw [List.getD_eq_getElem?_getD, List.getElem?_eq_getElem hk]; rfl
  rw [hgt] at htk hm ⊢
  clear hrow hld0
  generalize s.tasks[k] = t at *
  have hfit := taskOk_fit htk
  have h3 : t.split = 1 ∨ t.split = 2 ∨ t.split = 3 := by
    simp only [taskOk, Bool.and_eq_true, decide_eq_true_eq] at htk; omega
  clear htk
  have hwb : IntKind.i64.wrap (s.conds + k) = s.conds + k := wrap_id (by omega)
  obtain ⟨i1, i2, o1, o2⟩ := hfit
  have hq1 := fun L => q1.sub (hI.app L)
  obtain ⟨x1, x2, rfl, hxc, hxr⟩ := id q1
  obtain ⟨y1, y2, rfl, hyc, hyr⟩ := id q2
  simp only [ints_length] at hld f1 f2 q1 q2 hq1 hxc hyc hnb ⊢
  have hn1 : nilB (.slice x1 t.inn.length x2) = false := by
    obtain ⟨a, q, _⟩ := sl_get (e := 1) hxr 0 (by omega)
    rw [q]; rfl
  have hn2 : nilB (.slice y1 t.out.length y2) = false := by
    obtain ⟨a, q, _⟩ := sl_get (e := 1) hyr 0 (by omega)
    rw [q]; rfl
  have hbs := fun (H : Heap) (x : Int) => bsl_one (h := H) (x := .int .i64 x) Ty.sl86 Ty.zc3 rfl rfl
  simp only [Z3, Z2, Zf, Nat.reduceAdd] at hbs
  cases beg with
  | true =>
    by_cases hj : t.join = 2
    · have hp : pick < t.inn.length := hm.1 rfl hj
      obtain ⟨xa, rfl, hxg⟩ := sl_get (e := 1) hxr pick hp
      have hxe := fun L => (hI.app L).get hxg
      have hp2 : (pick : Int) < t.inn.length := by omega
      have htr : trM s.conds t ⟨k, true, pick⟩ = ⟨[t.inn.getD pick 0], [s.conds + k], []⟩ := by simp [trM, hj]
      rw [htr, show trCn t ⟨k, true, pick⟩ = true from rfl]
      generalize t.inn.getD pick 0 = xx at *
      have hjd : decide (t.join = 2) = true := decide_eq_true hj
      clear hxr hyr hm htr
      refine Z36 Try.func90 rfl Try.ntmps90 (by simp) (by dsimp only [Try.f90]) ?_
      repeat' (first | ((with_reducible refine eq_go ?_); simp only [stp, ev, ZB, reduceIte, Nat.reduceEqDiff, Z2x, Z13, Zy, binV_bool_neq, binV_bool_eql, Ty.un4, bld, fillL, vcs, splice, Ze, ZH, Z35, ldv, stv, fldA, idxA, blt, lenV, Z10, Zg, Z14, Zw, Z33, Nat.reduceAdd, Nat.reduceMul, Nat.reduceLeDiff, newB, Ty.t3, Ty.t4, Ty.t30, Ty.t32, Ty.t86, Ty.t89, Ty.t95, Ty.t97, ownV, ownL, regV, *]; rfl) | (with_reducible first | refine aw_then ?_ | refine aw_skip ?_ | refine aw_ret ?_ | refine aw_exit ?_ | refine aw_block ?_ | refine xr_reg (by decide +kernel) ?_ | refine xr_nil ?_ | refine k_norm ?_ | refine k_ret ?_ | refine k_exit ?_ | refine b_norm ?_ | refine b_ret ?_ | refine b_exit ?_ | refine b_past (by decide) ?_) | (refine Ty.c99 (args := ?_) (K := ?_) ?_ ?_ ?_; rotate_left 2) | (refine Ty.c100 (args := ?_) (K := ?_) ?_ ?_ ?_; rotate_left 2) | (refine Ty.c101 (args := ?_) (K := ?_) ?_ ?_ ?_; rotate_left 2) | (refine xr_do (v := ?_) (h' := ?_) (by exact rfl) ?_ ?_; rotate_left 2) | (refine xr_st (v := ?_) (h' := ?_) (by exact rfl) ?_ ?_; rotate_left 2) | (refine aw_c (b := ?_) (by decide) ?_ ?_; rotate_left 1; (· simp only [ev, Zb, reduceIte, Nat.reduceEqDiff, *]; rfl)) | (with_reducible first | refine cw_t ?_ | refine cw_f ?_) | refine cw_if (fun hb => ?_) (fun hb => ?_) | (refine r_ret (vs := ?_) ?_ ?_; rotate_left 1; (· simp only [resV, oneOf, stp, ev, ZB, reduceIte, Nat.reduceEqDiff, Z2x, Z13, Zy, binV_bool_neq, binV_bool_eql, Ty.un4, bld, fillL, vcs, splice, Ze, ZH, Z35, ldv, stv, fldA, idxA, blt, lenV, Z10, Zg, Z14, Zw, Z33, Nat.reduceAdd, Nat.reduceMul, Nat.reduceLeDiff, newB, Ty.t3, Ty.t4, Ty.t30, Ty.t32, Ty.t86, Ty.t89, Ty.t95, Ty.t97, ownV, ownL, regV, *]; rfl)) | ((with_reducible refine cloneInts_ok ?_ _ _ ?_ ?_ ?_); rotate_left 1; (· first | assumption | exact Sl.sub ‹_› (by first | assumption | exact Sub.refl _ | exact Sub.app ‹_› _ | exact Sub.app (Sub.refl _) _)); (· first | omega | (simp only [Z2]; omega)); (· assumption)) | ((with_reducible refine setOf_ok _ _ ?_); (· first | omega | (simp only [Z2]; omega))) | ((with_reducible refine regionOf_ok s _ _ I _ ?_ ?_ ?_ ?_ ?_); (· first | assumption | exact Sub.refl _ | exact Sub.app ‹_› _ | exact Sub.app (Sub.refl _) _); (· assumption); (· assumption); (· assumption); (· first | omega | (simp only [Z2]; omega))) | ((with_reducible refine Z2w ?_); rintro _ _ ⟨rfl, hh⟩; replace hh := hh.symm; subst hh))
      exact tr_canon2 (k1 := 5) (k2 := 4) (inn := [xx]) (out := [s.conds + k]) rfl rfl (by decide) (.inl rfl) (.inl rfl)
    · have htr : trM s.conds t ⟨k, true, pick⟩ = ⟨t.inn, [s.conds + k], []⟩ := by simp [trM, hj]
      rw [htr, show trCn t ⟨k, true, pick⟩ = true from rfl]
      have hjd : decide (t.join = 2) = false := decide_eq_false hj
      clear hxr hyr hm htr
      refine Z36 Try.func90 rfl Try.ntmps90 (by simp) (by dsimp only [Try.f90]) ?_
      repeat' (first | ((with_reducible refine eq_go ?_); simp only [stp, ev, ZB, reduceIte, Nat.reduceEqDiff, Z2x, Z13, Zy, binV_bool_neq, binV_bool_eql, Ty.un4, bld, fillL, vcs, splice, Ze, ZH, Z35, ldv, stv, fldA, idxA, blt, lenV, Z10, Zg, Z14, Zw, Z33, Nat.reduceAdd, Nat.reduceMul, Nat.reduceLeDiff, newB, Ty.t3, Ty.t4, Ty.t30, Ty.t32, Ty.t86, Ty.t89, Ty.t95, Ty.t97, ownV, ownL, regV, *]; rfl) | (with_reducible first | refine aw_then ?_ | refine aw_skip ?_ | refine aw_ret ?_ | refine aw_exit ?_ | refine aw_block ?_ | refine xr_reg (by decide +kernel) ?_ | refine xr_nil ?_ | refine k_norm ?_ | refine k_ret ?_ | refine k_exit ?_ | refine b_norm ?_ | refine b_ret ?_ | refine b_exit ?_ | refine b_past (by decide) ?_) | (refine Ty.c99 (args := ?_) (K := ?_) ?_ ?_ ?_; rotate_left 2) | (refine Ty.c100 (args := ?_) (K := ?_) ?_ ?_ ?_; rotate_left 2) | (refine Ty.c101 (args := ?_) (K := ?_) ?_ ?_ ?_; rotate_left 2) | (refine xr_do (v := ?_) (h' := ?_) (by exact rfl) ?_ ?_; rotate_left 2) | (refine xr_st (v := ?_) (h' := ?_) (by exact rfl) ?_ ?_; rotate_left 2) | (refine aw_c (b := ?_) (by decide) ?_ ?_; rotate_left 1; (· simp only [ev, Zb, reduceIte, Nat.reduceEqDiff, *]; rfl)) | (with_reducible first | refine cw_t ?_ | refine cw_f ?_) | refine cw_if (fun hb => ?_) (fun hb => ?_) | (refine r_ret (vs := ?_) ?_ ?_; rotate_left 1; (· simp only [resV, oneOf, stp, ev, ZB, reduceIte, Nat.reduceEqDiff, Z2x, Z13, Zy, binV_bool_neq, binV_bool_eql, Ty.un4, bld, fillL, vcs, splice, Ze, ZH, Z35, ldv, stv, fldA, idxA, blt, lenV, Z10, Zg, Z14, Zw, Z33, Nat.reduceAdd, Nat.reduceMul, Nat.reduceLeDiff, newB, Ty.t3, Ty.t4, Ty.t30, Ty.t32, Ty.t86, Ty.t89, Ty.t95, Ty.t97, ownV, ownL, regV, *]; rfl)) | ((with_reducible refine cloneInts_ok ?_ _ _ ?_ ?_ ?_); rotate_left 1; (· first | assumption | exact Sl.sub ‹_› (by first | assumption | exact Sub.refl _ | exact Sub.app ‹_› _ | exact Sub.app (Sub.refl _) _)); (· first | omega | (simp only [Z2]; omega)); (· assumption)) | ((with_reducible refine setOf_ok _ _ ?_); (· first | omega | (simp only [Z2]; omega))) | ((with_reducible refine regionOf_ok s _ _ I _ ?_ ?_ ?_ ?_ ?_); (· first | assumption | exact Sub.refl _ | exact Sub.app ‹_› _ | exact Sub.app (Sub.refl _) _); (· assumption); (· assumption); (· assumption); (· first | omega | (simp only [Z2]; omega))) | ((with_reducible refine Z2w ?_); rintro _ _ ⟨rfl, hh⟩; replace hh := hh.symm; subst hh))
      refine tr_canon2 (k1 := 5) (k2 := 4) (inn := t.inn) (out := [s.conds + k]) ?_ ?_ (by decide) (.inr rfl) (.inl rfl) <;> rfl
  | false =>
    rw [show trCn t ⟨k, false, pick⟩ = t.cn from rfl]
    rcases h3 with h3 | h3 | h3
    · have d1 : decide (t.split = 2) = false := decide_eq_false (by omega)
      have d2 : decide (t.split = 3) = false := decide_eq_false (by omega)
      have htr : trM s.conds t ⟨k, false, pick⟩ = ⟨[s.conds + k], t.out, regM s.conds t⟩ := by simp [trM, h3]
      rw [htr]
      clear hxr hyr hm htr h3
      refine Z36 Try.func90 rfl Try.ntmps90 (by simp) (by dsimp only [Try.f90]) ?_
      repeat' (first | ((with_reducible refine eq_go ?_); simp only [stp, ev, ZB, reduceIte, Nat.reduceEqDiff, Z2x, Z13, Zy, binV_bool_neq, binV_bool_eql, Ty.un4, bld, fillL, vcs, splice, Ze, ZH, Z35, ldv, stv, fldA, idxA, blt, lenV, Z10, Zg, Z14, Zw, Z33, Nat.reduceAdd, Nat.reduceMul, Nat.reduceLeDiff, newB, Ty.t3, Ty.t4, Ty.t30, Ty.t32, Ty.t86, Ty.t89, Ty.t95, Ty.t97, ownV, ownL, regV, *]; rfl) | (with_reducible first | refine aw_then ?_ | refine aw_skip ?_ | refine aw_ret ?_ | refine aw_exit ?_ | refine aw_block ?_ | refine xr_reg (by decide +kernel) ?_ | refine xr_nil ?_ | refine k_norm ?_ | refine k_ret ?_ | refine k_exit ?_ | refine b_norm ?_ | refine b_ret ?_ | refine b_exit ?_ | refine b_past (by decide) ?_) | (refine Ty.c99 (args := ?_) (K := ?_) ?_ ?_ ?_; rotate_left 2) | (refine Ty.c100 (args := ?_) (K := ?_) ?_ ?_ ?_; rotate_left 2) | (refine Ty.c101 (args := ?_) (K := ?_) ?_ ?_ ?_; rotate_left 2) | (refine xr_do (v := ?_) (h' := ?_) (by exact rfl) ?_ ?_; rotate_left 2) | (refine xr_st (v := ?_) (h' := ?_) (by exact rfl) ?_ ?_; rotate_left 2) | (refine aw_c (b := ?_) (by decide) ?_ ?_; rotate_left 1; (· simp only [ev, Zb, reduceIte, Nat.reduceEqDiff, *]; rfl)) | (with_reducible first | refine cw_t ?_ | refine cw_f ?_) | refine cw_if (fun hb => ?_) (fun hb => ?_) | (refine r_ret (vs := ?_) ?_ ?_; rotate_left 1; (· simp only [resV, oneOf, stp, ev, ZB, reduceIte, Nat.reduceEqDiff, Z2x, Z13, Zy, binV_bool_neq, binV_bool_eql, Ty.un4, bld, fillL, vcs, splice, Ze, ZH, Z35, ldv, stv, fldA, idxA, blt, lenV, Z10, Zg, Z14, Zw, Z33, Nat.reduceAdd, Nat.reduceMul, Nat.reduceLeDiff, newB, Ty.t3, Ty.t4, Ty.t30, Ty.t32, Ty.t86, Ty.t89, Ty.t95, Ty.t97, ownV, ownL, regV, *]; rfl)) | ((with_reducible refine cloneInts_ok ?_ _ _ ?_ ?_ ?_); rotate_left 1; (· first | assumption | exact Sl.sub ‹_› (by first | assumption | exact Sub.refl _ | exact Sub.app ‹_› _ | exact Sub.app (Sub.refl _) _)); (· first | omega | (simp only [Z2]; omega)); (· assumption)) | ((with_reducible refine setOf_ok _ _ ?_); (· first | omega | (simp only [Z2]; omega))) | ((with_reducible refine regionOf_ok s _ _ I _ ?_ ?_ ?_ ?_ ?_); (· first | assumption | exact Sub.refl _ | exact Sub.app ‹_› _ | exact Sub.app (Sub.refl _) _); (· assumption); (· assumption); (· assumption); (· first | omega | (simp only [Z2]; omega))) | ((with_reducible refine Z2w ?_); rintro _ _ ⟨rfl, hh⟩; replace hh := hh.symm; subst hh))
      exact tr_canon3 (X := [_, _, _, _, _, _]) (k1 := 4) (k2 := 5) (inn := [s.conds + k]) (out := t.out) rfl rfl (by decide) (.inl rfl) (.inr rfl) rfl
    · have hp : pick < t.out.length := (hm.2 rfl).1 h3
      obtain ⟨ya, rfl, hyg⟩ := sl_get (e := 1) hyr pick hp
      have hye := fun L => (hI.app L).get hyg
      have hp2 : (pick : Int) < t.out.length := by omega
      have d1 : decide (t.split = 2) = true := decide_eq_true h3
      have htr : trM s.conds t ⟨k, false, pick⟩ = ⟨[s.conds + k], [t.out.getD pick 0], regM s.conds t⟩ := by simp [trM, h3]
      rw [htr]
      generalize t.out.getD pick 0 = yy at *
      clear hxr hyr hm htr h3
      refine Z36 Try.func90 rfl Try.ntmps90 (by simp) (by dsimp only [Try.f90]) ?_
      repeat' (first | ((with_reducible refine eq_go ?_); simp only [stp, ev, ZB, reduceIte, Nat.reduceEqDiff, Z2x, Z13, Zy, binV_bool_neq, binV_bool_eql, Ty.un4, bld, fillL, vcs, splice, Ze, ZH, Z35, ldv, stv, fldA, idxA, blt, lenV, Z10, Zg, Z14, Zw, Z33, Nat.reduceAdd, Nat.reduceMul, Nat.reduceLeDiff, newB, Ty.t3, Ty.t4, Ty.t30, Ty.t32, Ty.t86, Ty.t89, Ty.t95, Ty.t97, ownV, ownL, regV, *]; rfl) | (with_reducible first | refine aw_then ?_ | refine aw_skip ?_ | refine aw_ret ?_ | refine aw_exit ?_ | refine aw_block ?_ | refine xr_reg (by decide +kernel) ?_ | refine xr_nil ?_ | refine k_norm ?_ | refine k_ret ?_ | refine k_exit ?_ | refine b_norm ?_ | refine b_ret ?_ | refine b_exit ?_ | refine b_past (by decide) ?_) | (refine Ty.c99 (args := ?_) (K := ?_) ?_ ?_ ?_; rotate_left 2) | (refine Ty.c100 (args := ?_) (K := ?_) ?_ ?_ ?_; rotate_left 2) | (refine Ty.c101 (args := ?_) (K := ?_) ?_ ?_ ?_; rotate_left 2) | (refine xr_do (v := ?_) (h' := ?_) (by exact rfl) ?_ ?_; rotate_left 2) | (refine xr_st (v := ?_) (h' := ?_) (by exact rfl) ?_ ?_; rotate_left 2) | (refine aw_c (b := ?_) (by decide) ?_ ?_; rotate_left 1; (· simp only [ev, Zb, reduceIte, Nat.reduceEqDiff, *]; rfl)) | (with_reducible first | refine cw_t ?_ | refine cw_f ?_) | refine cw_if (fun hb => ?_) (fun hb => ?_) | (refine r_ret (vs := ?_) ?_ ?_; rotate_left 1; (· simp only [resV, oneOf, stp, ev, ZB, reduceIte, Nat.reduceEqDiff, Z2x, Z13, Zy, binV_bool_neq, binV_bool_eql, Ty.un4, bld, fillL, vcs, splice, Ze, ZH, Z35, ldv, stv, fldA, idxA, blt, lenV, Z10, Zg, Z14, Zw, Z33, Nat.reduceAdd, Nat.reduceMul, Nat.reduceLeDiff, newB, Ty.t3, Ty.t4, Ty.t30, Ty.t32, Ty.t86, Ty.t89, Ty.t95, Ty.t97, ownV, ownL, regV, *]; rfl)) | ((with_reducible refine cloneInts_ok ?_ _ _ ?_ ?_ ?_); rotate_left 1; (· first | assumption | exact Sl.sub ‹_› (by first | assumption | exact Sub.refl _ | exact Sub.app ‹_› _ | exact Sub.app (Sub.refl _) _)); (· first | omega | (simp only [Z2]; omega)); (· assumption)) | ((with_reducible refine setOf_ok _ _ ?_); (· first | omega | (simp only [Z2]; omega))) | ((with_reducible refine regionOf_ok s _ _ I _ ?_ ?_ ?_ ?_ ?_); (· first | assumption | exact Sub.refl _ | exact Sub.app ‹_› _ | exact Sub.app (Sub.refl _) _); (· assumption); (· assumption); (· assumption); (· first | omega | (simp only [Z2]; omega))) | ((with_reducible refine Z2w ?_); rintro _ _ ⟨rfl, hh⟩; replace hh := hh.symm; subst hh))
      exact tr_canon3 (X := [_, _, _, _, _, _, _]) (k1 := 4) (k2 := 6) (inn := [s.conds + k]) (out := [yy]) rfl rfl (by decide) (.inl rfl) (.inl rfl) rfl
    · obtain ⟨p1, p2⟩ : 1 ≤ pick ∧ pick < 2 ^ t.out.length := (hm.2 rfl).2 h3
      have d1 : decide (t.split = 2) = false := decide_eq_false (by omega)
      have d2 : decide (t.split = 3) = true := decide_eq_true h3
      have htr : trM s.conds t ⟨k, false, pick⟩ = ⟨[s.conds + k], someM t.out pick, regM s.conds t⟩ := by simp [trM, h3]
      rw [htr]
      have h7 := pow_le7 o2 p2
      have hset := fun H => setOf_ok pick H h7
      have hbl := bits_lt o2 p2
      have hne := bits_ne p1 h7
      have hsm := someM_ne (l := t.out) p1 h7
      have hb3 : (bitsL pick).length ≤ 3 := bitsK_len pick 3
      have hsucc := someK_succ t.out pick
      have hkl := someK_len t.out pick
      have hall := someK_all t.out pick
      simp only [listV_own hne, listL_own hne, ownV, ownL] at hset
      have hbget : ∀ (H L : Heap) (j : Nat), j < (bitsL pick).length → getC (H ++ ⟨2, 1, (ints (bitsL pick)).flatten⟩ :: L) H.length (j * 1) = some (.int .i64 ((bitsL pick).getD j 0)) := fun H L j hj => by
        have hbs0 := own_sl H (bitsL pick) L
        unfold ownV at hbs0
        obtain ⟨bb, bc, hbe, _, hbr⟩ := hbs0
        rw [ints_length] at hbe
        cases hbe
        obtain ⟨ba, hba, hg⟩ := sl_get (e := 1) hbr j hj
        cases hba
        simpa [ownL] using hg
      generalize bitsL pick = B at *
      clear hxr hm htr h3
      refine Z36 Try.func90 rfl Try.ntmps90 (by simp) (by dsimp only [Try.f90]) ?_
      repeat' (first | ((with_reducible refine eq_go ?_); simp only [stp, ev, ZB, reduceIte, Nat.reduceEqDiff, Z2x, Z13, Zy, binV_bool_neq, binV_bool_eql, Ty.un4, bld, fillL, vcs, splice, Ze, ZH, Z35, ldv, stv, fldA, idxA, blt, lenV, Z10, Zg, Z14, Zw, Z33, Nat.reduceAdd, Nat.reduceMul, Nat.reduceLeDiff, newB, Ty.t3, Ty.t4, Ty.t30, Ty.t32, Ty.t86, Ty.t89, Ty.t95, Ty.t97, ownV, ownL, regV, *]; rfl) | (with_reducible first | refine aw_then ?_ | refine aw_skip ?_ | refine aw_ret ?_ | refine aw_exit ?_ | refine aw_block ?_ | refine xr_reg (by decide +kernel) ?_ | refine xr_nil ?_ | refine k_norm ?_ | refine k_ret ?_ | refine k_exit ?_ | refine b_norm ?_ | refine b_ret ?_ | refine b_exit ?_ | refine b_past (by decide) ?_) | (refine Ty.c99 (args := ?_) (K := ?_) ?_ ?_ ?_; rotate_left 2) | (refine Ty.c100 (args := ?_) (K := ?_) ?_ ?_ ?_; rotate_left 2) | (refine Ty.c101 (args := ?_) (K := ?_) ?_ ?_ ?_; rotate_left 2) | (refine xr_do (v := ?_) (h' := ?_) (by exact rfl) ?_ ?_; rotate_left 2) | (refine xr_st (v := ?_) (h' := ?_) (by exact rfl) ?_ ?_; rotate_left 2) | (refine aw_c (b := ?_) (by decide) ?_ ?_; rotate_left 1; (· simp only [ev, Zb, reduceIte, Nat.reduceEqDiff, *]; rfl)) | (with_reducible first | refine cw_t ?_ | refine cw_f ?_) | refine cw_if (fun hb => ?_) (fun hb => ?_) | (refine r_ret (vs := ?_) ?_ ?_; rotate_left 1; (· simp only [resV, oneOf, stp, ev, ZB, reduceIte, Nat.reduceEqDiff, Z2x, Z13, Zy, binV_bool_neq, binV_bool_eql, Ty.un4, bld, fillL, vcs, splice, Ze, ZH, Z35, ldv, stv, fldA, idxA, blt, lenV, Z10, Zg, Z14, Zw, Z33, Nat.reduceAdd, Nat.reduceMul, Nat.reduceLeDiff, newB, Ty.t3, Ty.t4, Ty.t30, Ty.t32, Ty.t86, Ty.t89, Ty.t95, Ty.t97, ownV, ownL, regV, *]; rfl)) | ((with_reducible refine cloneInts_ok ?_ _ _ ?_ ?_ ?_); rotate_left 1; (· first | assumption | exact Sl.sub ‹_› (by first | assumption | exact Sub.refl _ | exact Sub.app ‹_› _ | exact Sub.app (Sub.refl _) _)); (· first | omega | (simp only [Z2]; omega)); (· assumption)) | (with_reducible exact hset _) | ((with_reducible refine regionOf_ok s _ _ I _ ?_ ?_ ?_ ?_ ?_); (· first | assumption | exact Sub.refl _ | exact Sub.app ‹_› _ | exact Sub.app (Sub.refl _) _); (· assumption); (· assumption); (· assumption); (· first | omega | (simp only [Z2]; omega))) | ((with_reducible refine Z2w ?_); rintro _ _ ⟨rfl, hh⟩; replace hh := hh.symm; subst hh))
      refine aw_for [2, 3, 4, 5, 6, 59, 60] (fun j T h' => ∃ L, h' = h ++ ⟨2, 1, [.int .i64 s.conds, .slice (some a) s.tasks.length c]⟩ :: ⟨2, 1, [.int .i64 k, .bool false, .int .i64 pick]⟩ :: ⟨2, 1, [.slice none 0 0, .slice none 0 0, .slice none 0 0]⟩ ::
          ⟨2, 1, [.int .i64 t.join, .int .i64 t.split, .slice x1 t.inn.length x2, .slice y1 t.out.length y2, z, w, .int .i64 t.role]⟩ :: ⟨2, 1, [.int .i64 (s.conds + k)]⟩ :: ⟨2, 1, (ints t.out).flatten⟩ :: ⟨2, 1, (ints B).flatten⟩ :: L ∧ T 61 = .int .i64 j ∧
          App (h.length + 7) L (T 7) 1 (ints (someK t.out pick j)).flatten (someK t.out pick j).length) B.length (k0 := 0) (Nat.zero_le _) ⟨[], rfl, rfl, App.nil _ _ _⟩ ?_
      rintro j T h' hj hR ⟨L, rfl, h61, hap⟩
      simp only [Z37, Z38, Z39, implies_true, and_true, stp, ev, ZB, reduceIte, Nat.reduceEqDiff, Z2x, Z13, Zy] at hR
      have hkn := hkl j hj
      rcases Nat.lt_or_ge j B.length with hjb | hjb
      · have h2 : (j : Int) < B.length := by omega
        have hsn := hsucc j hjb
        have hbg : ∀ L : Heap, getC (h ++ ⟨2, 1, [.int .i64 s.conds, .slice (some a) s.tasks.length c]⟩ :: ⟨2, 1, [.int .i64 k, .bool false, .int .i64 pick]⟩ :: ⟨2, 1, [.slice none 0 0, .slice none 0 0, .slice none 0 0]⟩ ::
          ⟨2, 1, [.int .i64 t.join, .int .i64 t.split, .slice x1 t.inn.length x2, .slice y1 t.out.length y2, z, w, .int .i64 t.role]⟩ :: ⟨2, 1, [.int .i64 (s.conds + k)]⟩ :: ⟨2, 1, (ints t.out).flatten⟩ :: ⟨2, 1, (ints B).flatten⟩ :: L) (h.length + 6) (j * 1) = some (.int .i64 (B.getD j 0)) := fun L => by
          have := hbget (h ++ [⟨2, 1, [.int .i64 s.conds, .slice (some a) s.tasks.length c]⟩, ⟨2, 1, [.int .i64 k, .bool false, .int .i64 pick]⟩, ⟨2, 1, [.slice none 0 0, .slice none 0 0, .slice none 0 0]⟩,
            ⟨2, 1, [.int .i64 t.join, .int .i64 t.split, .slice x1 t.inn.length x2, .slice y1 t.out.length y2, z, w, .int .i64 t.role]⟩, ⟨2, 1, [.int .i64 (s.conds + k)]⟩, ⟨2, 1, (ints t.out).flatten⟩]) L j hjb
          simpa using this
        have hx := hbl (B.getD j 0) (by rw [List.getD_eq_getElem?_getD, List.getElem?_eq_getElem hjb]; exact List.getElem_mem hjb)
        generalize B.getD j 0 = i at *
        obtain ⟨i, rfl⟩ := Int.eq_ofNat_of_zero_le hx.1
        have hil : i < t.out.length := by omega
        obtain ⟨la, rfl, hlg⟩ := sl_get (e := 1) hyr i hil
        have hle := fun L => (hI.app L).get hlg
        have h3 : (i : Int) < t.out.length := by omega
        simp only [Zq] at hsn
        generalize t.out.getD i 0 = xx at *
        obtain ⟨v', L', hap', happ⟩ := app_step (h2 := h ++ [⟨2, 1, [.int .i64 s.conds, .slice (some a) s.tasks.length c]⟩, ⟨2, 1, [.int .i64 k, .bool false, .int .i64 pick]⟩, ⟨2, 1, [.slice none 0 0, .slice none 0 0, .slice none 0 0]⟩,
            ⟨2, 1, [.int .i64 t.join, .int .i64 t.split, .slice x1 t.inn.length x2, .slice (some la) t.out.length y2, z, w, .int .i64 t.role]⟩, ⟨2, 1, [.int .i64 (s.conds + k)]⟩, ⟨2, 1, (ints t.out).flatten⟩, ⟨2, 1, (ints B).flatten⟩]) (L := L) (E := [⟨2, 1, [.int .i64 xx]⟩]) (j := 0) (ix := h.length + (L.length + 7)) Ty.sl86 Ty.zc3 Ty.by3 (hap.cast (by simp) rfl rfl rfl rfl) rfl rfl (by simp; omega) (by omega) (by omega)
        simp only [Z7, Zc, Zd, Z6, Z3, Z2, Zf, Zh, Nat.reduceAdd] at hap' happ
        clear hyr hbget hset
        repeat' (first | ((with_reducible refine eq_go ?_); simp only [stp, ev, ZB, reduceIte, Nat.reduceEqDiff, Z2x, Z13, Zy, binV_bool_neq, binV_bool_eql, Ty.un4, bld, fillL, vcs, splice, Ze, ZH, Z35, ldv, stv, fldA, idxA, blt, lenV, Z10, Zg, Z14, Zw, Z33, Nat.reduceAdd, Nat.reduceMul, Nat.reduceLeDiff, newB, Ty.t3, Ty.t4, Ty.t30, Ty.t32, Ty.t86, Ty.t89, Ty.t95, Ty.t97, ownV, ownL, regV, *]; rfl) | (with_reducible first | refine aw_then ?_ | refine aw_skip ?_ | refine aw_ret ?_ | refine aw_exit ?_ | refine aw_block ?_ | refine xr_reg (by decide +kernel) ?_ | refine xr_nil ?_ | refine k_norm ?_ | refine k_ret ?_ | refine k_exit ?_ | refine b_norm ?_ | refine b_ret ?_ | refine b_exit ?_ | refine b_past (by decide) ?_) | (refine Ty.c99 (args := ?_) (K := ?_) ?_ ?_ ?_; rotate_left 2) | (refine Ty.c100 (args := ?_) (K := ?_) ?_ ?_ ?_; rotate_left 2) | (refine Ty.c101 (args := ?_) (K := ?_) ?_ ?_ ?_; rotate_left 2) | (refine xr_do (v := ?_) (h' := ?_) (by exact rfl) ?_ ?_; rotate_left 2) | (refine xr_st (v := ?_) (h' := ?_) (by exact rfl) ?_ ?_; rotate_left 2) | (refine aw_c (b := ?_) (by decide) ?_ ?_; rotate_left 1; (· simp only [ev, Zb, reduceIte, Nat.reduceEqDiff, *]; rfl)) | (with_reducible first | refine cw_t ?_ | refine cw_f ?_) | refine cw_if (fun hb => ?_) (fun hb => ?_) | (refine r_ret (vs := ?_) ?_ ?_; rotate_left 1; (· simp only [resV, oneOf, stp, ev, ZB, reduceIte, Nat.reduceEqDiff, Z2x, Z13, Zy, binV_bool_neq, binV_bool_eql, Ty.un4, bld, fillL, vcs, splice, Ze, ZH, Z35, ldv, stv, fldA, idxA, blt, lenV, Z10, Zg, Z14, Zw, Z33, Nat.reduceAdd, Nat.reduceMul, Nat.reduceLeDiff, newB, Ty.t3, Ty.t4, Ty.t30, Ty.t32, Ty.t86, Ty.t89, Ty.t95, Ty.t97, ownV, ownL, regV, *]; rfl)) | ((with_reducible refine cloneInts_ok ?_ _ _ ?_ ?_ ?_); rotate_left 1; (· first | assumption | exact Sl.sub ‹_› (by first | assumption | exact Sub.refl _ | exact Sub.app ‹_› _ | exact Sub.app (Sub.refl _) _)); (· first | omega | (simp only [Z2]; omega)); (· assumption)) | (with_reducible exact hset _) | ((with_reducible refine regionOf_ok s _ _ I _ ?_ ?_ ?_ ?_ ?_); (· first | assumption | exact Sub.refl _ | exact Sub.app ‹_› _ | exact Sub.app (Sub.refl _) _); (· assumption); (· assumption); (· assumption); (· first | omega | (simp only [Z2]; omega))) | ((with_reducible refine Z2w ?_); rintro _ _ ⟨rfl, hh⟩; replace hh := hh.symm; subst hh))
        refine ⟨by first | assumption | omega, ?_, ?_⟩
        · simp only [Z37, Z38, Z39, implies_true, and_true, ZB, stp, ev, reduceIte, Nat.reduceEqDiff, Z2x, Z13, Zy, *]
        refine ⟨_, rfl, ?_, ?_⟩
        · simp only [Zb, reduceIte, Nat.reduceEqDiff]
          rw [wrap_id (by omega)]; rfl
        · simp only [Zb, reduceIte, Nat.reduceEqDiff]
          rw [hsn]
          refine happ.cast rfl rfl rfl ?_ ?_
          · simp [ints]
          · simp
      · have h2 : ¬ (j : Int) < B.length := by omega
        obtain rfl : j = B.length := by omega
        clear hyr hbget hset
        rw [hall] at hap
        obtain ⟨hcl, k2, hv, hb⟩ := AppO.of_app hap (fun q => hsm (List.length_eq_zero_iff.1 q))
        repeat' (first | ((with_reducible refine eq_go ?_); simp only [stp, ev, ZB, reduceIte, Nat.reduceEqDiff, Z2x, Z13, Zy, binV_bool_neq, binV_bool_eql, Ty.un4, bld, fillL, vcs, splice, Ze, ZH, Z35, ldv, stv, fldA, idxA, blt, lenV, Z10, Zg, Z14, Zw, Z33, Nat.reduceAdd, Nat.reduceMul, Nat.reduceLeDiff, newB, Ty.t3, Ty.t4, Ty.t30, Ty.t32, Ty.t86, Ty.t89, Ty.t95, Ty.t97, ownV, ownL, regV, *]; rfl) | (with_reducible first | refine aw_then ?_ | refine aw_skip ?_ | refine aw_ret ?_ | refine aw_exit ?_ | refine aw_block ?_ | refine xr_reg (by decide +kernel) ?_ | refine xr_nil ?_ | refine k_norm ?_ | refine k_ret ?_ | refine k_exit ?_ | refine b_norm ?_ | refine b_ret ?_ | refine b_exit ?_ | refine b_past (by decide) ?_) | (refine Ty.c99 (args := ?_) (K := ?_) ?_ ?_ ?_; rotate_left 2) | (refine Ty.c100 (args := ?_) (K := ?_) ?_ ?_ ?_; rotate_left 2) | (refine Ty.c101 (args := ?_) (K := ?_) ?_ ?_ ?_; rotate_left 2) | (refine xr_do (v := ?_) (h' := ?_) (by exact rfl) ?_ ?_; rotate_left 2) | (refine xr_st (v := ?_) (h' := ?_) (by exact rfl) ?_ ?_; rotate_left 2) | (refine aw_c (b := ?_) (by decide) ?_ ?_; rotate_left 1; (· simp only [ev, Zb, reduceIte, Nat.reduceEqDiff, *]; rfl)) | (with_reducible first | refine cw_t ?_ | refine cw_f ?_) | refine cw_if (fun hb => ?_) (fun hb => ?_) | (refine r_ret (vs := ?_) ?_ ?_; rotate_left 1; (· simp only [resV, oneOf, stp, ev, ZB, reduceIte, Nat.reduceEqDiff, Z2x, Z13, Zy, binV_bool_neq, binV_bool_eql, Ty.un4, bld, fillL, vcs, splice, Ze, ZH, Z35, ldv, stv, fldA, idxA, blt, lenV, Z10, Zg, Z14, Zw, Z33, Nat.reduceAdd, Nat.reduceMul, Nat.reduceLeDiff, newB, Ty.t3, Ty.t4, Ty.t30, Ty.t32, Ty.t86, Ty.t89, Ty.t95, Ty.t97, ownV, ownL, regV, *]; rfl)) | ((with_reducible refine cloneInts_ok ?_ _ _ ?_ ?_ ?_); rotate_left 1; (· first | assumption | exact Sl.sub ‹_› (by first | assumption | exact Sub.refl _ | exact Sub.app ‹_› _ | exact Sub.app (Sub.refl _) _)); (· first | omega | (simp only [Z2]; omega)); (· assumption)) | (with_reducible exact hset _) | ((with_reducible refine regionOf_ok s _ _ I _ ?_ ?_ ?_ ?_ ?_); (· first | assumption | exact Sub.refl _ | exact Sub.app ‹_› _ | exact Sub.app (Sub.refl _) _); (· assumption); (· assumption); (· assumption); (· first | omega | (simp only [Z2]; omega))) | ((with_reducible refine Z2w ?_); rintro _ _ ⟨rfl, hh⟩; replace hh := hh.symm; subst hh))
        rw [Nat.add_comm 7 k2]
        exact tr_canon3 (X := _ :: _ :: _ :: _ :: _ :: _ :: _ :: L) (k1 := 4) (k2 := k2 + 7) (inn := [s.conds + k]) (out := someM t.out pick) rfl hb (by omega) (.inl rfl) (.inr rfl) (by simp)
end Go.Proofs.Ytmjhfklmlcnofaa.Am
