/- Walk of a play on a desk, in the program. Conditions: none. -/
import Derived.Test.YtiddnhhjlipebaaK3
import Derived.Test.YtiddnhhjlipebaaQ1
import Derived.Test.YtiddnhhjlipebaaTy2
namespace Go.Proofs.Ytiddnhhjlipebaa.Am
open Go Go.Proofs
set_option linter.unusedVariables false
set_option linter.unusedSimpArgs false
set_option maxRecDepth 100000
set_option maxHeartbeats 8000000

/-- Codes so far, zeros behind. -/
def codesC (cs : List Int) (m : Nat) : List Value := cs.map (.int .i64) ++ List.replicate m (.int .i64 0)
theorem codesC_set {cs : List Int} {k n : Nat} (hk : cs.length = k) (hn : k < n) (c : Int) : (codesC cs (n - k)).set k (.int .i64 c) = codesC (cs ++ [c]) (n - (k + 1)) := by
  unfold codesC
  rw [List.set_append_right _ _ (by simp; omega), Zv, hk, Nat.sub_self, show n - k = (n - (k + 1)) + 1 from by omega, List.replicate_succ]
  simp
theorem codesC_len (cs : List Int) (m : Nat) : (codesC cs m).length = cs.length + m := by simp [codesC]
theorem codesC_zero (n : Nat) : zeros [.int .i64 0] n = codesC [] n := by rw [zeros_one]; rfl
theorem codesC_all (cs : List Int) : codesC cs 0 = (ints cs).flatten := by
  simp only [codesC, List.replicate_zero, Zx]
  induction cs with
  | nil => rfl
  | cons c cs ih => simp only [Z16, List.flatten_cons, ints]; rw [ih]; rfl

/-- Where the items of a play lie. -/
def ItAt (n : Nat) (X : Heap) (vi : Value) (items : List Item) : Prop :=
  (items = [] ∧ vi = .slice none 0 0) ∨ (items ≠ [] ∧ ∃ j, X[j]? = some ⟨2, 6, cellsL items⟩ ∧ vi = .slice (some ⟨n + (j + 4), 0, some 0⟩) items.length items.length)
theorem ItAt.flat {n : Nat} {X : Heap} {vi : Value} {items : List Item} (h : ItAt n X vi items) : Am.flat vi = true := by
  rcases h with ⟨_, rfl⟩ | ⟨_, j, _, rfl⟩ <;> rfl
theorem itV_flat (n : Nat) (items : List Item) : Am.flat (itV n items) = true := by unfold itV; split <;> rfl
theorem itAt_new {n : Nat} {X : Heap} {items : List Item} : ItAt n (X ++ itL items) (itV (n + (X.length + 4)) items) items := by
  by_cases h : items = []
  · exact .inl ⟨h, by simp [itV, h]⟩
  · refine .inr ⟨h, X.length, ?_, by simp [itV, h]⟩
    simp [itL, h]
theorem stepItems_ne {now : Int} {people : List Int} {items : List Item} {a : DAct} (h : items ≠ []) : stepItems now people items a ≠ [] := by
  unfold stepItems
  have : ∀ (i : Nat) (y : Item), items.set i y ≠ [] := fun i y q => h (by have := congrArg List.length q; simp at this; exact this)
  split
  · exact h
  split
  · split
    · exact h
    · simp
  split
  · split
    · exact h
    · simpa using h
  split
  · exact this _ _
  · exact h

def playDkV (n : Nat) (people : List Int) (l : List DAct) : Value :=
  if peopleOk people && decide ((l.length : Int) ≤ 60) then .tuple #[.agg #[.int .i64 (playA people l).1, .slice (some ⟨n, 0, some 0⟩) people.length people.length, itV (n + 2) (playA people l).2.1], .slice (some ⟨n + 1, 0, some 0⟩) l.length l.length, .bool true]
  else .tuple #[.agg #[.int .i64 0, .slice none 0 0, .slice none 0 0], .slice none 0 0, .bool false]
def playDkL (people : List Int) (l : List DAct) : Heap :=
  if peopleOk people && decide ((l.length : Int) ≤ 60) then [⟨2, 1, (ints people).flatten⟩, ⟨2, 1, (ints (playA people l).2.2).flatten⟩] ++ itL (playA people l).2.1 else []

theorem deskOk_nil (people : List Int) : deskOk 0 people [] = peopleOk people := by simp [deskOk, peopleOk]
theorem peopleOk_len {people : List Int} (h : peopleOk people = true) : 1 ≤ people.length ∧ people.length ≤ 6 := by
  simp only [peopleOk, Bool.and_eq_true, decide_eq_true_eq] at h; omega

theorem play_keep {h X : Heap} {people : List Int} {items : List Item} {codes : List Int} {now : Int} {vi : Value} {n : Nat} (hn : codes.length = n) (hit : ItAt h.length X vi items) (Z D : Blk) :
    ∃ (L' : Heap) (ks : List Nat), h ++ (Z :: ⟨2, 1, (ints people).flatten⟩ :: D :: ⟨2, 1, (ints codes).flatten⟩ :: X) = h ++ L' ∧ Inj ks ∧ ks.length = ([(⟨2, 1, (ints people).flatten⟩ : Blk), ⟨2, 1, (ints codes).flatten⟩] ++ itL items).length ∧
      BsOk ([⟨2, 1, (ints people).flatten⟩, ⟨2, 1, (ints codes).flatten⟩] ++ itL items) L' ks ∧
      RV h.length L' ks (.tuple #[.agg #[.int .i64 now, .slice (some ⟨h.length, 0, some 0⟩) people.length people.length, itV (h.length + 2) items], .slice (some ⟨h.length + 1, 0, some 0⟩) n n, .bool true])
        (.tuple #[.agg #[.int .i64 now, .slice (some ⟨h.length + 1, 0, some 0⟩) people.length people.length, vi], .slice (some ⟨h.length + 3, 0, none⟩) n n, .bool true]) := by
  subst hn
  rcases hit with ⟨rfl, rfl⟩ | ⟨hne, j, hj, rfl⟩
  · refine ⟨_, [1, 3], rfl, Inj.two (by decide), rfl, BsOk.cons rfl (ints_af _) rfl (BsOk.cons rfl (ints_af _) rfl (BsOk.nil _ _)), ?_⟩
    exact RVl.tuple (l := [_, _, _]) (l' := [_, _, _]) ⟨RVl.agg (l := [_, _, _]) (l' := [_, _, _]) ⟨.plain _ rfl, .sl 0 1 _ _ 1 _ _ rfl rfl (ints_flen _) (Z4 _) (.inr rfl), .plain _ rfl, trivial⟩, .sl 1 3 _ _ 1 _ _ rfl rfl (ints_flen _) (Z4 _) (.inl ⟨rfl, rfl⟩), .plain _ rfl, trivial⟩
  · simp only [itL, itV, if_neg hne]
    refine ⟨_, [1, 3, j + 4], rfl, Inj.three (by decide) (by omega) (by omega), rfl, BsOk.cons rfl (ints_af _) rfl (BsOk.cons rfl (ints_af _) rfl (BsOk.cons rfl (cellsL_af _) (by simpa using hj) (BsOk.nil _ _))), ?_⟩
    exact RVl.tuple (l := [_, _, _]) (l' := [_, _, _]) ⟨RVl.agg (l := [_, _, _]) (l' := [_, _, _]) ⟨.plain _ rfl, .sl 0 1 _ _ 1 _ _ rfl rfl (ints_flen _) (Z4 _) (.inr rfl), .sl 2 (j + 4) _ _ 6 _ _ rfl (by simpa using hj) (cellsL_len _) (Z4 _) (.inr rfl), trivial⟩,
      .sl 1 3 _ _ 1 _ _ rfl rfl (ints_flen _) (Z4 _) (.inl ⟨rfl, rfl⟩), .plain _ rfl, trivial⟩
theorem play_none {h L : Heap} : ∃ (L' : Heap) (ks : List Nat), h ++ L = h ++ L' ∧ Inj ks ∧ ks.length = ([] : Heap).length ∧ BsOk [] L' ks ∧
      RV h.length L' ks (.tuple #[.agg #[.int .i64 0, .slice none 0 0, .slice none 0 0], .slice none 0 0, .bool false]) (.tuple #[.agg #[.int .i64 0, .slice none 0 0, .slice none 0 0], .slice none 0 0, .bool false]) :=
  ⟨L, [], rfl, Inj.nil, rfl, BsOk.nil _ _, RVl.tuple (l := [_, _, _]) (l' := [_, _, _]) ⟨RVl.agg (l := [_, _, _]) (l' := [_, _, _]) ⟨.plain _ rfl, .plain _ rfl, .plain _ rfl, trivial⟩, .plain _ rfl, .plain _ rfl, trivial⟩⟩

theorem play_sl1 {h : Heap} {people : List Int} (A D C b : Blk) (Y X : Heap) (j : Nat) : Sl ((h ++ A :: ⟨2, 1, (ints people).flatten⟩ :: D :: C :: Y).set (h.length + (j + 4)) b ++ X) (.slice (some ⟨h.length + 1, 0, some 0⟩) people.length people.length) 1 (ints people) := by
  rw [Z1y, Z7]
  exact sl_ints (h := h) (k := 1) (Z4 _) (by simp)
theorem play_get {h X : Heap} {j : Nat} {b : Blk} (hj : X[j]? = some b) (A B C D : Blk) (Y : Heap) : (h ++ A :: B :: C :: D :: (X ++ Y))[h.length + (j + 4)]? = some b := by
  rw [get_at]; simp only [Z0]; exact get_old hj

theorem implPlayDesk_ok (people : List Int) (l : List DAct) (ap : Addr) (c : Nat) (vl : Value) (h : Heap) (hp : Sl h (.slice (some ap) people.length c) 1 (ints people)) (hs : Sl h vl 8 (l.map DAct.cells)) (hl : people.length ≤ 1048576) (hll : l.length ≤ 1048576) :
    ACalls Try.prog 0 56 #[.slice (some ap) people.length c, vl] h fun v h' => v = playDkV h.length people l ∧ h' = h ++ playDkL people l := by
  refine acalls_canon _ _ ?_
  have hf := hs.flat
  obtain ⟨bl, cl, rfl, hcl, hrow⟩ := id hs
  simp only [Zv] at hf hcl hs ⊢
  have hdn := deskOk_nil people
  rcases Bool.eq_false_or_eq_true (peopleOk people) with hk | hk
  · by_cases h60 : (l.length : Int) ≤ 60
    · have h60' : decide (60 < (l.length : Int)) = false := decide_eq_false (by omega)
      simp only [playDkV, playDkL, hk, decide_eq_true h60, Z1e, Z2x]
      have hmk : mkS Try.prog 24 (h ++ [⟨2, 1, [.int .i64 0, .slice none 0 0, .slice none 0 0]⟩, ⟨2, 1, (ints people).flatten⟩, ⟨2, 1, [.int .i64 0, .slice (some ⟨h.length + 1, 0, some 0⟩) people.length people.length, .slice none 0 0]⟩]) (.int .i64 l.length) (.int .i64 l.length) = _ := mkS_eq Ty.sl24 Ty.zc3 Ty.by3 (n := l.length) (by omega) (by omega)
      refine Z36 Try.func56 rfl Try.ntmps56 (by simp) (by dsimp only [Try.f56]) ?_
      repeat' (first
        | ((with_reducible refine eq_go ?_); simp only [stp, ev, Zb, Z2e, Z1z, Zk, Zl, reduceIte, Nat.reduceEqDiff, Zj, Zz, Zu, Z16, Z1a, Zm, Zp, Zo, Zd, Zx, Z2b, Z2x, Z1g, Z17, Zq, Zn, Zv, Z2p, Z2f, Z2o, Z2d, Z2g, Z1c, Z1b, Z2i, Z2n, Z2h, Z2j, Z2k, Z2l, Z2m, Z31, Z8, Z5, Z13, Zy, bld, fillL, vcs, splice, Ze, Z1, Z0, Z35, Ze, Z1, Z0, ldv, stv, vcs, idxA, blt, lenV, Z10, Z3, Z2, Zf, Zg, Ze, Z1, Z0, Z14, Zw, Zh, Zr, Z33, Z15, Z7, Zc, Z6, Z3, Z2, Zf, Zi, Nat.reduceAdd, Nat.reduceMul, Nat.reduceLeDiff, Z11, Z12, Z1y, Z1h, Z2c, Z23, Z28, Z27, Z26, Z25, Z24, Z1m, Z1l, Z1k, Z1j, Z1i, Z1w, Z1v, Z1u, Z1t, Z1s, Z32, Z2y, Z2q, Z2r, Z2s, Z20, Z1q, Z1r, Z2z, Z2t, Z21, Z22, splice, Za, Z9, Z1, Z0, Z19, Zt, Zs, Z18, newB, vcs, Z30, Z2v, Z1x, Z29, Z1n, Z2u, Z1o, Z1f, Z1p, Z1d, Z1e, Ty.ld3, Ty.sz3, Ty.zc3, Ty.by3, Ty.ld24, Ty.sz24, Ty.sl24, Ty.zc24, Ty.by24, Ty.ld56, Ty.sz56, Ty.sl56, Ty.zc56, Ty.by56, Ty.ld58, Ty.sz58, Ty.zc58, Ty.by58, Ty.pl58, Ty.ld71, Ty.sz71, Ty.sl71, Ty.zc71, Ty.by71, Ty.ld77, Ty.sz77, Ty.zc77, Ty.by77, Ty.pl77, Ty.ld80, Ty.sz80, Ty.zc80, Ty.by80, Ty.pl80, DAct.cells_length, DAct.cells_flat, DAct.cells_take, DAct.cells_splice, *]; rfl)
        | (with_reducible refine aw_then ?_) | (with_reducible refine aw_skip ?_) | (with_reducible refine aw_ret ?_) | (with_reducible refine aw_exit ?_) | (with_reducible refine aw_block ?_) | (with_reducible refine xr_reg (by decide +kernel) ?_)
        | (with_reducible refine xr_nil ?_) | (with_reducible refine k_norm ?_) | (with_reducible refine k_ret ?_) | (with_reducible refine k_exit ?_) | (with_reducible refine b_norm ?_) | (with_reducible refine b_ret ?_) | (with_reducible refine b_exit ?_) | (with_reducible refine b_past (by decide) ?_)
        | (refine xr_cl (f := ?_) (fs := ?_) (cs := ?_) (args := ?_) (K := ?_) ?_ ?_ ?_ ?_ ?_
           rotate_left 5
           · simp only [ev]; rfl
           first
           | (· with_reducible exact Ty.ok94
              rotate_left 2
              refine Z2a 94 ?_
              rotate_right 2)
           | (· with_reducible exact Ty.ok101
              rotate_left 2
              refine Z2a 101 ?_
              rotate_right 2)
           )
        | (refine xr_gcl (f := ?_) (fs := ?_) (cs := ?_) (args := ?_) (K := ?_) (by exact rfl) ?_ ?_ ?_ ?_ ?_ ?_
           rotate_left 5
           · simp only [ev, Zb, reduceIte, Nat.reduceEqDiff, Z8, Z5, *]
           · simp only [ev]; rfl
           first
           | (· with_reducible exact Ty.ok94
              rotate_left 2
              refine Z2a 94 ?_
              rotate_right 2)
           | (· with_reducible exact Ty.ok101
              rotate_left 2
              refine Z2a 101 ?_
              rotate_right 2)
           )
        | (refine xr_do (v := ?_) (h' := ?_) (by exact rfl) ?_ ?_; rotate_left 2)
        | (refine xr_st (v := ?_) (h' := ?_) (by exact rfl) ?_ ?_; rotate_left 2)
        | (refine xr_gdo (v := ?_) (h' := ?_) (by exact rfl) (by exact rfl) ?_ ?_ ?_
           rotate_left 2
           · simp only [ev, Zb, reduceIte, Nat.reduceEqDiff, Z8, Z5, *])
        | (refine xr_gst (v := ?_) (h' := ?_) (by exact rfl) (by exact rfl) ?_ ?_ ?_
           rotate_left 2
           · simp only [ev, Zb, reduceIte, Nat.reduceEqDiff, Z8, Z5, *])
        | (refine xr_goff (by exact rfl) ?_ ?_
           · simp only [ev, Zb, reduceIte, Nat.reduceEqDiff, Z8, Z5, *])
        | (refine xr_gsoff (by exact rfl) ?_ ?_
           · simp only [ev, Zb, reduceIte, Nat.reduceEqDiff, Z8, Z5, *])
        | (refine xr_gund (by exact rfl) ?_ ?_
           · simp only [ev, Zb, reduceIte, Nat.reduceEqDiff, Z8, Z5, *])
        | (refine xr_gsund (by exact rfl) ?_ ?_
           · simp only [ev, Zb, reduceIte, Nat.reduceEqDiff, Z8, Z5, *])
        | (refine xr_gif (b := ?_) (by exact rfl) ?_ (fun hb => ?_) (fun hb => ?_)
           rotate_left 1
           · simp only [ev, Zb, reduceIte, Nat.reduceEqDiff, Z8, Z5, *]; rfl)
        | (refine aw_ift (by decide) ?_ ?_
           · simp only [ev, Zb, reduceIte, Nat.reduceEqDiff, *])
        | (refine aw_iff (by decide) ?_ ?_
           · simp only [ev, Zb, reduceIte, Nat.reduceEqDiff, *])
        | (refine aw_if (b := ?_) (by decide) ?_ (fun hb => ?_) (fun hb => ?_)
           rotate_left 1
           · simp only [ev, Zb, reduceIte, Nat.reduceEqDiff, *]; rfl)
        | (refine r_ret (vs := ?_) ?_ ?_
           rotate_left 1
           · simp only [resV, oneOf, stp, ev, Zb, Z2e, Z1z, Zk, Zl, reduceIte, Nat.reduceEqDiff, Zj, Zz, Zu, Z16, Z1a, Zm, Zp, Zo, Zd, Zx, Z2b, Z2x, Z1g, Z17, Zq, Zn, Zv, Z2p, Z2f, Z2o, Z2d, Z2g, Z1c, Z1b, Z2i, Z2n, Z2h, Z2j, Z2k, Z2l, Z2m, Z31, Z8, Z5, Z13, Zy, bld, fillL, vcs, splice, Ze, Z1, Z0, Z35, Ze, Z1, Z0, ldv, stv, vcs, idxA, blt, lenV, Z10, Z3, Z2, Zf, Zg, Ze, Z1, Z0, Z14, Zw, Zh, Zr, Z33, Z15, Z7, Zc, Z6, Z3, Z2, Zf, Zi, Nat.reduceAdd, Nat.reduceMul, Nat.reduceLeDiff, Z11, Z12, Z1y, Z1h, Z2c, Z23, Z28, Z27, Z26, Z25, Z24, Z1m, Z1l, Z1k, Z1j, Z1i, Z1w, Z1v, Z1u, Z1t, Z1s, Z32, Z2y, Z2q, Z2r, Z2s, Z20, Z1q, Z1r, Z2z, Z2t, Z21, Z22, splice, Za, Z9, Z1, Z0, Z19, Zt, Zs, Z18, newB, vcs, Z30, Z2v, Z1x, Z29, Z1n, Z2u, Z1o, Z1f, Z1p, Z1d, Z1e, Ty.ld3, Ty.sz3, Ty.zc3, Ty.by3, Ty.ld24, Ty.sz24, Ty.sl24, Ty.zc24, Ty.by24, Ty.ld56, Ty.sz56, Ty.sl56, Ty.zc56, Ty.by56, Ty.ld58, Ty.sz58, Ty.zc58, Ty.by58, Ty.pl58, Ty.ld71, Ty.sz71, Ty.sl71, Ty.zc71, Ty.by71, Ty.ld77, Ty.sz77, Ty.zc77, Ty.by77, Ty.pl77, Ty.ld80, Ty.sz80, Ty.zc80, Ty.by80, Ty.pl80, DAct.cells_length, DAct.cells_flat, DAct.cells_take, DAct.cells_splice, *]; rfl)
        | (with_reducible refine isDesk_ok _ people [] _ _ _ ?_ ?_ ?_ ?_
           · first | assumption | exact Sl.old (by assumption) _ | ((try (simp only [deskV, deskL, Z11, Z12, Z1y, Z1h, Za, Z9, Z7, Zc, Zd, Z6, Z3, Z2, Zf, Zi, Nat.reduceAdd, Zh])); first | exact Sl.old (by assumption) _ | exact sl_nilints | exact sl_nilitems | (refine sl_ints (Z4 _) ?_; exact rfl) | (refine sl_items (Z4 _) ?_; exact rfl) | (refine sl_ints0 (Z4 _) ?_; exact rfl) | (refine sl_items0 (Z4 _) ?_; exact rfl))
           · first | assumption | exact Sl.old (by assumption) _ | ((try (simp only [deskV, deskL, Z11, Z12, Z1y, Z1h, Za, Z9, Z7, Zc, Zd, Z6, Z3, Z2, Zf, Zi, Nat.reduceAdd, Zh])); first | exact Sl.old (by assumption) _ | exact sl_nilints | exact sl_nilitems | (refine sl_ints (Z4 _) ?_; exact rfl) | (refine sl_items (Z4 _) ?_; exact rfl) | (refine sl_ints0 (Z4 _) ?_; exact rfl) | (refine sl_items0 (Z4 _) ?_; exact rfl))
           · first | omega | (simp only [Z2]; omega)
           · (simp only [Z2]; omega)
           )
        | (with_reducible refine cloneInts_ok people _ _ _ ?_ ?_
           · first | assumption | exact Sl.old (by assumption) _ | ((try (simp only [deskV, deskL, Z11, Z12, Z1y, Z1h, Za, Z9, Z7, Zc, Zd, Z6, Z3, Z2, Zf, Zi, Nat.reduceAdd, Zh])); first | exact Sl.old (by assumption) _ | exact sl_nilints | exact sl_nilitems | (refine sl_ints (Z4 _) ?_; exact rfl) | (refine sl_items (Z4 _) ?_; exact rfl) | (refine sl_ints0 (Z4 _) ?_; exact rfl) | (refine sl_items0 (Z4 _) ?_; exact rfl))
           · first | omega | (simp only [Z2]; omega)
           )
        | ((with_reducible refine Z2w (n := 94) ?_); rintro _ _ ⟨rfl, hh⟩; replace hh := hh.symm; subst hh)
        | ((with_reducible refine Z2w (n := 101) ?_); rintro _ _ ⟨rfl, hh⟩; replace hh := hh.symm; subst hh)
        )
      refine aw_for [4, 7, 8, 26, 27] (fun k T h' => ∃ X vi, h' = h ++ (⟨2, 1, [.int .i64 0, .slice none 0 0, .slice none 0 0]⟩ :: ⟨2, 1, (ints people).flatten⟩ :: ⟨2, 1, [.int .i64 (playA people (l.take k)).1, .slice (some ⟨h.length + 1, 0, some 0⟩) people.length people.length, vi]⟩ :: ⟨2, 1, codesC (playA people (l.take k)).2.2 (l.length - k)⟩ :: X) ∧
        T 28 = .int .i64 (k : Nat) ∧ ItAt h.length X vi (playA people (l.take k)).2.1) l.length (k0 := 0) (Nat.zero_le _) ⟨[], .slice none 0 0, by rw [codesC_zero]; rfl, rfl, .inl ⟨rfl, rfl⟩⟩ ?_
      rintro k T h' hkl hR ⟨X, vi, rfl, h28, hit⟩
      simp only [Z37, Z38, Z39, implies_true, and_true, stp, ev, Zb, Z2e, Z1z, Zk, Zl, reduceIte, Nat.reduceEqDiff, Zj, Zz, Zu, Z16, Z1a, Zm, Zp, Zo, Zd, Zx, Z2b, Z2x, Z1g, Z17, Zq, Zn, Zv, Z2p, Z2f, Z2o, Z2d, Z2g, Z1c, Z1b, Z2i, Z2n, Z2h, Z2j, Z2k, Z2l, Z2m, Z31, Z8, Z5, Z13, Zy] at hR
      obtain ⟨hgk, hlk⟩ := playA_inv people (hdn.trans hk) l k hkl
      rcases Nat.lt_or_ge k l.length with hkn | hkn
      · have h1 : (k : Int) < l.length := by omega
        have hsn := playA_snoc people hkn
        obtain ⟨al, rfl, hld0⟩ := Sl.row hrow (k := k) (by simpa using hkn)
        rw [List.getElem_map] at hld0
        have hld := loadCs_old hld0
        generalize playA people (l.take k) = s at hgk hlk hsn hit ⊢
        obtain ⟨now, items, cs⟩ := s
        simp only at hgk hlk hit
        generalize l[k] = a at hsn hld
        have hdl : (codesC cs (l.length - k)).length = l.length := by rw [codesC_len]; omega
        have hle : k + 1 ≤ l.length := hkn
        have hds := codesC_set hlk hkn (stepCode now people items a)
        clear hs hrow hmk hld0 h60 h60' hdn hk
        rcases hit with ⟨rfl, rfl⟩ | ⟨hne, j, hj, rfl⟩
        · have hn := deskOk_now hgk
          repeat' (first
            | ((with_reducible refine eq_go ?_); simp only [stp, ev, Zb, Z2e, Z1z, Zk, Zl, reduceIte, Nat.reduceEqDiff, Zj, Zz, Zu, Z16, Z1a, Zm, Zp, Zo, Zd, Zx, Z2b, Z2x, Z1g, Z17, Zq, Zn, Zv, Z2p, Z2f, Z2o, Z2d, Z2g, Z1c, Z1b, Z2i, Z2n, Z2h, Z2j, Z2k, Z2l, Z2m, Z31, Z8, Z5, Z13, Zy, bld, fillL, vcs, splice, Ze, Z1, Z0, Z35, Ze, Z1, Z0, ldv, stv, vcs, idxA, blt, lenV, Z10, Z3, Z2, Zf, Zg, Ze, Z1, Z0, Z14, Zw, Zh, Zr, Z33, Z15, Z7, Zc, Z6, Z3, Z2, Zf, Zi, Nat.reduceAdd, Nat.reduceMul, Nat.reduceLeDiff, Z11, Z12, Z1y, Z1h, Z2c, Z23, Z28, Z27, Z26, Z25, Z24, Z1m, Z1l, Z1k, Z1j, Z1i, Z1w, Z1v, Z1u, Z1t, Z1s, Z32, Z2y, Z2q, Z2r, Z2s, Z20, Z1q, Z1r, Z2z, Z2t, Z21, Z22, splice, Za, Z9, Z1, Z0, Z19, Zt, Zs, Z18, newB, vcs, Z30, Z2v, Z1x, Z29, Z1n, Z2u, Z1o, Z1f, Z1p, Z1d, Z1e, Ty.ld3, Ty.sz3, Ty.zc3, Ty.by3, Ty.ld24, Ty.sz24, Ty.sl24, Ty.zc24, Ty.by24, Ty.ld56, Ty.sz56, Ty.sl56, Ty.zc56, Ty.by56, Ty.ld58, Ty.sz58, Ty.zc58, Ty.by58, Ty.pl58, Ty.ld71, Ty.sz71, Ty.sl71, Ty.zc71, Ty.by71, Ty.ld77, Ty.sz77, Ty.zc77, Ty.by77, Ty.pl77, Ty.ld80, Ty.sz80, Ty.zc80, Ty.by80, Ty.pl80, DAct.cells_length, DAct.cells_flat, DAct.cells_take, DAct.cells_splice, itV_flat, Nat.mul_one, *]; rfl)
            | (with_reducible refine aw_then ?_) | (with_reducible refine aw_skip ?_) | (with_reducible refine aw_ret ?_) | (with_reducible refine aw_exit ?_) | (with_reducible refine aw_block ?_) | (with_reducible refine xr_reg (by decide +kernel) ?_)
            | (with_reducible refine xr_nil ?_) | (with_reducible refine k_norm ?_) | (with_reducible refine k_ret ?_) | (with_reducible refine k_exit ?_) | (with_reducible refine b_norm ?_) | (with_reducible refine b_ret ?_) | (with_reducible refine b_exit ?_) | (with_reducible refine b_past (by decide) ?_)
            | (refine xr_cl (f := ?_) (fs := ?_) (cs := ?_) (args := ?_) (K := ?_) ?_ ?_ ?_ ?_ ?_
               rotate_left 5
               · simp only [ev]; rfl
               first
               | (· with_reducible exact Ty.ok94
                  rotate_left 2
                  refine Z2a 94 ?_
                  rotate_right 2)
               | (· with_reducible exact Ty.ok101
                  rotate_left 2
                  refine Z2a 101 ?_
                  rotate_right 2)
               | (· with_reducible exact Ty.ok109
                  rotate_left 2
                  refine Z2a 109 ?_
                  rotate_right 2)
               )
            | (refine xr_gcl (f := ?_) (fs := ?_) (cs := ?_) (args := ?_) (K := ?_) (by exact rfl) ?_ ?_ ?_ ?_ ?_ ?_
               rotate_left 5
               · simp only [ev, Zb, reduceIte, Nat.reduceEqDiff, Z8, Z5, *]
               · simp only [ev]; rfl
               first
               | (· with_reducible exact Ty.ok94
                  rotate_left 2
                  refine Z2a 94 ?_
                  rotate_right 2)
               | (· with_reducible exact Ty.ok101
                  rotate_left 2
                  refine Z2a 101 ?_
                  rotate_right 2)
               | (· with_reducible exact Ty.ok109
                  rotate_left 2
                  refine Z2a 109 ?_
                  rotate_right 2)
               )
            | (refine xr_do (v := ?_) (h' := ?_) (by exact rfl) ?_ ?_; rotate_left 2)
            | (refine xr_st (v := ?_) (h' := ?_) (by exact rfl) ?_ ?_; rotate_left 2)
            | (refine xr_gdo (v := ?_) (h' := ?_) (by exact rfl) (by exact rfl) ?_ ?_ ?_
               rotate_left 2
               · simp only [ev, Zb, reduceIte, Nat.reduceEqDiff, Z8, Z5, *])
            | (refine xr_gst (v := ?_) (h' := ?_) (by exact rfl) (by exact rfl) ?_ ?_ ?_
               rotate_left 2
               · simp only [ev, Zb, reduceIte, Nat.reduceEqDiff, Z8, Z5, *])
            | (refine xr_goff (by exact rfl) ?_ ?_
               · simp only [ev, Zb, reduceIte, Nat.reduceEqDiff, Z8, Z5, *])
            | (refine xr_gsoff (by exact rfl) ?_ ?_
               · simp only [ev, Zb, reduceIte, Nat.reduceEqDiff, Z8, Z5, *])
            | (refine xr_gund (by exact rfl) ?_ ?_
               · simp only [ev, Zb, reduceIte, Nat.reduceEqDiff, Z8, Z5, *])
            | (refine xr_gsund (by exact rfl) ?_ ?_
               · simp only [ev, Zb, reduceIte, Nat.reduceEqDiff, Z8, Z5, *])
            | (refine xr_gif (b := ?_) (by exact rfl) ?_ (fun hb => ?_) (fun hb => ?_)
               rotate_left 1
               · simp only [ev, Zb, reduceIte, Nat.reduceEqDiff, Z8, Z5, *]; rfl)
            | (refine aw_ift (by decide) ?_ ?_
               · simp only [ev, Zb, reduceIte, Nat.reduceEqDiff, *])
            | (refine aw_iff (by decide) ?_ ?_
               · simp only [ev, Zb, reduceIte, Nat.reduceEqDiff, *])
            | (refine aw_if (b := ?_) (by decide) ?_ (fun hb => ?_) (fun hb => ?_)
               rotate_left 1
               · simp only [ev, Zb, reduceIte, Nat.reduceEqDiff, *]; rfl)
            | (refine r_ret (vs := ?_) ?_ ?_
               rotate_left 1
               · simp only [resV, oneOf, stp, ev, Zb, Z2e, Z1z, Zk, Zl, reduceIte, Nat.reduceEqDiff, Zj, Zz, Zu, Z16, Z1a, Zm, Zp, Zo, Zd, Zx, Z2b, Z2x, Z1g, Z17, Zq, Zn, Zv, Z2p, Z2f, Z2o, Z2d, Z2g, Z1c, Z1b, Z2i, Z2n, Z2h, Z2j, Z2k, Z2l, Z2m, Z31, Z8, Z5, Z13, Zy, bld, fillL, vcs, splice, Ze, Z1, Z0, Z35, Ze, Z1, Z0, ldv, stv, vcs, idxA, blt, lenV, Z10, Z3, Z2, Zf, Zg, Ze, Z1, Z0, Z14, Zw, Zh, Zr, Z33, Z15, Z7, Zc, Z6, Z3, Z2, Zf, Zi, Nat.reduceAdd, Nat.reduceMul, Nat.reduceLeDiff, Z11, Z12, Z1y, Z1h, Z2c, Z23, Z28, Z27, Z26, Z25, Z24, Z1m, Z1l, Z1k, Z1j, Z1i, Z1w, Z1v, Z1u, Z1t, Z1s, Z32, Z2y, Z2q, Z2r, Z2s, Z20, Z1q, Z1r, Z2z, Z2t, Z21, Z22, splice, Za, Z9, Z1, Z0, Z19, Zt, Zs, Z18, newB, vcs, Z30, Z2v, Z1x, Z29, Z1n, Z2u, Z1o, Z1f, Z1p, Z1d, Z1e, Ty.ld3, Ty.sz3, Ty.zc3, Ty.by3, Ty.ld24, Ty.sz24, Ty.sl24, Ty.zc24, Ty.by24, Ty.ld56, Ty.sz56, Ty.sl56, Ty.zc56, Ty.by56, Ty.ld58, Ty.sz58, Ty.zc58, Ty.by58, Ty.pl58, Ty.ld71, Ty.sz71, Ty.sl71, Ty.zc71, Ty.by71, Ty.ld77, Ty.sz77, Ty.zc77, Ty.by77, Ty.pl77, Ty.ld80, Ty.sz80, Ty.zc80, Ty.by80, Ty.pl80, DAct.cells_length, DAct.cells_flat, DAct.cells_take, DAct.cells_splice, itV_flat, Nat.mul_one, *]; rfl)
            | (with_reducible refine isDesk_ok _ people [] _ _ _ ?_ ?_ ?_ ?_
               · first | assumption | exact Sl.old (by assumption) _ | ((try (simp only [deskV, deskL, Z11, Z12, Z1y, Z1h, Za, Z9, Z7, Zc, Zd, Z6, Z3, Z2, Zf, Zi, Nat.reduceAdd, Zh])); first | exact Sl.old (by assumption) _ | exact sl_nilints | exact sl_nilitems | (refine sl_ints (Z4 _) ?_; exact rfl) | (refine sl_items (Z4 _) ?_; exact rfl) | (refine sl_ints0 (Z4 _) ?_; exact rfl) | (refine sl_items0 (Z4 _) ?_; exact rfl))
               · first | assumption | exact Sl.old (by assumption) _ | ((try (simp only [deskV, deskL, Z11, Z12, Z1y, Z1h, Za, Z9, Z7, Zc, Zd, Z6, Z3, Z2, Zf, Zi, Nat.reduceAdd, Zh])); first | exact Sl.old (by assumption) _ | exact sl_nilints | exact sl_nilitems | (refine sl_ints (Z4 _) ?_; exact rfl) | (refine sl_items (Z4 _) ?_; exact rfl) | (refine sl_ints0 (Z4 _) ?_; exact rfl) | (refine sl_items0 (Z4 _) ?_; exact rfl))
               · first | omega | (simp only [Z2]; omega)
               · (simp only [Z2]; omega)
               )
            | (with_reducible refine cloneInts_ok people _ _ _ ?_ ?_
               · first | assumption | exact Sl.old (by assumption) _ | ((try (simp only [deskV, deskL, Z11, Z12, Z1y, Z1h, Za, Z9, Z7, Zc, Zd, Z6, Z3, Z2, Zf, Zi, Nat.reduceAdd, Zh])); first | exact Sl.old (by assumption) _ | exact sl_nilints | exact sl_nilitems | (refine sl_ints (Z4 _) ?_; exact rfl) | (refine sl_items (Z4 _) ?_; exact rfl) | (refine sl_ints0 (Z4 _) ?_; exact rfl) | (refine sl_items0 (Z4 _) ?_; exact rfl))
               · first | omega | (simp only [Z2]; omega)
               )
            | (with_reducible refine stepDesk_nil _ people _ _ _ ?_ ?_ ?_
               · exact .slice _ _ _ (by simp only [Z6, Z3, Z2]; omega)
               · exact rfl
               · assumption
               )
            | ((with_reducible refine Z2w (n := 94) ?_); rintro _ _ ⟨rfl, hh⟩; replace hh := hh.symm; subst hh)
            | ((with_reducible refine Z2w (n := 101) ?_); rintro _ _ ⟨rfl, hh⟩; replace hh := hh.symm; subst hh)
            | ((with_reducible refine Z2w (n := 109) ?_); rintro _ _ ⟨rfl, hh⟩; replace hh := hh.symm; subst hh)
            )
          refine ⟨by first | assumption | omega, ?_, ?_⟩
          · simp only [Z37, Z38, Z39, implies_true, and_true, Z2b, stp, ev, Zb, Z2e, Z1z, Zk, Zl, reduceIte, Nat.reduceEqDiff, Zj, Zz, Zu, Z16, Z1a, Zm, Zp, Zo, Zd, Zx, Z2b, Z2x, Z1g, Z17, Zq, Zn, Zv, Z2p, Z2f, Z2o, Z2d, Z2g, Z1c, Z1b, Z2i, Z2n, Z2h, Z2j, Z2k, Z2l, Z2m, Z31, Z8, Z5, Z13, Zy, *]
          rw [hsn]
          refine ⟨X ++ [⟨2, 1, a.cells⟩] ++ itL (stepItems now people [] a), itV (h.length + (X.length + 5)) (stepItems now people [] a), by simp [playT], ?_, ?_⟩
          · simp only [Zb, reduceIte, Nat.reduceEqDiff]
            rw [wrap_id (by omega)]; rfl
          · have := itAt_new (n := h.length) (X := X ++ [⟨2, 1, a.cells⟩]) (items := stepItems now people [] a)
            rw [Z6] at this
            exact this
        · have hset : ∀ (b : Blk) (Y : Heap), (X ++ Y).set j b = X.set j b ++ Y := fun b Y => List.set_append_left _ _ (lt_of_get hj)
          have hget := play_get (h := h) hj
          have hne2 := stepItems_ne (now := now) (people := people) (a := a) hne
          repeat' (first
            | ((with_reducible refine eq_go ?_); simp only [stp, ev, Zb, Z2e, Z1z, Zk, Zl, reduceIte, Nat.reduceEqDiff, Zj, Zz, Zu, Z16, Z1a, Zm, Zp, Zo, Zd, Zx, Z2b, Z2x, Z1g, Z17, Zq, Zn, Zv, Z2p, Z2f, Z2o, Z2d, Z2g, Z1c, Z1b, Z2i, Z2n, Z2h, Z2j, Z2k, Z2l, Z2m, Z31, Z8, Z5, Z13, Zy, bld, fillL, vcs, splice, Ze, Z1, Z0, Z35, Ze, Z1, Z0, ldv, stv, vcs, idxA, blt, lenV, Z10, Z3, Z2, Zf, Zg, Ze, Z1, Z0, Z14, Zw, Zh, Zr, Z33, Z15, Z7, Zc, Z6, Z3, Z2, Zf, Zi, Nat.reduceAdd, Nat.reduceMul, Nat.reduceLeDiff, Z11, Z12, Z1y, Z1h, Z2c, Z23, Z28, Z27, Z26, Z25, Z24, Z1m, Z1l, Z1k, Z1j, Z1i, Z1w, Z1v, Z1u, Z1t, Z1s, Z32, Z2y, Z2q, Z2r, Z2s, Z20, Z1q, Z1r, Z2z, Z2t, Z21, Z22, splice, Za, Z9, Z1, Z0, Z19, Zt, Zs, Z18, newB, vcs, Z30, Z2v, Z1x, Z29, Z1n, Z2u, Z1o, Z1f, Z1p, Z1d, Z1e, Ty.ld3, Ty.sz3, Ty.zc3, Ty.by3, Ty.ld24, Ty.sz24, Ty.sl24, Ty.zc24, Ty.by24, Ty.ld56, Ty.sz56, Ty.sl56, Ty.zc56, Ty.by56, Ty.ld58, Ty.sz58, Ty.zc58, Ty.by58, Ty.pl58, Ty.ld71, Ty.sz71, Ty.sl71, Ty.zc71, Ty.by71, Ty.ld77, Ty.sz77, Ty.zc77, Ty.by77, Ty.pl77, Ty.ld80, Ty.sz80, Ty.zc80, Ty.by80, Ty.pl80, DAct.cells_length, DAct.cells_flat, DAct.cells_take, DAct.cells_splice, Nat.mul_one, *]; rfl)
            | (with_reducible refine aw_then ?_) | (with_reducible refine aw_skip ?_) | (with_reducible refine aw_ret ?_) | (with_reducible refine aw_exit ?_) | (with_reducible refine aw_block ?_) | (with_reducible refine xr_reg (by decide +kernel) ?_)
            | (with_reducible refine xr_nil ?_) | (with_reducible refine k_norm ?_) | (with_reducible refine k_ret ?_) | (with_reducible refine k_exit ?_) | (with_reducible refine b_norm ?_) | (with_reducible refine b_ret ?_) | (with_reducible refine b_exit ?_) | (with_reducible refine b_past (by decide) ?_)
            | (refine xr_cl (f := ?_) (fs := ?_) (cs := ?_) (args := ?_) (K := ?_) ?_ ?_ ?_ ?_ ?_
               rotate_left 5
               · simp only [ev]; rfl
               first
               | (· with_reducible exact Ty.ok94
                  rotate_left 2
                  refine Z2a 94 ?_
                  rotate_right 2)
               | (· with_reducible exact Ty.ok101
                  rotate_left 2
                  refine Z2a 101 ?_
                  rotate_right 2)
               | (· with_reducible exact Ty.ok109
                  rotate_left 2
                  refine Z2a 109 ?_
                  rotate_right 2)
               )
            | (refine xr_gcl (f := ?_) (fs := ?_) (cs := ?_) (args := ?_) (K := ?_) (by exact rfl) ?_ ?_ ?_ ?_ ?_ ?_
               rotate_left 5
               · simp only [ev, Zb, reduceIte, Nat.reduceEqDiff, Z8, Z5, *]
               · simp only [ev]; rfl
               first
               | (· with_reducible exact Ty.ok94
                  rotate_left 2
                  refine Z2a 94 ?_
                  rotate_right 2)
               | (· with_reducible exact Ty.ok101
                  rotate_left 2
                  refine Z2a 101 ?_
                  rotate_right 2)
               | (· with_reducible exact Ty.ok109
                  rotate_left 2
                  refine Z2a 109 ?_
                  rotate_right 2)
               )
            | (refine xr_do (v := ?_) (h' := ?_) (by exact rfl) ?_ ?_; rotate_left 2)
            | (refine xr_st (v := ?_) (h' := ?_) (by exact rfl) ?_ ?_; rotate_left 2)
            | (refine xr_gdo (v := ?_) (h' := ?_) (by exact rfl) (by exact rfl) ?_ ?_ ?_
               rotate_left 2
               · simp only [ev, Zb, reduceIte, Nat.reduceEqDiff, Z8, Z5, *])
            | (refine xr_gst (v := ?_) (h' := ?_) (by exact rfl) (by exact rfl) ?_ ?_ ?_
               rotate_left 2
               · simp only [ev, Zb, reduceIte, Nat.reduceEqDiff, Z8, Z5, *])
            | (refine xr_goff (by exact rfl) ?_ ?_
               · simp only [ev, Zb, reduceIte, Nat.reduceEqDiff, Z8, Z5, *])
            | (refine xr_gsoff (by exact rfl) ?_ ?_
               · simp only [ev, Zb, reduceIte, Nat.reduceEqDiff, Z8, Z5, *])
            | (refine xr_gund (by exact rfl) ?_ ?_
               · simp only [ev, Zb, reduceIte, Nat.reduceEqDiff, Z8, Z5, *])
            | (refine xr_gsund (by exact rfl) ?_ ?_
               · simp only [ev, Zb, reduceIte, Nat.reduceEqDiff, Z8, Z5, *])
            | (refine xr_gif (b := ?_) (by exact rfl) ?_ (fun hb => ?_) (fun hb => ?_)
               rotate_left 1
               · simp only [ev, Zb, reduceIte, Nat.reduceEqDiff, Z8, Z5, *]; rfl)
            | (refine aw_ift (by decide) ?_ ?_
               · simp only [ev, Zb, reduceIte, Nat.reduceEqDiff, *])
            | (refine aw_iff (by decide) ?_ ?_
               · simp only [ev, Zb, reduceIte, Nat.reduceEqDiff, *])
            | (refine aw_if (b := ?_) (by decide) ?_ (fun hb => ?_) (fun hb => ?_)
               rotate_left 1
               · simp only [ev, Zb, reduceIte, Nat.reduceEqDiff, *]; rfl)
            | (refine r_ret (vs := ?_) ?_ ?_
               rotate_left 1
               · simp only [resV, oneOf, stp, ev, Zb, Z2e, Z1z, Zk, Zl, reduceIte, Nat.reduceEqDiff, Zj, Zz, Zu, Z16, Z1a, Zm, Zp, Zo, Zd, Zx, Z2b, Z2x, Z1g, Z17, Zq, Zn, Zv, Z2p, Z2f, Z2o, Z2d, Z2g, Z1c, Z1b, Z2i, Z2n, Z2h, Z2j, Z2k, Z2l, Z2m, Z31, Z8, Z5, Z13, Zy, bld, fillL, vcs, splice, Ze, Z1, Z0, Z35, Ze, Z1, Z0, ldv, stv, vcs, idxA, blt, lenV, Z10, Z3, Z2, Zf, Zg, Ze, Z1, Z0, Z14, Zw, Zh, Zr, Z33, Z15, Z7, Zc, Z6, Z3, Z2, Zf, Zi, Nat.reduceAdd, Nat.reduceMul, Nat.reduceLeDiff, Z11, Z12, Z1y, Z1h, Z2c, Z23, Z28, Z27, Z26, Z25, Z24, Z1m, Z1l, Z1k, Z1j, Z1i, Z1w, Z1v, Z1u, Z1t, Z1s, Z32, Z2y, Z2q, Z2r, Z2s, Z20, Z1q, Z1r, Z2z, Z2t, Z21, Z22, splice, Za, Z9, Z1, Z0, Z19, Zt, Zs, Z18, newB, vcs, Z30, Z2v, Z1x, Z29, Z1n, Z2u, Z1o, Z1f, Z1p, Z1d, Z1e, Ty.ld3, Ty.sz3, Ty.zc3, Ty.by3, Ty.ld24, Ty.sz24, Ty.sl24, Ty.zc24, Ty.by24, Ty.ld56, Ty.sz56, Ty.sl56, Ty.zc56, Ty.by56, Ty.ld58, Ty.sz58, Ty.zc58, Ty.by58, Ty.pl58, Ty.ld71, Ty.sz71, Ty.sl71, Ty.zc71, Ty.by71, Ty.ld77, Ty.sz77, Ty.zc77, Ty.by77, Ty.pl77, Ty.ld80, Ty.sz80, Ty.zc80, Ty.by80, Ty.pl80, DAct.cells_length, DAct.cells_flat, DAct.cells_take, DAct.cells_splice, Nat.mul_one, *]; rfl)
            | (with_reducible refine isDesk_ok _ people [] _ _ _ ?_ ?_ ?_ ?_
               · first | assumption | exact Sl.old (by assumption) _ | ((try (simp only [deskV, deskL, Z11, Z12, Z1y, Z1h, Za, Z9, Z7, Zc, Zd, Z6, Z3, Z2, Zf, Zi, Nat.reduceAdd, Zh])); first | exact Sl.old (by assumption) _ | exact sl_nilints | exact sl_nilitems | (refine sl_ints (Z4 _) ?_; exact rfl) | (refine sl_items (Z4 _) ?_; exact rfl) | (refine sl_ints0 (Z4 _) ?_; exact rfl) | (refine sl_items0 (Z4 _) ?_; exact rfl))
               · first | assumption | exact Sl.old (by assumption) _ | ((try (simp only [deskV, deskL, Z11, Z12, Z1y, Z1h, Za, Z9, Z7, Zc, Zd, Z6, Z3, Z2, Zf, Zi, Nat.reduceAdd, Zh])); first | exact Sl.old (by assumption) _ | exact sl_nilints | exact sl_nilitems | (refine sl_ints (Z4 _) ?_; exact rfl) | (refine sl_items (Z4 _) ?_; exact rfl) | (refine sl_ints0 (Z4 _) ?_; exact rfl) | (refine sl_items0 (Z4 _) ?_; exact rfl))
               · first | omega | (simp only [Z2]; omega)
               · (simp only [Z2]; omega)
               )
            | (with_reducible refine cloneInts_ok people _ _ _ ?_ ?_
               · first | assumption | exact Sl.old (by assumption) _ | ((try (simp only [deskV, deskL, Z11, Z12, Z1y, Z1h, Za, Z9, Z7, Zc, Zd, Z6, Z3, Z2, Zf, Zi, Nat.reduceAdd, Zh])); first | exact Sl.old (by assumption) _ | exact sl_nilints | exact sl_nilitems | (refine sl_ints (Z4 _) ?_; exact rfl) | (refine sl_items (Z4 _) ?_; exact rfl) | (refine sl_ints0 (Z4 _) ?_; exact rfl) | (refine sl_items0 (Z4 _) ?_; exact rfl))
               · first | omega | (simp only [Z2]; omega)
               )
            | (with_reducible refine stepDesk_id _ people items _ _ _ _ _ (.inr rfl) ?_ ?_ ?_ ?_
               · exact hget _ _ _ _ _
               · exact fun b X => play_sl1 _ _ _ _ _ _ _
               · exact .slice _ _ _ (by simp only [Z6, Z3, Z2]; omega)
               · assumption
               )
            | ((with_reducible refine Z2w (n := 94) ?_); rintro _ _ ⟨rfl, hh⟩; replace hh := hh.symm; subst hh)
            | ((with_reducible refine Z2w (n := 101) ?_); rintro _ _ ⟨rfl, hh⟩; replace hh := hh.symm; subst hh)
            | ((with_reducible refine Z2w (n := 109) ?_); rintro _ _ ⟨rfl, hh⟩; replace hh := hh.symm; subst hh)
            )
          refine ⟨by first | assumption | omega, ?_, ?_⟩
          · simp only [Z37, Z38, Z39, implies_true, and_true, Z2b, stp, ev, Zb, Z2e, Z1z, Zk, Zl, reduceIte, Nat.reduceEqDiff, Zj, Zz, Zu, Z16, Z1a, Zm, Zp, Zo, Zd, Zx, Z2b, Z2x, Z1g, Z17, Zq, Zn, Zv, Z2p, Z2f, Z2o, Z2d, Z2g, Z1c, Z1b, Z2i, Z2n, Z2h, Z2j, Z2k, Z2l, Z2m, Z31, Z8, Z5, Z13, Zy, *]
          rw [hsn]
          refine ⟨X.set j ⟨0, 0, []⟩ ++ [⟨2, 1, a.cells⟩, ⟨2, 6, cellsL (stepItems now people items a)⟩], _, ?_, ?_, .inr ⟨hne2, X.length + 1, ?_, rfl⟩⟩
          · simp [playT]
          · simp only [Zb, reduceIte, Nat.reduceEqDiff]
            rw [wrap_id (by omega)]; rfl
          · rw [List.getElem?_append_right (by simp)]; simp [playT]
      · have h1 : ¬ (k : Int) < l.length := by omega
        obtain rfl : k = l.length := by omega
        rw [List.take_length] at *
        rw [Nat.sub_self, codesC_all]
        have hvf := hit.flat
        clear hs hrow hmk
        repeat' (first
          | ((with_reducible refine eq_go ?_); simp only [stp, ev, Zb, Z2e, Z1z, Zk, Zl, reduceIte, Nat.reduceEqDiff, Zj, Zz, Zu, Z16, Z1a, Zm, Zp, Zo, Zd, Zx, Z2b, Z2x, Z1g, Z17, Zq, Zn, Zv, Z2p, Z2f, Z2o, Z2d, Z2g, Z1c, Z1b, Z2i, Z2n, Z2h, Z2j, Z2k, Z2l, Z2m, Z31, Z8, Z5, Z13, Zy, bld, fillL, vcs, splice, Ze, Z1, Z0, Z35, Ze, Z1, Z0, ldv, stv, vcs, idxA, blt, lenV, Z10, Z3, Z2, Zf, Zg, Ze, Z1, Z0, Z14, Zw, Zh, Zr, Z33, Z15, Z7, Zc, Z6, Z3, Z2, Zf, Zi, Nat.reduceAdd, Nat.reduceMul, Nat.reduceLeDiff, Z11, Z12, Z1y, Z1h, Z2c, Z23, Z28, Z27, Z26, Z25, Z24, Z1m, Z1l, Z1k, Z1j, Z1i, Z1w, Z1v, Z1u, Z1t, Z1s, Z32, Z2y, Z2q, Z2r, Z2s, Z20, Z1q, Z1r, Z2z, Z2t, Z21, Z22, splice, Za, Z9, Z1, Z0, Z19, Zt, Zs, Z18, newB, vcs, Z30, Z2v, Z1x, Z29, Z1n, Z2u, Z1o, Z1f, Z1p, Z1d, Z1e, Ty.ld3, Ty.sz3, Ty.zc3, Ty.by3, Ty.ld24, Ty.sz24, Ty.sl24, Ty.zc24, Ty.by24, Ty.ld56, Ty.sz56, Ty.sl56, Ty.zc56, Ty.by56, Ty.ld58, Ty.sz58, Ty.zc58, Ty.by58, Ty.pl58, Ty.ld71, Ty.sz71, Ty.sl71, Ty.zc71, Ty.by71, Ty.ld77, Ty.sz77, Ty.zc77, Ty.by77, Ty.pl77, Ty.ld80, Ty.sz80, Ty.zc80, Ty.by80, Ty.pl80, *]; rfl)
          | (with_reducible refine aw_then ?_) | (with_reducible refine aw_skip ?_) | (with_reducible refine aw_ret ?_) | (with_reducible refine aw_exit ?_) | (with_reducible refine aw_block ?_) | (with_reducible refine xr_reg (by decide +kernel) ?_)
          | (with_reducible refine xr_nil ?_) | (with_reducible refine k_norm ?_) | (with_reducible refine k_ret ?_) | (with_reducible refine k_exit ?_) | (with_reducible refine b_norm ?_) | (with_reducible refine b_ret ?_) | (with_reducible refine b_exit ?_) | (with_reducible refine b_past (by decide) ?_)
          | (refine xr_cl (f := ?_) (fs := ?_) (cs := ?_) (args := ?_) (K := ?_) ?_ ?_ ?_ ?_ ?_
             rotate_left 5
             · simp only [ev]; rfl
             first
             | (· with_reducible exact Ty.ok94
                rotate_left 2
                refine Z2a 94 ?_
                rotate_right 2)
             | (· with_reducible exact Ty.ok101
                rotate_left 2
                refine Z2a 101 ?_
                rotate_right 2)
             | (· with_reducible exact Ty.ok109
                rotate_left 2
                refine Z2a 109 ?_
                rotate_right 2)
             )
          | (refine xr_gcl (f := ?_) (fs := ?_) (cs := ?_) (args := ?_) (K := ?_) (by exact rfl) ?_ ?_ ?_ ?_ ?_ ?_
             rotate_left 5
             · simp only [ev, Zb, reduceIte, Nat.reduceEqDiff, Z8, Z5, *]
             · simp only [ev]; rfl
             first
             | (· with_reducible exact Ty.ok94
                rotate_left 2
                refine Z2a 94 ?_
                rotate_right 2)
             | (· with_reducible exact Ty.ok101
                rotate_left 2
                refine Z2a 101 ?_
                rotate_right 2)
             | (· with_reducible exact Ty.ok109
                rotate_left 2
                refine Z2a 109 ?_
                rotate_right 2)
             )
          | (refine xr_do (v := ?_) (h' := ?_) (by exact rfl) ?_ ?_; rotate_left 2)
          | (refine xr_st (v := ?_) (h' := ?_) (by exact rfl) ?_ ?_; rotate_left 2)
          | (refine xr_gdo (v := ?_) (h' := ?_) (by exact rfl) (by exact rfl) ?_ ?_ ?_
             rotate_left 2
             · simp only [ev, Zb, reduceIte, Nat.reduceEqDiff, Z8, Z5, *])
          | (refine xr_gst (v := ?_) (h' := ?_) (by exact rfl) (by exact rfl) ?_ ?_ ?_
             rotate_left 2
             · simp only [ev, Zb, reduceIte, Nat.reduceEqDiff, Z8, Z5, *])
          | (refine xr_goff (by exact rfl) ?_ ?_
             · simp only [ev, Zb, reduceIte, Nat.reduceEqDiff, Z8, Z5, *])
          | (refine xr_gsoff (by exact rfl) ?_ ?_
             · simp only [ev, Zb, reduceIte, Nat.reduceEqDiff, Z8, Z5, *])
          | (refine xr_gund (by exact rfl) ?_ ?_
             · simp only [ev, Zb, reduceIte, Nat.reduceEqDiff, Z8, Z5, *])
          | (refine xr_gsund (by exact rfl) ?_ ?_
             · simp only [ev, Zb, reduceIte, Nat.reduceEqDiff, Z8, Z5, *])
          | (refine xr_gif (b := ?_) (by exact rfl) ?_ (fun hb => ?_) (fun hb => ?_)
             rotate_left 1
             · simp only [ev, Zb, reduceIte, Nat.reduceEqDiff, Z8, Z5, *]; rfl)
          | (refine aw_ift (by decide) ?_ ?_
             · simp only [ev, Zb, reduceIte, Nat.reduceEqDiff, *])
          | (refine aw_iff (by decide) ?_ ?_
             · simp only [ev, Zb, reduceIte, Nat.reduceEqDiff, *])
          | (refine aw_if (b := ?_) (by decide) ?_ (fun hb => ?_) (fun hb => ?_)
             rotate_left 1
             · simp only [ev, Zb, reduceIte, Nat.reduceEqDiff, *]; rfl)
          | (refine r_ret (vs := ?_) ?_ ?_
             rotate_left 1
             · simp only [resV, oneOf, stp, ev, Zb, Z2e, Z1z, Zk, Zl, reduceIte, Nat.reduceEqDiff, Zj, Zz, Zu, Z16, Z1a, Zm, Zp, Zo, Zd, Zx, Z2b, Z2x, Z1g, Z17, Zq, Zn, Zv, Z2p, Z2f, Z2o, Z2d, Z2g, Z1c, Z1b, Z2i, Z2n, Z2h, Z2j, Z2k, Z2l, Z2m, Z31, Z8, Z5, Z13, Zy, bld, fillL, vcs, splice, Ze, Z1, Z0, Z35, Ze, Z1, Z0, ldv, stv, vcs, idxA, blt, lenV, Z10, Z3, Z2, Zf, Zg, Ze, Z1, Z0, Z14, Zw, Zh, Zr, Z33, Z15, Z7, Zc, Z6, Z3, Z2, Zf, Zi, Nat.reduceAdd, Nat.reduceMul, Nat.reduceLeDiff, Z11, Z12, Z1y, Z1h, Z2c, Z23, Z28, Z27, Z26, Z25, Z24, Z1m, Z1l, Z1k, Z1j, Z1i, Z1w, Z1v, Z1u, Z1t, Z1s, Z32, Z2y, Z2q, Z2r, Z2s, Z20, Z1q, Z1r, Z2z, Z2t, Z21, Z22, splice, Za, Z9, Z1, Z0, Z19, Zt, Zs, Z18, newB, vcs, Z30, Z2v, Z1x, Z29, Z1n, Z2u, Z1o, Z1f, Z1p, Z1d, Z1e, Ty.ld3, Ty.sz3, Ty.zc3, Ty.by3, Ty.ld24, Ty.sz24, Ty.sl24, Ty.zc24, Ty.by24, Ty.ld56, Ty.sz56, Ty.sl56, Ty.zc56, Ty.by56, Ty.ld58, Ty.sz58, Ty.zc58, Ty.by58, Ty.pl58, Ty.ld71, Ty.sz71, Ty.sl71, Ty.zc71, Ty.by71, Ty.ld77, Ty.sz77, Ty.zc77, Ty.by77, Ty.pl77, Ty.ld80, Ty.sz80, Ty.zc80, Ty.by80, Ty.pl80, *]; rfl)
          | (with_reducible refine isDesk_ok _ people [] _ _ _ ?_ ?_ ?_ ?_
             · first | assumption | exact Sl.old (by assumption) _ | ((try (simp only [deskV, deskL, Z11, Z12, Z1y, Z1h, Za, Z9, Z7, Zc, Zd, Z6, Z3, Z2, Zf, Zi, Nat.reduceAdd, Zh])); first | exact Sl.old (by assumption) _ | exact sl_nilints | exact sl_nilitems | (refine sl_ints (Z4 _) ?_; exact rfl) | (refine sl_items (Z4 _) ?_; exact rfl) | (refine sl_ints0 (Z4 _) ?_; exact rfl) | (refine sl_items0 (Z4 _) ?_; exact rfl))
             · first | assumption | exact Sl.old (by assumption) _ | ((try (simp only [deskV, deskL, Z11, Z12, Z1y, Z1h, Za, Z9, Z7, Zc, Zd, Z6, Z3, Z2, Zf, Zi, Nat.reduceAdd, Zh])); first | exact Sl.old (by assumption) _ | exact sl_nilints | exact sl_nilitems | (refine sl_ints (Z4 _) ?_; exact rfl) | (refine sl_items (Z4 _) ?_; exact rfl) | (refine sl_ints0 (Z4 _) ?_; exact rfl) | (refine sl_items0 (Z4 _) ?_; exact rfl))
             · first | omega | (simp only [Z2]; omega)
             · (simp only [Z2]; omega)
             )
          | (with_reducible refine cloneInts_ok people _ _ _ ?_ ?_
             · first | assumption | exact Sl.old (by assumption) _ | ((try (simp only [deskV, deskL, Z11, Z12, Z1y, Z1h, Za, Z9, Z7, Zc, Zd, Z6, Z3, Z2, Zf, Zi, Nat.reduceAdd, Zh])); first | exact Sl.old (by assumption) _ | exact sl_nilints | exact sl_nilitems | (refine sl_ints (Z4 _) ?_; exact rfl) | (refine sl_items (Z4 _) ?_; exact rfl) | (refine sl_ints0 (Z4 _) ?_; exact rfl) | (refine sl_items0 (Z4 _) ?_; exact rfl))
             · first | omega | (simp only [Z2]; omega)
             )
          | (with_reducible refine stepDesk_id _ people items _ _ _ _ _ (.inr rfl) ?_ ?_ ?_ ?_
             · exact hget _ _ _ _ _
             · exact fun b X => play_sl1 _ _ _ _ _ _ _
             · exact .slice _ _ _ (by simp only [Z6, Z3, Z2]; omega)
             · assumption
             )
          | ((with_reducible refine Z2w (n := 94) ?_); rintro _ _ ⟨rfl, hh⟩; replace hh := hh.symm; subst hh)
          | ((with_reducible refine Z2w (n := 101) ?_); rintro _ _ ⟨rfl, hh⟩; replace hh := hh.symm; subst hh)
          | ((with_reducible refine Z2w (n := 109) ?_); rintro _ _ ⟨rfl, hh⟩; replace hh := hh.symm; subst hh)
          )
        exact play_keep hlk hit _ _
    · have h60' : decide (60 < (l.length : Int)) = true := decide_eq_true (by omega)
      simp only [playDkV, playDkL, hk, decide_eq_false h60, Bool.true_and, Bool.false_eq_true, if_false]
      refine Z36 Try.func56 rfl Try.ntmps56 (by simp) (by dsimp only [Try.f56]) ?_
      repeat' (first
        | ((with_reducible refine eq_go ?_); simp only [stp, ev, Zb, Z2e, Z1z, Zk, Zl, reduceIte, Nat.reduceEqDiff, Zj, Zz, Zu, Z16, Z1a, Zm, Zp, Zo, Zd, Zx, Z2b, Z2x, Z1g, Z17, Zq, Zn, Zv, Z2p, Z2f, Z2o, Z2d, Z2g, Z1c, Z1b, Z2i, Z2n, Z2h, Z2j, Z2k, Z2l, Z2m, Z31, Z8, Z5, Z13, Zy, bld, fillL, vcs, splice, Ze, Z1, Z0, Z35, Ze, Z1, Z0, ldv, stv, vcs, idxA, blt, lenV, Z10, Z3, Z2, Zf, Zg, Ze, Z1, Z0, Z14, Zw, Zh, Zr, Z33, Z15, Z7, Zc, Z6, Z3, Z2, Zf, Zi, Nat.reduceAdd, Nat.reduceMul, Nat.reduceLeDiff, Z11, Z12, Z1y, Z1h, Z2c, Z23, Z28, Z27, Z26, Z25, Z24, Z1m, Z1l, Z1k, Z1j, Z1i, Z1w, Z1v, Z1u, Z1t, Z1s, Z32, Z2y, Z2q, Z2r, Z2s, Z20, Z1q, Z1r, Z2z, Z2t, Z21, Z22, splice, Za, Z9, Z1, Z0, Z19, Zt, Zs, Z18, newB, vcs, Z30, Z2v, Z1x, Z29, Z1n, Z2u, Z1o, Z1f, Z1p, Z1d, Z1e, Ty.ld3, Ty.sz3, Ty.zc3, Ty.by3, Ty.ld24, Ty.sz24, Ty.sl24, Ty.zc24, Ty.by24, Ty.ld56, Ty.sz56, Ty.sl56, Ty.zc56, Ty.by56, Ty.ld58, Ty.sz58, Ty.zc58, Ty.by58, Ty.pl58, Ty.ld71, Ty.sz71, Ty.sl71, Ty.zc71, Ty.by71, Ty.ld77, Ty.sz77, Ty.zc77, Ty.by77, Ty.pl77, Ty.ld80, Ty.sz80, Ty.zc80, Ty.by80, Ty.pl80, DAct.cells_length, DAct.cells_flat, DAct.cells_take, DAct.cells_splice, *]; rfl)
        | (with_reducible refine aw_then ?_) | (with_reducible refine aw_skip ?_) | (with_reducible refine aw_ret ?_) | (with_reducible refine aw_exit ?_) | (with_reducible refine aw_block ?_) | (with_reducible refine xr_reg (by decide +kernel) ?_)
        | (with_reducible refine xr_nil ?_) | (with_reducible refine k_norm ?_) | (with_reducible refine k_ret ?_) | (with_reducible refine k_exit ?_) | (with_reducible refine b_norm ?_) | (with_reducible refine b_ret ?_) | (with_reducible refine b_exit ?_) | (with_reducible refine b_past (by decide) ?_)
        | (refine xr_cl (f := ?_) (fs := ?_) (cs := ?_) (args := ?_) (K := ?_) ?_ ?_ ?_ ?_ ?_
           rotate_left 5
           · simp only [ev]; rfl
           first
           | (· with_reducible exact Ty.ok94
              rotate_left 2
              refine Z2a 94 ?_
              rotate_right 2)
           | (· with_reducible exact Ty.ok101
              rotate_left 2
              refine Z2a 101 ?_
              rotate_right 2)
           | (· with_reducible exact Ty.ok109
              rotate_left 2
              refine Z2a 109 ?_
              rotate_right 2)
           )
        | (refine xr_gcl (f := ?_) (fs := ?_) (cs := ?_) (args := ?_) (K := ?_) (by exact rfl) ?_ ?_ ?_ ?_ ?_ ?_
           rotate_left 5
           · simp only [ev, Zb, reduceIte, Nat.reduceEqDiff, Z8, Z5, *]
           · simp only [ev]; rfl
           first
           | (· with_reducible exact Ty.ok94
              rotate_left 2
              refine Z2a 94 ?_
              rotate_right 2)
           | (· with_reducible exact Ty.ok101
              rotate_left 2
              refine Z2a 101 ?_
              rotate_right 2)
           | (· with_reducible exact Ty.ok109
              rotate_left 2
              refine Z2a 109 ?_
              rotate_right 2)
           )
        | (refine xr_do (v := ?_) (h' := ?_) (by exact rfl) ?_ ?_; rotate_left 2)
        | (refine xr_st (v := ?_) (h' := ?_) (by exact rfl) ?_ ?_; rotate_left 2)
        | (refine xr_gdo (v := ?_) (h' := ?_) (by exact rfl) (by exact rfl) ?_ ?_ ?_
           rotate_left 2
           · simp only [ev, Zb, reduceIte, Nat.reduceEqDiff, Z8, Z5, *])
        | (refine xr_gst (v := ?_) (h' := ?_) (by exact rfl) (by exact rfl) ?_ ?_ ?_
           rotate_left 2
           · simp only [ev, Zb, reduceIte, Nat.reduceEqDiff, Z8, Z5, *])
        | (refine xr_goff (by exact rfl) ?_ ?_
           · simp only [ev, Zb, reduceIte, Nat.reduceEqDiff, Z8, Z5, *])
        | (refine xr_gsoff (by exact rfl) ?_ ?_
           · simp only [ev, Zb, reduceIte, Nat.reduceEqDiff, Z8, Z5, *])
        | (refine xr_gund (by exact rfl) ?_ ?_
           · simp only [ev, Zb, reduceIte, Nat.reduceEqDiff, Z8, Z5, *])
        | (refine xr_gsund (by exact rfl) ?_ ?_
           · simp only [ev, Zb, reduceIte, Nat.reduceEqDiff, Z8, Z5, *])
        | (refine xr_gif (b := ?_) (by exact rfl) ?_ (fun hb => ?_) (fun hb => ?_)
           rotate_left 1
           · simp only [ev, Zb, reduceIte, Nat.reduceEqDiff, Z8, Z5, *]; rfl)
        | (refine aw_ift (by decide) ?_ ?_
           · simp only [ev, Zb, reduceIte, Nat.reduceEqDiff, *])
        | (refine aw_iff (by decide) ?_ ?_
           · simp only [ev, Zb, reduceIte, Nat.reduceEqDiff, *])
        | (refine aw_if (b := ?_) (by decide) ?_ (fun hb => ?_) (fun hb => ?_)
           rotate_left 1
           · simp only [ev, Zb, reduceIte, Nat.reduceEqDiff, *]; rfl)
        | (refine r_ret (vs := ?_) ?_ ?_
           rotate_left 1
           · simp only [resV, oneOf, stp, ev, Zb, Z2e, Z1z, Zk, Zl, reduceIte, Nat.reduceEqDiff, Zj, Zz, Zu, Z16, Z1a, Zm, Zp, Zo, Zd, Zx, Z2b, Z2x, Z1g, Z17, Zq, Zn, Zv, Z2p, Z2f, Z2o, Z2d, Z2g, Z1c, Z1b, Z2i, Z2n, Z2h, Z2j, Z2k, Z2l, Z2m, Z31, Z8, Z5, Z13, Zy, bld, fillL, vcs, splice, Ze, Z1, Z0, Z35, Ze, Z1, Z0, ldv, stv, vcs, idxA, blt, lenV, Z10, Z3, Z2, Zf, Zg, Ze, Z1, Z0, Z14, Zw, Zh, Zr, Z33, Z15, Z7, Zc, Z6, Z3, Z2, Zf, Zi, Nat.reduceAdd, Nat.reduceMul, Nat.reduceLeDiff, Z11, Z12, Z1y, Z1h, Z2c, Z23, Z28, Z27, Z26, Z25, Z24, Z1m, Z1l, Z1k, Z1j, Z1i, Z1w, Z1v, Z1u, Z1t, Z1s, Z32, Z2y, Z2q, Z2r, Z2s, Z20, Z1q, Z1r, Z2z, Z2t, Z21, Z22, splice, Za, Z9, Z1, Z0, Z19, Zt, Zs, Z18, newB, vcs, Z30, Z2v, Z1x, Z29, Z1n, Z2u, Z1o, Z1f, Z1p, Z1d, Z1e, Ty.ld3, Ty.sz3, Ty.zc3, Ty.by3, Ty.ld24, Ty.sz24, Ty.sl24, Ty.zc24, Ty.by24, Ty.ld56, Ty.sz56, Ty.sl56, Ty.zc56, Ty.by56, Ty.ld58, Ty.sz58, Ty.zc58, Ty.by58, Ty.pl58, Ty.ld71, Ty.sz71, Ty.sl71, Ty.zc71, Ty.by71, Ty.ld77, Ty.sz77, Ty.zc77, Ty.by77, Ty.pl77, Ty.ld80, Ty.sz80, Ty.zc80, Ty.by80, Ty.pl80, DAct.cells_length, DAct.cells_flat, DAct.cells_take, DAct.cells_splice, *]; rfl)
        | (with_reducible refine isDesk_ok _ people [] _ _ _ ?_ ?_ ?_ ?_
           · first | assumption | exact Sl.old (by assumption) _ | ((try (simp only [deskV, deskL, Z11, Z12, Z1y, Z1h, Za, Z9, Z7, Zc, Zd, Z6, Z3, Z2, Zf, Zi, Nat.reduceAdd, Zh])); first | exact Sl.old (by assumption) _ | exact sl_nilints | exact sl_nilitems | (refine sl_ints (Z4 _) ?_; exact rfl) | (refine sl_items (Z4 _) ?_; exact rfl) | (refine sl_ints0 (Z4 _) ?_; exact rfl) | (refine sl_items0 (Z4 _) ?_; exact rfl))
           · first | assumption | exact Sl.old (by assumption) _ | ((try (simp only [deskV, deskL, Z11, Z12, Z1y, Z1h, Za, Z9, Z7, Zc, Zd, Z6, Z3, Z2, Zf, Zi, Nat.reduceAdd, Zh])); first | exact Sl.old (by assumption) _ | exact sl_nilints | exact sl_nilitems | (refine sl_ints (Z4 _) ?_; exact rfl) | (refine sl_items (Z4 _) ?_; exact rfl) | (refine sl_ints0 (Z4 _) ?_; exact rfl) | (refine sl_items0 (Z4 _) ?_; exact rfl))
           · first | omega | (simp only [Z2]; omega)
           · (simp only [Z2]; omega)
           )
        | (with_reducible refine cloneInts_ok people _ _ _ ?_ ?_
           · first | assumption | exact Sl.old (by assumption) _ | ((try (simp only [deskV, deskL, Z11, Z12, Z1y, Z1h, Za, Z9, Z7, Zc, Zd, Z6, Z3, Z2, Zf, Zi, Nat.reduceAdd, Zh])); first | exact Sl.old (by assumption) _ | exact sl_nilints | exact sl_nilitems | (refine sl_ints (Z4 _) ?_; exact rfl) | (refine sl_items (Z4 _) ?_; exact rfl) | (refine sl_ints0 (Z4 _) ?_; exact rfl) | (refine sl_items0 (Z4 _) ?_; exact rfl))
           · first | omega | (simp only [Z2]; omega)
           )
        | (with_reducible refine stepDesk_id _ people items _ _ _ _ _ (.inr rfl) ?_ ?_ ?_ ?_
           · exact hget _ _ _ _ _
           · exact fun b X => play_sl1 _ _ _ _ _ _ _
           · exact .slice _ _ _ (by simp only [Z6, Z3, Z2]; omega)
           · assumption
           )
        | ((with_reducible refine Z2w (n := 94) ?_); rintro _ _ ⟨rfl, hh⟩; replace hh := hh.symm; subst hh)
        | ((with_reducible refine Z2w (n := 101) ?_); rintro _ _ ⟨rfl, hh⟩; replace hh := hh.symm; subst hh)
        | ((with_reducible refine Z2w (n := 109) ?_); rintro _ _ ⟨rfl, hh⟩; replace hh := hh.symm; subst hh)
        )
      exact play_none
  · simp only [playDkV, playDkL, hk, Bool.false_and, Bool.false_eq_true, if_false]
    refine Z36 Try.func56 rfl Try.ntmps56 (by simp) (by dsimp only [Try.f56]) ?_
    repeat' (first
      | ((with_reducible refine eq_go ?_); simp only [stp, ev, Zb, Z2e, Z1z, Zk, Zl, reduceIte, Nat.reduceEqDiff, Zj, Zz, Zu, Z16, Z1a, Zm, Zp, Zo, Zd, Zx, Z2b, Z2x, Z1g, Z17, Zq, Zn, Zv, Z2p, Z2f, Z2o, Z2d, Z2g, Z1c, Z1b, Z2i, Z2n, Z2h, Z2j, Z2k, Z2l, Z2m, Z31, Z8, Z5, Z13, Zy, bld, fillL, vcs, splice, Ze, Z1, Z0, Z35, Ze, Z1, Z0, ldv, stv, vcs, idxA, blt, lenV, Z10, Z3, Z2, Zf, Zg, Ze, Z1, Z0, Z14, Zw, Zh, Zr, Z33, Z15, Z7, Zc, Z6, Z3, Z2, Zf, Zi, Nat.reduceAdd, Nat.reduceMul, Nat.reduceLeDiff, Z11, Z12, Z1y, Z1h, Z2c, Z23, Z28, Z27, Z26, Z25, Z24, Z1m, Z1l, Z1k, Z1j, Z1i, Z1w, Z1v, Z1u, Z1t, Z1s, Z32, Z2y, Z2q, Z2r, Z2s, Z20, Z1q, Z1r, Z2z, Z2t, Z21, Z22, splice, Za, Z9, Z1, Z0, Z19, Zt, Zs, Z18, newB, vcs, Z30, Z2v, Z1x, Z29, Z1n, Z2u, Z1o, Z1f, Z1p, Z1d, Z1e, Ty.ld3, Ty.sz3, Ty.zc3, Ty.by3, Ty.ld24, Ty.sz24, Ty.sl24, Ty.zc24, Ty.by24, Ty.ld56, Ty.sz56, Ty.sl56, Ty.zc56, Ty.by56, Ty.ld58, Ty.sz58, Ty.zc58, Ty.by58, Ty.pl58, Ty.ld71, Ty.sz71, Ty.sl71, Ty.zc71, Ty.by71, Ty.ld77, Ty.sz77, Ty.zc77, Ty.by77, Ty.pl77, Ty.ld80, Ty.sz80, Ty.zc80, Ty.by80, Ty.pl80, DAct.cells_length, DAct.cells_flat, DAct.cells_take, DAct.cells_splice, *]; rfl)
      | (with_reducible refine aw_then ?_) | (with_reducible refine aw_skip ?_) | (with_reducible refine aw_ret ?_) | (with_reducible refine aw_exit ?_) | (with_reducible refine aw_block ?_) | (with_reducible refine xr_reg (by decide +kernel) ?_)
      | (with_reducible refine xr_nil ?_) | (with_reducible refine k_norm ?_) | (with_reducible refine k_ret ?_) | (with_reducible refine k_exit ?_) | (with_reducible refine b_norm ?_) | (with_reducible refine b_ret ?_) | (with_reducible refine b_exit ?_) | (with_reducible refine b_past (by decide) ?_)
      | (refine xr_cl (f := ?_) (fs := ?_) (cs := ?_) (args := ?_) (K := ?_) ?_ ?_ ?_ ?_ ?_
         rotate_left 5
         · simp only [ev]; rfl
         first
         | (· with_reducible exact Ty.ok94
            rotate_left 2
            refine Z2a 94 ?_
            rotate_right 2)
         | (· with_reducible exact Ty.ok101
            rotate_left 2
            refine Z2a 101 ?_
            rotate_right 2)
         | (· with_reducible exact Ty.ok109
            rotate_left 2
            refine Z2a 109 ?_
            rotate_right 2)
         )
      | (refine xr_gcl (f := ?_) (fs := ?_) (cs := ?_) (args := ?_) (K := ?_) (by exact rfl) ?_ ?_ ?_ ?_ ?_ ?_
         rotate_left 5
         · simp only [ev, Zb, reduceIte, Nat.reduceEqDiff, Z8, Z5, *]
         · simp only [ev]; rfl
         first
         | (· with_reducible exact Ty.ok94
            rotate_left 2
            refine Z2a 94 ?_
            rotate_right 2)
         | (· with_reducible exact Ty.ok101
            rotate_left 2
            refine Z2a 101 ?_
            rotate_right 2)
         | (· with_reducible exact Ty.ok109
            rotate_left 2
            refine Z2a 109 ?_
            rotate_right 2)
         )
      | (refine xr_do (v := ?_) (h' := ?_) (by exact rfl) ?_ ?_; rotate_left 2)
      | (refine xr_st (v := ?_) (h' := ?_) (by exact rfl) ?_ ?_; rotate_left 2)
      | (refine xr_gdo (v := ?_) (h' := ?_) (by exact rfl) (by exact rfl) ?_ ?_ ?_
         rotate_left 2
         · simp only [ev, Zb, reduceIte, Nat.reduceEqDiff, Z8, Z5, *])
      | (refine xr_gst (v := ?_) (h' := ?_) (by exact rfl) (by exact rfl) ?_ ?_ ?_
         rotate_left 2
         · simp only [ev, Zb, reduceIte, Nat.reduceEqDiff, Z8, Z5, *])
      | (refine xr_goff (by exact rfl) ?_ ?_
         · simp only [ev, Zb, reduceIte, Nat.reduceEqDiff, Z8, Z5, *])
      | (refine xr_gsoff (by exact rfl) ?_ ?_
         · simp only [ev, Zb, reduceIte, Nat.reduceEqDiff, Z8, Z5, *])
      | (refine xr_gund (by exact rfl) ?_ ?_
         · simp only [ev, Zb, reduceIte, Nat.reduceEqDiff, Z8, Z5, *])
      | (refine xr_gsund (by exact rfl) ?_ ?_
         · simp only [ev, Zb, reduceIte, Nat.reduceEqDiff, Z8, Z5, *])
      | (refine xr_gif (b := ?_) (by exact rfl) ?_ (fun hb => ?_) (fun hb => ?_)
         rotate_left 1
         · simp only [ev, Zb, reduceIte, Nat.reduceEqDiff, Z8, Z5, *]; rfl)
      | (refine aw_ift (by decide) ?_ ?_
         · simp only [ev, Zb, reduceIte, Nat.reduceEqDiff, *])
      | (refine aw_iff (by decide) ?_ ?_
         · simp only [ev, Zb, reduceIte, Nat.reduceEqDiff, *])
      | (refine aw_if (b := ?_) (by decide) ?_ (fun hb => ?_) (fun hb => ?_)
         rotate_left 1
         · simp only [ev, Zb, reduceIte, Nat.reduceEqDiff, *]; rfl)
      | (refine r_ret (vs := ?_) ?_ ?_
         rotate_left 1
         · simp only [resV, oneOf, stp, ev, Zb, Z2e, Z1z, Zk, Zl, reduceIte, Nat.reduceEqDiff, Zj, Zz, Zu, Z16, Z1a, Zm, Zp, Zo, Zd, Zx, Z2b, Z2x, Z1g, Z17, Zq, Zn, Zv, Z2p, Z2f, Z2o, Z2d, Z2g, Z1c, Z1b, Z2i, Z2n, Z2h, Z2j, Z2k, Z2l, Z2m, Z31, Z8, Z5, Z13, Zy, bld, fillL, vcs, splice, Ze, Z1, Z0, Z35, Ze, Z1, Z0, ldv, stv, vcs, idxA, blt, lenV, Z10, Z3, Z2, Zf, Zg, Ze, Z1, Z0, Z14, Zw, Zh, Zr, Z33, Z15, Z7, Zc, Z6, Z3, Z2, Zf, Zi, Nat.reduceAdd, Nat.reduceMul, Nat.reduceLeDiff, Z11, Z12, Z1y, Z1h, Z2c, Z23, Z28, Z27, Z26, Z25, Z24, Z1m, Z1l, Z1k, Z1j, Z1i, Z1w, Z1v, Z1u, Z1t, Z1s, Z32, Z2y, Z2q, Z2r, Z2s, Z20, Z1q, Z1r, Z2z, Z2t, Z21, Z22, splice, Za, Z9, Z1, Z0, Z19, Zt, Zs, Z18, newB, vcs, Z30, Z2v, Z1x, Z29, Z1n, Z2u, Z1o, Z1f, Z1p, Z1d, Z1e, Ty.ld3, Ty.sz3, Ty.zc3, Ty.by3, Ty.ld24, Ty.sz24, Ty.sl24, Ty.zc24, Ty.by24, Ty.ld56, Ty.sz56, Ty.sl56, Ty.zc56, Ty.by56, Ty.ld58, Ty.sz58, Ty.zc58, Ty.by58, Ty.pl58, Ty.ld71, Ty.sz71, Ty.sl71, Ty.zc71, Ty.by71, Ty.ld77, Ty.sz77, Ty.zc77, Ty.by77, Ty.pl77, Ty.ld80, Ty.sz80, Ty.zc80, Ty.by80, Ty.pl80, DAct.cells_length, DAct.cells_flat, DAct.cells_take, DAct.cells_splice, *]; rfl)
      | (with_reducible refine isDesk_ok _ people [] _ _ _ ?_ ?_ ?_ ?_
         · first | assumption | exact Sl.old (by assumption) _ | ((try (simp only [deskV, deskL, Z11, Z12, Z1y, Z1h, Za, Z9, Z7, Zc, Zd, Z6, Z3, Z2, Zf, Zi, Nat.reduceAdd, Zh])); first | exact Sl.old (by assumption) _ | exact sl_nilints | exact sl_nilitems | (refine sl_ints (Z4 _) ?_; exact rfl) | (refine sl_items (Z4 _) ?_; exact rfl) | (refine sl_ints0 (Z4 _) ?_; exact rfl) | (refine sl_items0 (Z4 _) ?_; exact rfl))
         · first | assumption | exact Sl.old (by assumption) _ | ((try (simp only [deskV, deskL, Z11, Z12, Z1y, Z1h, Za, Z9, Z7, Zc, Zd, Z6, Z3, Z2, Zf, Zi, Nat.reduceAdd, Zh])); first | exact Sl.old (by assumption) _ | exact sl_nilints | exact sl_nilitems | (refine sl_ints (Z4 _) ?_; exact rfl) | (refine sl_items (Z4 _) ?_; exact rfl) | (refine sl_ints0 (Z4 _) ?_; exact rfl) | (refine sl_items0 (Z4 _) ?_; exact rfl))
         · first | omega | (simp only [Z2]; omega)
         · (simp only [Z2]; omega)
         )
      | (with_reducible refine cloneInts_ok people _ _ _ ?_ ?_
         · first | assumption | exact Sl.old (by assumption) _ | ((try (simp only [deskV, deskL, Z11, Z12, Z1y, Z1h, Za, Z9, Z7, Zc, Zd, Z6, Z3, Z2, Zf, Zi, Nat.reduceAdd, Zh])); first | exact Sl.old (by assumption) _ | exact sl_nilints | exact sl_nilitems | (refine sl_ints (Z4 _) ?_; exact rfl) | (refine sl_items (Z4 _) ?_; exact rfl) | (refine sl_ints0 (Z4 _) ?_; exact rfl) | (refine sl_items0 (Z4 _) ?_; exact rfl))
         · first | omega | (simp only [Z2]; omega)
         )
      | (with_reducible refine stepDesk_id _ people items _ _ _ _ _ (.inr rfl) ?_ ?_ ?_ ?_
         · exact hget _ _ _ _ _
         · exact fun b X => play_sl1 _ _ _ _ _ _ _
         · exact .slice _ _ _ (by simp only [Z6, Z3, Z2]; omega)
         · assumption
         )
      | ((with_reducible refine Z2w (n := 94) ?_); rintro _ _ ⟨rfl, hh⟩; replace hh := hh.symm; subst hh)
      | ((with_reducible refine Z2w (n := 101) ?_); rintro _ _ ⟨rfl, hh⟩; replace hh := hh.symm; subst hh)
      | ((with_reducible refine Z2w (n := 109) ?_); rintro _ _ ⟨rfl, hh⟩; replace hh := hh.symm; subst hh)
      )
    exact play_none
end Go.Proofs.Ytiddnhhjlipebaa.Am
namespace Go.Proofs.Ytiddnhhjlipebaa.Am
open Go Go.Proofs
set_option linter.unusedVariables false
set_option linter.unusedSimpArgs false
set_option maxRecDepth 100000
set_option maxHeartbeats 8000000

def playDsV (n : Nat) (people : List Int) (l : List DAct) : Value :=
  if peopleOk people && decide ((l.length : Int) ≤ 60) then
    (if l = [] then .tuple #[.agg #[.int .i64 0, .slice (some ⟨n, 0, some 0⟩) people.length people.length, .slice none 0 0], .slice none 0 0, .bool true]
    else .tuple #[.agg #[.int .i64 (playA people l).1, .slice (some ⟨n, 0, some 0⟩) people.length people.length, .slice (some ⟨n + 1, 0, some 0⟩) (playA people l).2.1.length (playA people l).2.1.length], .slice (some ⟨n + 2, 0, some 0⟩) l.length l.length, .bool true])
  else .tuple #[.agg #[.int .i64 0, .slice none 0 0, .slice none 0 0], .slice none 0 0, .bool false]
def playDsL (people : List Int) (l : List DAct) : Heap :=
  if peopleOk people && decide ((l.length : Int) ≤ 60) then (if l = [] then [⟨2, 1, (ints people).flatten⟩] else [⟨2, 1, (ints people).flatten⟩, ⟨2, 6, cellsL (playA people l).2.1⟩, ⟨2, 1, (ints (playA people l).2.2).flatten⟩]) else []

theorem plays_keep {h X : Heap} {people : List Int} {items : List Item} {codes : List Int} {now : Int} {n j1 j2 jc : Nat} (hn : codes.length = n) (h1 : X[j1]? = some ⟨2, 1, (ints people).flatten⟩) (h2 : X[j2]? = some ⟨2, 6, cellsL items⟩) (hc : X[jc]? = some ⟨2, 1, (ints codes).flatten⟩)
    (n1 : j1 ≠ j2) (n2 : j1 ≠ jc) (n3 : j2 ≠ jc) (A B C : Blk) :
    ∃ (L' : Heap) (ks : List Nat), h ++ (A :: B :: C :: X) = h ++ L' ∧ Inj ks ∧ ks.length = ([(⟨2, 1, (ints people).flatten⟩ : Blk), ⟨2, 6, cellsL items⟩, ⟨2, 1, (ints codes).flatten⟩]).length ∧
      BsOk [⟨2, 1, (ints people).flatten⟩, ⟨2, 6, cellsL items⟩, ⟨2, 1, (ints codes).flatten⟩] L' ks ∧
      RV h.length L' ks (.tuple #[.agg #[.int .i64 now, .slice (some ⟨h.length, 0, some 0⟩) people.length people.length, .slice (some ⟨h.length + 1, 0, some 0⟩) items.length items.length], .slice (some ⟨h.length + 2, 0, some 0⟩) n n, .bool true])
        (.tuple #[.agg #[.int .i64 now, .slice (some ⟨h.length + (j1 + 3), 0, some 0⟩) people.length people.length, .slice (some ⟨h.length + (j2 + 3), 0, some 0⟩) items.length items.length], .slice (some ⟨h.length + (jc + 3), 0, some 0⟩) n n, .bool true]) := by
  subst hn
  have e : ∀ {j : Nat} {b : Blk}, X[j]? = some b → (A :: B :: C :: X)[j + 3]? = some b := fun q => by simpa using q
  refine ⟨_, [j1 + 3, j2 + 3, jc + 3], rfl, Inj.three (by omega) (by omega) (by omega), rfl, BsOk.cons rfl (ints_af _) (e h1) (BsOk.cons rfl (cellsL_af _) (e h2) (BsOk.cons rfl (ints_af _) (e hc) (BsOk.nil _ _))), ?_⟩
  exact RVl.tuple (l := [_, _, _]) (l' := [_, _, _]) ⟨RVl.agg (l := [_, _, _]) (l' := [_, _, _]) ⟨.plain _ rfl, .sl 0 _ _ _ 1 _ _ rfl (e h1) (ints_flen _) (Z4 _) (.inr rfl), .sl 1 _ _ _ 6 _ _ rfl (e h2) (cellsL_len _) (Z4 _) (.inr rfl), trivial⟩,
    .sl 2 _ _ _ 1 _ _ rfl (e hc) (ints_flen _) (Z4 _) (.inr rfl), .plain _ rfl, trivial⟩
theorem plays_keep0 {h X : Heap} {people : List Int} (A C : Blk) :
    ∃ (L' : Heap) (ks : List Nat), h ++ (A :: ⟨2, 1, (ints people).flatten⟩ :: C :: X) = h ++ L' ∧ Inj ks ∧ ks.length = ([(⟨2, 1, (ints people).flatten⟩ : Blk)]).length ∧ BsOk [⟨2, 1, (ints people).flatten⟩] L' ks ∧
      RV h.length L' ks (.tuple #[.agg #[.int .i64 0, .slice (some ⟨h.length, 0, some 0⟩) people.length people.length, .slice none 0 0], .slice none 0 0, .bool true])
        (.tuple #[.agg #[.int .i64 0, .slice (some ⟨h.length + 1, 0, some 0⟩) people.length people.length, .slice none 0 0], .slice none 0 0, .bool true]) :=
  ⟨_, [1], rfl, Inj.one _, rfl, BsOk.cons rfl (ints_af _) rfl (BsOk.nil _ _),
    RVl.tuple (l := [_, _, _]) (l' := [_, _, _]) ⟨RVl.agg (l := [_, _, _]) (l' := [_, _, _]) ⟨.plain _ rfl, .sl 0 1 _ _ 1 _ _ rfl rfl (ints_flen _) (Z4 _) (.inr rfl), .plain _ rfl, trivial⟩, .plain _ rfl, .plain _ rfl, trivial⟩⟩

/-- Where a play's parts lie. -/
def SpAt (n : Nat) (people : List Int) (k : Nat) (X : Heap) (vp vi vc : Value) (items : List Item) (cs : List Int) : Prop :=
  (k = 0 ∧ X = [] ∧ vp = .slice (some ⟨n + 1, 0, some 0⟩) people.length people.length ∧ vi = .slice none 0 0 ∧ vc = .slice none 0 0 ∧ items = [] ∧ cs = []) ∨
  (0 < k ∧ ∃ j1 j2 jc, X[j1]? = some ⟨2, 1, (ints people).flatten⟩ ∧ X[j2]? = some ⟨2, 6, cellsL items⟩ ∧ X[jc]? = some ⟨2, 1, (ints cs).flatten⟩ ∧ j1 ≠ j2 ∧ j1 ≠ jc ∧ j2 ≠ jc ∧
    vp = .slice (some ⟨n + (j1 + 3), 0, some 0⟩) people.length people.length ∧ vi = .slice (some ⟨n + (j2 + 3), 0, some 0⟩) items.length items.length ∧ vc = .slice (some ⟨n + (jc + 3), 0, some 0⟩) k k)

theorem ints_one (x : Int) : ints [x] = [[.int .i64 x]] := rfl
theorem sp_sl1 {h X : Heap} {people : List Int} {j : Nat} (hj : X[j]? = some ⟨2, 1, (ints people).flatten⟩) (A B C : Blk) (Y : Heap) : Sl (h ++ A :: B :: C :: (X ++ Y)) (.slice (some ⟨h.length + (j + 3), 0, some 0⟩) people.length people.length) 1 (ints people) :=
  sl_ints (h := h) (k := j + 3) (Z4 _) (by simp only [Z0]; exact get_old hj)
theorem sp_sl2 {h X : Heap} {items : List Item} {j : Nat} (hj : X[j]? = some ⟨2, 6, cellsL items⟩) (A B C : Blk) (Y : Heap) : Sl (h ++ A :: B :: C :: (X ++ Y)) (.slice (some ⟨h.length + (j + 3), 0, some 0⟩) items.length items.length) 6 (items.map Item.cells) :=
  sl_items (h := h) (k := j + 3) (Z4 _) (by simp only [Z0]; exact get_old hj)

theorem specPlayDesk_ok (people : List Int) (l : List DAct) (ap : Addr) (c : Nat) (vl : Value) (h : Heap) (hp : Sl h (.slice (some ap) people.length c) 1 (ints people)) (hs : Sl h vl 8 (l.map DAct.cells)) (hl : people.length ≤ 1048576) (hll : l.length ≤ 1048576) :
    ACalls Try.prog 0 57 #[.slice (some ap) people.length c, vl] h fun v h' => v = playDsV h.length people l ∧ h' = h ++ playDsL people l := by
  refine acalls_canon _ _ ?_
  have hf := hs.flat
  obtain ⟨bl, cl, rfl, hcl, hrow⟩ := id hs
  simp only [Zv] at hf hcl hs ⊢
  have hdn := deskOk_nil people
  rcases Bool.eq_false_or_eq_true (peopleOk people) with hk | hk
  · by_cases h60 : (l.length : Int) ≤ 60
    · have h60' : decide (60 < (l.length : Int)) = false := decide_eq_false (by omega)
      simp only [playDsV, playDsL, hk, decide_eq_true h60, Z1e, Z2x]
      refine Z36 Try.func57 rfl Try.ntmps57 (by simp) (by dsimp only [Try.f57]) ?_
      repeat' (first
        | ((with_reducible refine eq_go ?_); simp only [stp, ev, Zb, Z2e, Z1z, Zk, Zl, reduceIte, Nat.reduceEqDiff, Zj, Zz, Zu, Z16, Z1a, Zm, Zp, Zo, Zd, Zx, Z2b, Z2x, Z1g, Z17, Zq, Zn, Zv, Z2p, Z2f, Z2o, Z2d, Z2g, Z1c, Z1b, Z2i, Z2n, Z2h, Z2j, Z2k, Z2l, Z2m, Z31, Z8, Z5, Z13, Zy, bld, fillL, vcs, splice, Ze, Z1, Z0, Z35, Ze, Z1, Z0, ldv, stv, vcs, idxA, blt, lenV, Z10, Z3, Z2, Zf, Zg, Ze, Z1, Z0, Z14, Zw, Zh, Zr, Z33, Z15, Z7, Zc, Z6, Z3, Z2, Zf, Zi, Nat.reduceAdd, Nat.reduceMul, Nat.reduceLeDiff, Z11, Z12, Z1y, Z1h, Z2c, Z23, Z28, Z27, Z26, Z25, Z24, Z1m, Z1l, Z1k, Z1j, Z1i, Z1w, Z1v, Z1u, Z1t, Z1s, Z32, Z2y, Z2q, Z2r, Z2s, Z20, Z1q, Z1r, Z2z, Z2t, Z21, Z22, splice, Za, Z9, Z1, Z0, Z19, Zt, Zs, Z18, newB, vcs, Z30, Z2v, Z1x, Z29, Z1n, Z2u, Z1o, Z1f, Z1p, Z1d, Z1e, Ty.ld3, Ty.sz3, Ty.zc3, Ty.by3, Ty.ld24, Ty.sz24, Ty.sl24, Ty.zc24, Ty.by24, Ty.ld56, Ty.sz56, Ty.sl56, Ty.zc56, Ty.by56, Ty.ld58, Ty.sz58, Ty.zc58, Ty.by58, Ty.pl58, Ty.ld71, Ty.sz71, Ty.sl71, Ty.zc71, Ty.by71, Ty.ld77, Ty.sz77, Ty.zc77, Ty.by77, Ty.pl77, Ty.ld80, Ty.sz80, Ty.zc80, Ty.by80, Ty.pl80, newDeskV, newDeskL, Z2x, *]; rfl)
        | (with_reducible refine aw_then ?_) | (with_reducible refine aw_skip ?_) | (with_reducible refine aw_ret ?_) | (with_reducible refine aw_exit ?_) | (with_reducible refine aw_block ?_) | (with_reducible refine xr_reg (by decide +kernel) ?_)
        | (with_reducible refine xr_nil ?_) | (with_reducible refine k_norm ?_) | (with_reducible refine k_ret ?_) | (with_reducible refine k_exit ?_) | (with_reducible refine b_norm ?_) | (with_reducible refine b_ret ?_) | (with_reducible refine b_exit ?_) | (with_reducible refine b_past (by decide) ?_)
        | (refine xr_cl (f := ?_) (fs := ?_) (cs := ?_) (args := ?_) (K := ?_) ?_ ?_ ?_ ?_ ?_
           rotate_left 5
           · simp only [ev]; rfl
           first
           | (· with_reducible exact Ty.ok46
              rotate_left 2
              refine Z2a 46 ?_
              rotate_right 2)
           )
        | (refine xr_gcl (f := ?_) (fs := ?_) (cs := ?_) (args := ?_) (K := ?_) (by exact rfl) ?_ ?_ ?_ ?_ ?_ ?_
           rotate_left 5
           · simp only [ev, Zb, reduceIte, Nat.reduceEqDiff, Z8, Z5, *]
           · simp only [ev]; rfl
           first
           | (· with_reducible exact Ty.ok46
              rotate_left 2
              refine Z2a 46 ?_
              rotate_right 2)
           )
        | (refine xr_do (v := ?_) (h' := ?_) (by exact rfl) ?_ ?_; rotate_left 2)
        | (refine xr_st (v := ?_) (h' := ?_) (by exact rfl) ?_ ?_; rotate_left 2)
        | (refine xr_gdo (v := ?_) (h' := ?_) (by exact rfl) (by exact rfl) ?_ ?_ ?_
           rotate_left 2
           · simp only [ev, Zb, reduceIte, Nat.reduceEqDiff, Z8, Z5, *])
        | (refine xr_gst (v := ?_) (h' := ?_) (by exact rfl) (by exact rfl) ?_ ?_ ?_
           rotate_left 2
           · simp only [ev, Zb, reduceIte, Nat.reduceEqDiff, Z8, Z5, *])
        | (refine xr_goff (by exact rfl) ?_ ?_
           · simp only [ev, Zb, reduceIte, Nat.reduceEqDiff, Z8, Z5, *])
        | (refine xr_gsoff (by exact rfl) ?_ ?_
           · simp only [ev, Zb, reduceIte, Nat.reduceEqDiff, Z8, Z5, *])
        | (refine xr_gund (by exact rfl) ?_ ?_
           · simp only [ev, Zb, reduceIte, Nat.reduceEqDiff, Z8, Z5, *])
        | (refine xr_gsund (by exact rfl) ?_ ?_
           · simp only [ev, Zb, reduceIte, Nat.reduceEqDiff, Z8, Z5, *])
        | (refine xr_gif (b := ?_) (by exact rfl) ?_ (fun hb => ?_) (fun hb => ?_)
           rotate_left 1
           · simp only [ev, Zb, reduceIte, Nat.reduceEqDiff, Z8, Z5, *]; rfl)
        | (refine aw_ift (by decide) ?_ ?_
           · simp only [ev, Zb, reduceIte, Nat.reduceEqDiff, *])
        | (refine aw_iff (by decide) ?_ ?_
           · simp only [ev, Zb, reduceIte, Nat.reduceEqDiff, *])
        | (refine aw_if (b := ?_) (by decide) ?_ (fun hb => ?_) (fun hb => ?_)
           rotate_left 1
           · simp only [ev, Zb, reduceIte, Nat.reduceEqDiff, *]; rfl)
        | (refine r_ret (vs := ?_) ?_ ?_
           rotate_left 1
           · simp only [resV, oneOf, stp, ev, Zb, Z2e, Z1z, Zk, Zl, reduceIte, Nat.reduceEqDiff, Zj, Zz, Zu, Z16, Z1a, Zm, Zp, Zo, Zd, Zx, Z2b, Z2x, Z1g, Z17, Zq, Zn, Zv, Z2p, Z2f, Z2o, Z2d, Z2g, Z1c, Z1b, Z2i, Z2n, Z2h, Z2j, Z2k, Z2l, Z2m, Z31, Z8, Z5, Z13, Zy, bld, fillL, vcs, splice, Ze, Z1, Z0, Z35, Ze, Z1, Z0, ldv, stv, vcs, idxA, blt, lenV, Z10, Z3, Z2, Zf, Zg, Ze, Z1, Z0, Z14, Zw, Zh, Zr, Z33, Z15, Z7, Zc, Z6, Z3, Z2, Zf, Zi, Nat.reduceAdd, Nat.reduceMul, Nat.reduceLeDiff, Z11, Z12, Z1y, Z1h, Z2c, Z23, Z28, Z27, Z26, Z25, Z24, Z1m, Z1l, Z1k, Z1j, Z1i, Z1w, Z1v, Z1u, Z1t, Z1s, Z32, Z2y, Z2q, Z2r, Z2s, Z20, Z1q, Z1r, Z2z, Z2t, Z21, Z22, splice, Za, Z9, Z1, Z0, Z19, Zt, Zs, Z18, newB, vcs, Z30, Z2v, Z1x, Z29, Z1n, Z2u, Z1o, Z1f, Z1p, Z1d, Z1e, Ty.ld3, Ty.sz3, Ty.zc3, Ty.by3, Ty.ld24, Ty.sz24, Ty.sl24, Ty.zc24, Ty.by24, Ty.ld56, Ty.sz56, Ty.sl56, Ty.zc56, Ty.by56, Ty.ld58, Ty.sz58, Ty.zc58, Ty.by58, Ty.pl58, Ty.ld71, Ty.sz71, Ty.sl71, Ty.zc71, Ty.by71, Ty.ld77, Ty.sz77, Ty.zc77, Ty.by77, Ty.pl77, Ty.ld80, Ty.sz80, Ty.zc80, Ty.by80, Ty.pl80, newDeskV, newDeskL, Z2x, *]; rfl)
        | (with_reducible refine specNewDesk_ok people _ _ _ ?_ ?_
           · first | assumption | exact Sl.old (by assumption) _ | ((try (simp only [deskV, deskL, Z11, Z12, Z1y, Z1h, Za, Z9, Z7, Zc, Zd, Z6, Z3, Z2, Zf, Zi, Nat.reduceAdd, Zh])); first | exact Sl.old (by assumption) _ | exact sl_nilints | exact sl_nilitems | (refine sl_ints (Z4 _) ?_; exact rfl) | (refine sl_items (Z4 _) ?_; exact rfl) | (refine sl_ints0 (Z4 _) ?_; exact rfl) | (refine sl_items0 (Z4 _) ?_; exact rfl))
           · first | omega | (simp only [Z2]; omega)
           )
        | ((with_reducible refine Z2w (n := 46) ?_); rintro _ _ ⟨rfl, hh⟩; replace hh := hh.symm; subst hh)
        )
      refine aw_for [4, 7, 27, 28] (fun k T h' => ∃ X vp vi, h' = h ++ (⟨2, 1, [.int .i64 0, .slice none 0 0, .slice none 0 0]⟩ :: ⟨2, 1, (ints people).flatten⟩ :: ⟨2, 1, [.int .i64 (playA people (l.take k)).1, vp, vi]⟩ :: X) ∧
        T 29 = .int .i64 (k : Nat) ∧ SpAt h.length people k X vp vi (T 9) (playA people (l.take k)).2.1 (playA people (l.take k)).2.2) l.length (k0 := 0) (Nat.zero_le _) ⟨[], _, _, rfl, rfl, .inl ⟨rfl, rfl, rfl, rfl, rfl, rfl, rfl⟩⟩ ?_
      rintro k T h' hkl hR ⟨X, vp, vi, rfl, h29, hat⟩
      simp only [Z37, Z38, Z39, implies_true, and_true, stp, ev, Zb, Z2e, Z1z, Zk, Zl, reduceIte, Nat.reduceEqDiff, Zj, Zz, Zu, Z16, Z1a, Zm, Zp, Zo, Zd, Zx, Z2b, Z2x, Z1g, Z17, Zq, Zn, Zv, Z2p, Z2f, Z2o, Z2d, Z2g, Z1c, Z1b, Z2i, Z2n, Z2h, Z2j, Z2k, Z2l, Z2m, Z31, Z8, Z5, Z13, Zy] at hR
      obtain ⟨hgk, hlk⟩ := playA_inv people (hdn.trans hk) l k hkl
      rcases Nat.lt_or_ge k l.length with hkn | hkn
      · have h1 : (k : Int) < l.length := by omega
        have hsn := playA_snoc people hkn
        obtain ⟨al, rfl, hld0⟩ := Sl.row hrow (k := k) (by simpa using hkn)
        rw [List.getElem_map] at hld0
        have hld := loadCs_old hld0
        generalize playA people (l.take k) = s at hgk hlk hsn hat ⊢
        obtain ⟨now, items, cs⟩ := s
        simp only at hgk hlk hat
        generalize l[k] = a at hsn hld
        clear hs hrow hld0 h60' hdn hk
        have hpl := deskOk_people hgk
        rcases hat with ⟨rfl, rfl, rfl, rfl, h9, rfl, rfl⟩ | ⟨h0, j1, j2, jc, b1, b2, bc, n1, n2, n3, rfl, rfl, h9⟩
        · simp only [Nat.zero_mul, Zi] at hld
          have hbs := bsl_one (h := h ++ (⟨2, 1, [.int .i64 0, .slice none 0 0, .slice none 0 0]⟩ :: ⟨2, 1, (ints people).flatten⟩ :: ⟨2, 1, [.int .i64 (stepNow now a), .slice (some ⟨h.length + 4, 0, some 0⟩) people.length people.length, .slice (some ⟨h.length + 5, 0, some 0⟩) (stepItems now people [] a).length (stepItems now people [] a).length]⟩ :: [⟨2, 1, a.cells⟩, ⟨2, 1, (ints people).flatten⟩, ⟨2, 6, cellsL (stepItems now people [] a)⟩, ⟨2, 1, [.int .i64 (stepNow now a), .slice (some ⟨h.length + 4, 0, some 0⟩) people.length people.length, .slice (some ⟨h.length + 5, 0, some 0⟩) (stepItems now people [] a).length (stepItems now people [] a).length]⟩])) (x := .int .i64 (stepCode now people [] a)) Ty.sl24 Ty.zc3 rfl rfl
          have hap := apS_nil (P := Try.prog) (H := h ++ (⟨2, 1, [.int .i64 0, .slice none 0 0, .slice none 0 0]⟩ :: ⟨2, 1, (ints people).flatten⟩ :: ⟨2, 1, [.int .i64 (stepNow now a), .slice (some ⟨h.length + 4, 0, some 0⟩) people.length people.length, .slice (some ⟨h.length + 5, 0, some 0⟩) (stepItems now people [] a).length (stepItems now people [] a).length]⟩ :: [⟨2, 1, a.cells⟩, ⟨2, 1, (ints people).flatten⟩, ⟨2, 6, cellsL (stepItems now people [] a)⟩, ⟨2, 1, [.int .i64 (stepNow now a), .slice (some ⟨h.length + 4, 0, some 0⟩) people.length people.length, .slice (some ⟨h.length + 5, 0, some 0⟩) (stepItems now people [] a).length (stepItems now people [] a).length]⟩, ⟨2, 1, [.int .i64 (stepCode now people [] a)]⟩])) (id2 := h.length + 7) (sp := none) (m := 1) (xs := [.int .i64 (stepCode now people [] a)])
            Ty.sl24 Ty.zc3 Ty.by3 (by rw [get_at]; rfl) rfl (by decide) (by omega) (by omega)
          simp only [Z7, Zc, Zd, Z6, Z3, Z2, Zf, Zh, Nat.reduceAdd, ints_one] at hbs hap
          repeat' (first
            | ((with_reducible refine eq_go ?_); simp only [stp, ev, Zb, Z2e, Z1z, Zk, Zl, reduceIte, Nat.reduceEqDiff, Zj, Zz, Zu, Z16, Z1a, Zm, Zp, Zo, Zd, Zx, Z2b, Z2x, Z1g, Z17, Zq, Zn, Zv, Z2p, Z2f, Z2o, Z2d, Z2g, Z1c, Z1b, Z2i, Z2n, Z2h, Z2j, Z2k, Z2l, Z2m, Z31, Z8, Z5, Z13, Zy, bld, fillL, vcs, splice, Ze, Z1, Z0, Z35, Ze, Z1, Z0, ldv, stv, vcs, idxA, blt, lenV, Z10, Z3, Z2, Zf, Zg, Ze, Z1, Z0, Z14, Zw, Zh, Zr, Z33, Z15, Z7, Zc, Z6, Z3, Z2, Zf, Zi, Nat.reduceAdd, Nat.reduceMul, Nat.reduceLeDiff, Z11, Z12, Z1y, Z1h, Z2c, Z23, Z28, Z27, Z26, Z25, Z24, Z1m, Z1l, Z1k, Z1j, Z1i, Z1w, Z1v, Z1u, Z1t, Z1s, Z32, Z2y, Z2q, Z2r, Z2s, Z20, Z1q, Z1r, Z2z, Z2t, Z21, Z22, splice, Za, Z9, Z1, Z0, Z19, Zt, Zs, Z18, newB, vcs, Z30, Z2v, Z1x, Z29, Z1n, Z2u, Z1o, Z1f, Z1p, Z1d, Z1e, Ty.ld3, Ty.sz3, Ty.zc3, Ty.by3, Ty.ld24, Ty.sz24, Ty.sl24, Ty.zc24, Ty.by24, Ty.ld56, Ty.sz56, Ty.sl56, Ty.zc56, Ty.by56, Ty.ld58, Ty.sz58, Ty.zc58, Ty.by58, Ty.pl58, Ty.ld71, Ty.sz71, Ty.sl71, Ty.zc71, Ty.by71, Ty.ld77, Ty.sz77, Ty.zc77, Ty.by77, Ty.pl77, Ty.ld80, Ty.sz80, Ty.zc80, Ty.by80, Ty.pl80, DAct.cells_length, DAct.cells_flat, DAct.cells_take, DAct.cells_splice, *]; rfl)
            | (with_reducible refine aw_then ?_) | (with_reducible refine aw_skip ?_) | (with_reducible refine aw_ret ?_) | (with_reducible refine aw_exit ?_) | (with_reducible refine aw_block ?_) | (with_reducible refine xr_reg (by decide +kernel) ?_)
            | (with_reducible refine xr_nil ?_) | (with_reducible refine k_norm ?_) | (with_reducible refine k_ret ?_) | (with_reducible refine k_exit ?_) | (with_reducible refine b_norm ?_) | (with_reducible refine b_ret ?_) | (with_reducible refine b_exit ?_) | (with_reducible refine b_past (by decide) ?_)
            | (refine xr_cl (f := ?_) (fs := ?_) (cs := ?_) (args := ?_) (K := ?_) ?_ ?_ ?_ ?_ ?_
               rotate_left 5
               · simp only [ev]; rfl
               first
               | (· with_reducible exact Ty.ok46
                  rotate_left 2
                  refine Z2a 46 ?_
                  rotate_right 2)
               | (· with_reducible exact Ty.ok110
                  rotate_left 2
                  refine Z2a 110 ?_
                  rotate_right 2)
               )
            | (refine xr_gcl (f := ?_) (fs := ?_) (cs := ?_) (args := ?_) (K := ?_) (by exact rfl) ?_ ?_ ?_ ?_ ?_ ?_
               rotate_left 5
               · simp only [ev, Zb, reduceIte, Nat.reduceEqDiff, Z8, Z5, *]
               · simp only [ev]; rfl
               first
               | (· with_reducible exact Ty.ok46
                  rotate_left 2
                  refine Z2a 46 ?_
                  rotate_right 2)
               | (· with_reducible exact Ty.ok110
                  rotate_left 2
                  refine Z2a 110 ?_
                  rotate_right 2)
               )
            | (refine xr_do (v := ?_) (h' := ?_) (by exact rfl) ?_ ?_; rotate_left 2)
            | (refine xr_st (v := ?_) (h' := ?_) (by exact rfl) ?_ ?_; rotate_left 2)
            | (refine xr_gdo (v := ?_) (h' := ?_) (by exact rfl) (by exact rfl) ?_ ?_ ?_
               rotate_left 2
               · simp only [ev, Zb, reduceIte, Nat.reduceEqDiff, Z8, Z5, *])
            | (refine xr_gst (v := ?_) (h' := ?_) (by exact rfl) (by exact rfl) ?_ ?_ ?_
               rotate_left 2
               · simp only [ev, Zb, reduceIte, Nat.reduceEqDiff, Z8, Z5, *])
            | (refine xr_goff (by exact rfl) ?_ ?_
               · simp only [ev, Zb, reduceIte, Nat.reduceEqDiff, Z8, Z5, *])
            | (refine xr_gsoff (by exact rfl) ?_ ?_
               · simp only [ev, Zb, reduceIte, Nat.reduceEqDiff, Z8, Z5, *])
            | (refine xr_gund (by exact rfl) ?_ ?_
               · simp only [ev, Zb, reduceIte, Nat.reduceEqDiff, Z8, Z5, *])
            | (refine xr_gsund (by exact rfl) ?_ ?_
               · simp only [ev, Zb, reduceIte, Nat.reduceEqDiff, Z8, Z5, *])
            | (refine xr_gif (b := ?_) (by exact rfl) ?_ (fun hb => ?_) (fun hb => ?_)
               rotate_left 1
               · simp only [ev, Zb, reduceIte, Nat.reduceEqDiff, Z8, Z5, *]; rfl)
            | (refine aw_ift (by decide) ?_ ?_
               · simp only [ev, Zb, reduceIte, Nat.reduceEqDiff, *])
            | (refine aw_iff (by decide) ?_ ?_
               · simp only [ev, Zb, reduceIte, Nat.reduceEqDiff, *])
            | (refine aw_if (b := ?_) (by decide) ?_ (fun hb => ?_) (fun hb => ?_)
               rotate_left 1
               · simp only [ev, Zb, reduceIte, Nat.reduceEqDiff, *]; rfl)
            | (refine r_ret (vs := ?_) ?_ ?_
               rotate_left 1
               · simp only [resV, oneOf, stp, ev, Zb, Z2e, Z1z, Zk, Zl, reduceIte, Nat.reduceEqDiff, Zj, Zz, Zu, Z16, Z1a, Zm, Zp, Zo, Zd, Zx, Z2b, Z2x, Z1g, Z17, Zq, Zn, Zv, Z2p, Z2f, Z2o, Z2d, Z2g, Z1c, Z1b, Z2i, Z2n, Z2h, Z2j, Z2k, Z2l, Z2m, Z31, Z8, Z5, Z13, Zy, bld, fillL, vcs, splice, Ze, Z1, Z0, Z35, Ze, Z1, Z0, ldv, stv, vcs, idxA, blt, lenV, Z10, Z3, Z2, Zf, Zg, Ze, Z1, Z0, Z14, Zw, Zh, Zr, Z33, Z15, Z7, Zc, Z6, Z3, Z2, Zf, Zi, Nat.reduceAdd, Nat.reduceMul, Nat.reduceLeDiff, Z11, Z12, Z1y, Z1h, Z2c, Z23, Z28, Z27, Z26, Z25, Z24, Z1m, Z1l, Z1k, Z1j, Z1i, Z1w, Z1v, Z1u, Z1t, Z1s, Z32, Z2y, Z2q, Z2r, Z2s, Z20, Z1q, Z1r, Z2z, Z2t, Z21, Z22, splice, Za, Z9, Z1, Z0, Z19, Zt, Zs, Z18, newB, vcs, Z30, Z2v, Z1x, Z29, Z1n, Z2u, Z1o, Z1f, Z1p, Z1d, Z1e, Ty.ld3, Ty.sz3, Ty.zc3, Ty.by3, Ty.ld24, Ty.sz24, Ty.sl24, Ty.zc24, Ty.by24, Ty.ld56, Ty.sz56, Ty.sl56, Ty.zc56, Ty.by56, Ty.ld58, Ty.sz58, Ty.zc58, Ty.by58, Ty.pl58, Ty.ld71, Ty.sz71, Ty.sl71, Ty.zc71, Ty.by71, Ty.ld77, Ty.sz77, Ty.zc77, Ty.by77, Ty.pl77, Ty.ld80, Ty.sz80, Ty.zc80, Ty.by80, Ty.pl80, DAct.cells_length, DAct.cells_flat, DAct.cells_take, DAct.cells_splice, *]; rfl)
            | (with_reducible refine specNewDesk_ok people _ _ _ ?_ ?_
               · first | assumption | exact Sl.old (by assumption) _ | ((try (simp only [deskV, deskL, Z11, Z12, Z1y, Z1h, Za, Z9, Z7, Zc, Zd, Z6, Z3, Z2, Zf, Zi, Nat.reduceAdd, Zh])); first | exact Sl.old (by assumption) _ | exact sl_nilints | exact sl_nilitems | (refine sl_ints (Z4 _) ?_; exact rfl) | (refine sl_items (Z4 _) ?_; exact rfl) | (refine sl_ints0 (Z4 _) ?_; exact rfl) | (refine sl_items0 (Z4 _) ?_; exact rfl))
               · first | omega | (simp only [Z2]; omega)
               )
            | (with_reducible refine l16Step_ok _ people [] _ _ _ _ _ ?_ ?_ ?_ ?_
               · first | assumption | exact Sl.old (by assumption) _ | ((try (simp only [deskV, deskL, Z11, Z12, Z1y, Z1h, Za, Z9, Z7, Zc, Zd, Z6, Z3, Z2, Zf, Zi, Nat.reduceAdd, Zh])); first | exact Sl.old (by assumption) _ | exact sl_nilints | exact sl_nilitems | (refine sl_ints (Z4 _) ?_; exact rfl) | (refine sl_items (Z4 _) ?_; exact rfl) | (refine sl_ints0 (Z4 _) ?_; exact rfl) | (refine sl_items0 (Z4 _) ?_; exact rfl))
               · first | assumption | exact Sl.old (by assumption) _ | ((try (simp only [deskV, deskL, Z11, Z12, Z1y, Z1h, Za, Z9, Z7, Zc, Zd, Z6, Z3, Z2, Zf, Zi, Nat.reduceAdd, Zh])); first | exact Sl.old (by assumption) _ | exact sl_nilints | exact sl_nilitems | (refine sl_ints (Z4 _) ?_; exact rfl) | (refine sl_items (Z4 _) ?_; exact rfl) | (refine sl_ints0 (Z4 _) ?_; exact rfl) | (refine sl_items0 (Z4 _) ?_; exact rfl))
               · assumption
               · (intro i q; simp [bid] at q)
               )
            | ((with_reducible refine Z2w (n := 46) ?_); rintro _ _ ⟨rfl, hh⟩; replace hh := hh.symm; subst hh)
            | ((with_reducible refine Z2w (n := 110) ?_); rintro _ _ ⟨rfl, hh⟩; replace hh := hh.symm; subst hh)
            )
          refine ⟨by first | assumption | omega, ?_, ?_⟩
          · simp only [Z37, Z38, Z39, implies_true, and_true, Z2b, stp, ev, Zb, Z2e, Z1z, Zk, Zl, reduceIte, Nat.reduceEqDiff, Zj, Zz, Zu, Z16, Z1a, Zm, Zp, Zo, Zd, Zx, Z2b, Z2x, Z1g, Z17, Zq, Zn, Zv, Z2p, Z2f, Z2o, Z2d, Z2g, Z1c, Z1b, Z2i, Z2n, Z2h, Z2j, Z2k, Z2l, Z2m, Z31, Z8, Z5, Z13, Zy, *]
          rw [hsn]
          refine ⟨_, .slice (some ⟨h.length + 4, 0, some 0⟩) people.length people.length, .slice (some ⟨h.length + 5, 0, some 0⟩) (stepItems now people [] a).length (stepItems now people [] a).length, rfl, ?_, .inr ⟨by omega, 1, 2, 5, rfl, rfl, ?_, by decide, by decide, by decide, rfl, rfl, ?_⟩⟩
          all_goals first | (simp only [Zb, reduceIte, Nat.reduceEqDiff]; rw [wrap_id (by omega)]; rfl) | (simp [playT, ints]; done) | (simp only [Zb, reduceIte, Nat.reduceEqDiff]; rfl) | (simp [Zb, Zh]; done) | (simp only [Zb, reduceIte, Nat.reduceEqDiff]; skip)
        · have hl1 := lt_of_get b1
          have hl2 := lt_of_get b2
          have hlc := lt_of_get bc
          have hset : ∀ (b : Blk) (Y : Heap), (X ++ Y).set jc b = X.set jc b ++ Y := fun b Y => List.set_append_left _ _ hlc
          have hbs := bsl_one (h := h ++ (⟨2, 1, [.int .i64 0, .slice none 0 0, .slice none 0 0]⟩ :: ⟨2, 1, (ints people).flatten⟩ :: ⟨2, 1, [.int .i64 (stepNow now a), .slice (some ⟨h.length + (X.length + 4), 0, some 0⟩) people.length people.length, .slice (some ⟨h.length + (X.length + 5), 0, some 0⟩) (stepItems now people items a).length (stepItems now people items a).length]⟩ :: (X ++ [⟨2, 1, a.cells⟩, ⟨2, 1, (ints people).flatten⟩, ⟨2, 6, cellsL (stepItems now people items a)⟩, ⟨2, 1, [.int .i64 (stepNow now a), .slice (some ⟨h.length + (X.length + 4), 0, some 0⟩) people.length people.length, .slice (some ⟨h.length + (X.length + 5), 0, some 0⟩) (stepItems now people items a).length (stepItems now people items a).length]⟩]))) (x := .int .i64 (stepCode now people items a)) Ty.sl24 Ty.zc3 rfl rfl
          have hap := apS_full (P := Try.prog) (H := h ++ (⟨2, 1, [.int .i64 0, .slice none 0 0, .slice none 0 0]⟩ :: ⟨2, 1, (ints people).flatten⟩ :: ⟨2, 1, [.int .i64 (stepNow now a), .slice (some ⟨h.length + (X.length + 4), 0, some 0⟩) people.length people.length, .slice (some ⟨h.length + (X.length + 5), 0, some 0⟩) (stepItems now people items a).length (stepItems now people items a).length]⟩ :: (X ++ [⟨2, 1, a.cells⟩, ⟨2, 1, (ints people).flatten⟩, ⟨2, 6, cellsL (stepItems now people items a)⟩, ⟨2, 1, [.int .i64 (stepNow now a), .slice (some ⟨h.length + (X.length + 4), 0, some 0⟩) people.length people.length, .slice (some ⟨h.length + (X.length + 5), 0, some 0⟩) (stepItems now people items a).length (stepItems now people items a).length]⟩, ⟨2, 1, [.int .i64 (stepCode now people items a)]⟩]))) (id1 := h.length + (jc + 3)) (id2 := h.length + (X.length + 7)) (sp := none) (n := k) (m := 1) (cs := (ints cs).flatten) (xs := [.int .i64 (stepCode now people items a)])
            Ty.sl24 Ty.zc3 Ty.by3 (by rw [get_at]; simp only [Z0]; exact get_old bc) (by rw [get_at]; simp only [Z0]; rw [get_at]; rfl) (by rw [← hlk]; exact ints_flen _) rfl (by decide) (by omega) (by omega)
          simp only [Z7, Zc, Zd, Z6, Z3, Z2, Zf, Zh, Nat.reduceAdd, ints_one, Z1y, Za, hset] at hbs hap
          repeat' (first
            | ((with_reducible refine eq_go ?_); simp only [stp, ev, Zb, Z2e, Z1z, Zk, Zl, reduceIte, Nat.reduceEqDiff, Zj, Zz, Zu, Z16, Z1a, Zm, Zp, Zo, Zd, Zx, Z2b, Z2x, Z1g, Z17, Zq, Zn, Zv, Z2p, Z2f, Z2o, Z2d, Z2g, Z1c, Z1b, Z2i, Z2n, Z2h, Z2j, Z2k, Z2l, Z2m, Z31, Z8, Z5, Z13, Zy, bld, fillL, vcs, splice, Ze, Z1, Z0, Z35, Ze, Z1, Z0, ldv, stv, vcs, idxA, blt, lenV, Z10, Z3, Z2, Zf, Zg, Ze, Z1, Z0, Z14, Zw, Zh, Zr, Z33, Z15, Z7, Zc, Z6, Z3, Z2, Zf, Zi, Nat.reduceAdd, Nat.reduceMul, Nat.reduceLeDiff, Z11, Z12, Z1y, Z1h, Z2c, Z23, Z28, Z27, Z26, Z25, Z24, Z1m, Z1l, Z1k, Z1j, Z1i, Z1w, Z1v, Z1u, Z1t, Z1s, Z32, Z2y, Z2q, Z2r, Z2s, Z20, Z1q, Z1r, Z2z, Z2t, Z21, Z22, splice, Za, Z9, Z1, Z0, Z19, Zt, Zs, Z18, newB, vcs, Z30, Z2v, Z1x, Z29, Z1n, Z2u, Z1o, Z1f, Z1p, Z1d, Z1e, Ty.ld3, Ty.sz3, Ty.zc3, Ty.by3, Ty.ld24, Ty.sz24, Ty.sl24, Ty.zc24, Ty.by24, Ty.ld56, Ty.sz56, Ty.sl56, Ty.zc56, Ty.by56, Ty.ld58, Ty.sz58, Ty.zc58, Ty.by58, Ty.pl58, Ty.ld71, Ty.sz71, Ty.sl71, Ty.zc71, Ty.by71, Ty.ld77, Ty.sz77, Ty.zc77, Ty.by77, Ty.pl77, Ty.ld80, Ty.sz80, Ty.zc80, Ty.by80, Ty.pl80, DAct.cells_length, DAct.cells_flat, DAct.cells_take, DAct.cells_splice, *]; rfl)
            | (with_reducible refine aw_then ?_) | (with_reducible refine aw_skip ?_) | (with_reducible refine aw_ret ?_) | (with_reducible refine aw_exit ?_) | (with_reducible refine aw_block ?_) | (with_reducible refine xr_reg (by decide +kernel) ?_)
            | (with_reducible refine xr_nil ?_) | (with_reducible refine k_norm ?_) | (with_reducible refine k_ret ?_) | (with_reducible refine k_exit ?_) | (with_reducible refine b_norm ?_) | (with_reducible refine b_ret ?_) | (with_reducible refine b_exit ?_) | (with_reducible refine b_past (by decide) ?_)
            | (refine xr_cl (f := ?_) (fs := ?_) (cs := ?_) (args := ?_) (K := ?_) ?_ ?_ ?_ ?_ ?_
               rotate_left 5
               · simp only [ev]; rfl
               first
               | (· with_reducible exact Ty.ok46
                  rotate_left 2
                  refine Z2a 46 ?_
                  rotate_right 2)
               | (· with_reducible exact Ty.ok110
                  rotate_left 2
                  refine Z2a 110 ?_
                  rotate_right 2)
               )
            | (refine xr_gcl (f := ?_) (fs := ?_) (cs := ?_) (args := ?_) (K := ?_) (by exact rfl) ?_ ?_ ?_ ?_ ?_ ?_
               rotate_left 5
               · simp only [ev, Zb, reduceIte, Nat.reduceEqDiff, Z8, Z5, *]
               · simp only [ev]; rfl
               first
               | (· with_reducible exact Ty.ok46
                  rotate_left 2
                  refine Z2a 46 ?_
                  rotate_right 2)
               | (· with_reducible exact Ty.ok110
                  rotate_left 2
                  refine Z2a 110 ?_
                  rotate_right 2)
               )
            | (refine xr_do (v := ?_) (h' := ?_) (by exact rfl) ?_ ?_; rotate_left 2)
            | (refine xr_st (v := ?_) (h' := ?_) (by exact rfl) ?_ ?_; rotate_left 2)
            | (refine xr_gdo (v := ?_) (h' := ?_) (by exact rfl) (by exact rfl) ?_ ?_ ?_
               rotate_left 2
               · simp only [ev, Zb, reduceIte, Nat.reduceEqDiff, Z8, Z5, *])
            | (refine xr_gst (v := ?_) (h' := ?_) (by exact rfl) (by exact rfl) ?_ ?_ ?_
               rotate_left 2
               · simp only [ev, Zb, reduceIte, Nat.reduceEqDiff, Z8, Z5, *])
            | (refine xr_goff (by exact rfl) ?_ ?_
               · simp only [ev, Zb, reduceIte, Nat.reduceEqDiff, Z8, Z5, *])
            | (refine xr_gsoff (by exact rfl) ?_ ?_
               · simp only [ev, Zb, reduceIte, Nat.reduceEqDiff, Z8, Z5, *])
            | (refine xr_gund (by exact rfl) ?_ ?_
               · simp only [ev, Zb, reduceIte, Nat.reduceEqDiff, Z8, Z5, *])
            | (refine xr_gsund (by exact rfl) ?_ ?_
               · simp only [ev, Zb, reduceIte, Nat.reduceEqDiff, Z8, Z5, *])
            | (refine xr_gif (b := ?_) (by exact rfl) ?_ (fun hb => ?_) (fun hb => ?_)
               rotate_left 1
               · simp only [ev, Zb, reduceIte, Nat.reduceEqDiff, Z8, Z5, *]; rfl)
            | (refine aw_ift (by decide) ?_ ?_
               · simp only [ev, Zb, reduceIte, Nat.reduceEqDiff, *])
            | (refine aw_iff (by decide) ?_ ?_
               · simp only [ev, Zb, reduceIte, Nat.reduceEqDiff, *])
            | (refine aw_if (b := ?_) (by decide) ?_ (fun hb => ?_) (fun hb => ?_)
               rotate_left 1
               · simp only [ev, Zb, reduceIte, Nat.reduceEqDiff, *]; rfl)
            | (refine r_ret (vs := ?_) ?_ ?_
               rotate_left 1
               · simp only [resV, oneOf, stp, ev, Zb, Z2e, Z1z, Zk, Zl, reduceIte, Nat.reduceEqDiff, Zj, Zz, Zu, Z16, Z1a, Zm, Zp, Zo, Zd, Zx, Z2b, Z2x, Z1g, Z17, Zq, Zn, Zv, Z2p, Z2f, Z2o, Z2d, Z2g, Z1c, Z1b, Z2i, Z2n, Z2h, Z2j, Z2k, Z2l, Z2m, Z31, Z8, Z5, Z13, Zy, bld, fillL, vcs, splice, Ze, Z1, Z0, Z35, Ze, Z1, Z0, ldv, stv, vcs, idxA, blt, lenV, Z10, Z3, Z2, Zf, Zg, Ze, Z1, Z0, Z14, Zw, Zh, Zr, Z33, Z15, Z7, Zc, Z6, Z3, Z2, Zf, Zi, Nat.reduceAdd, Nat.reduceMul, Nat.reduceLeDiff, Z11, Z12, Z1y, Z1h, Z2c, Z23, Z28, Z27, Z26, Z25, Z24, Z1m, Z1l, Z1k, Z1j, Z1i, Z1w, Z1v, Z1u, Z1t, Z1s, Z32, Z2y, Z2q, Z2r, Z2s, Z20, Z1q, Z1r, Z2z, Z2t, Z21, Z22, splice, Za, Z9, Z1, Z0, Z19, Zt, Zs, Z18, newB, vcs, Z30, Z2v, Z1x, Z29, Z1n, Z2u, Z1o, Z1f, Z1p, Z1d, Z1e, Ty.ld3, Ty.sz3, Ty.zc3, Ty.by3, Ty.ld24, Ty.sz24, Ty.sl24, Ty.zc24, Ty.by24, Ty.ld56, Ty.sz56, Ty.sl56, Ty.zc56, Ty.by56, Ty.ld58, Ty.sz58, Ty.zc58, Ty.by58, Ty.pl58, Ty.ld71, Ty.sz71, Ty.sl71, Ty.zc71, Ty.by71, Ty.ld77, Ty.sz77, Ty.zc77, Ty.by77, Ty.pl77, Ty.ld80, Ty.sz80, Ty.zc80, Ty.by80, Ty.pl80, DAct.cells_length, DAct.cells_flat, DAct.cells_take, DAct.cells_splice, *]; rfl)
            | (with_reducible refine specNewDesk_ok people _ _ _ ?_ ?_
               · first | assumption | exact Sl.old (by assumption) _ | ((try (simp only [deskV, deskL, Z11, Z12, Z1y, Z1h, Za, Z9, Z7, Zc, Zd, Z6, Z3, Z2, Zf, Zi, Nat.reduceAdd, Zh])); first | exact Sl.old (by assumption) _ | exact sl_nilints | exact sl_nilitems | (refine sl_ints (Z4 _) ?_; exact rfl) | (refine sl_items (Z4 _) ?_; exact rfl) | (refine sl_ints0 (Z4 _) ?_; exact rfl) | (refine sl_items0 (Z4 _) ?_; exact rfl))
               · first | omega | (simp only [Z2]; omega)
               )
            | (with_reducible refine l16Step_ok _ people items _ _ _ _ _ ?_ ?_ ?_ ?_
               · exact sp_sl1 b1 _ _ _ _
               · exact sp_sl2 b2 _ _ _ _
               · assumption
               · (intro i q; simp only [bid, Option.some.injEq] at q; simp only [Z6, Z3, Z2]; omega)
               )
            | ((with_reducible refine Z2w (n := 46) ?_); rintro _ _ ⟨rfl, hh⟩; replace hh := hh.symm; subst hh)
            | ((with_reducible refine Z2w (n := 110) ?_); rintro _ _ ⟨rfl, hh⟩; replace hh := hh.symm; subst hh)
            )
          refine ⟨by first | assumption | omega, ?_, ?_⟩
          · simp only [Z37, Z38, Z39, implies_true, and_true, Z2b, stp, ev, Zb, Z2e, Z1z, Zk, Zl, reduceIte, Nat.reduceEqDiff, Zj, Zz, Zu, Z16, Z1a, Zm, Zp, Zo, Zd, Zx, Z2b, Z2x, Z1g, Z17, Zq, Zn, Zv, Z2p, Z2f, Z2o, Z2d, Z2g, Z1c, Z1b, Z2i, Z2n, Z2h, Z2j, Z2k, Z2l, Z2m, Z31, Z8, Z5, Z13, Zy, *]
          rw [hsn]
          refine ⟨_, .slice (some ⟨h.length + (X.length + 4), 0, some 0⟩) people.length people.length, .slice (some ⟨h.length + (X.length + 5), 0, some 0⟩) (stepItems now people items a).length (stepItems now people items a).length, rfl, ?_, .inr ⟨by omega, X.length + 1, X.length + 2, X.length + 5, ?_, ?_, ?_, by omega, by omega, by omega, rfl, rfl, ?_⟩⟩
          all_goals first | (simp only [Zb, reduceIte, Nat.reduceEqDiff]; rw [wrap_id (by omega)]; rfl) | (simp [playT, ints]; done) | (simp only [Zb, reduceIte, Nat.reduceEqDiff]; rfl) | (simp [Zb, Zh]; done) | (simp only [Zb, reduceIte, Nat.reduceEqDiff]; skip)
      · have h1 : ¬ (k : Int) < l.length := by omega
        obtain rfl : k = l.length := by omega
        rw [List.take_length] at *
        clear hs hrow
        rcases hat with ⟨h0, rfl, rfl, rfl, h9, q1, q2⟩ | ⟨h0, j1, j2, jc, b1, b2, bc, n1, n2, n3, rfl, rfl, h9⟩
        · obtain rfl := List.length_eq_zero_iff.1 h0
          have hz : decide (((([] : List DAct).length : Nat) : Int) < ((([] : List DAct).length : Nat) : Int)) = false := rfl
          have hz2 : decide (((0 : Nat) : Int) < ((0 : Nat) : Int)) = false := rfl
          simp only [Z2x]
          repeat' (first
            | ((with_reducible refine eq_go ?_); simp only [stp, ev, Zb, Z2e, Z1z, Zk, Zl, reduceIte, Nat.reduceEqDiff, Zj, Zz, Zu, Z16, Z1a, Zm, Zp, Zo, Zd, Zx, Z2b, Z2x, Z1g, Z17, Zq, Zn, Zv, Z2p, Z2f, Z2o, Z2d, Z2g, Z1c, Z1b, Z2i, Z2n, Z2h, Z2j, Z2k, Z2l, Z2m, Z31, Z8, Z5, Z13, Zy, bld, fillL, vcs, splice, Ze, Z1, Z0, Z35, Ze, Z1, Z0, ldv, stv, vcs, idxA, blt, lenV, Z10, Z3, Z2, Zf, Zg, Ze, Z1, Z0, Z14, Zw, Zh, Zr, Z33, Z15, Z7, Zc, Z6, Z3, Z2, Zf, Zi, Nat.reduceAdd, Nat.reduceMul, Nat.reduceLeDiff, Z11, Z12, Z1y, Z1h, Z2c, Z23, Z28, Z27, Z26, Z25, Z24, Z1m, Z1l, Z1k, Z1j, Z1i, Z1w, Z1v, Z1u, Z1t, Z1s, Z32, Z2y, Z2q, Z2r, Z2s, Z20, Z1q, Z1r, Z2z, Z2t, Z21, Z22, splice, Za, Z9, Z1, Z0, Z19, Zt, Zs, Z18, newB, vcs, Z30, Z2v, Z1x, Z29, Z1n, Z2u, Z1o, Z1f, Z1p, Z1d, Z1e, Ty.ld3, Ty.sz3, Ty.zc3, Ty.by3, Ty.ld24, Ty.sz24, Ty.sl24, Ty.zc24, Ty.by24, Ty.ld56, Ty.sz56, Ty.sl56, Ty.zc56, Ty.by56, Ty.ld58, Ty.sz58, Ty.zc58, Ty.by58, Ty.pl58, Ty.ld71, Ty.sz71, Ty.sl71, Ty.zc71, Ty.by71, Ty.ld77, Ty.sz77, Ty.zc77, Ty.by77, Ty.pl77, Ty.ld80, Ty.sz80, Ty.zc80, Ty.by80, Ty.pl80, *]; rfl)
            | (with_reducible refine aw_then ?_) | (with_reducible refine aw_skip ?_) | (with_reducible refine aw_ret ?_) | (with_reducible refine aw_exit ?_) | (with_reducible refine aw_block ?_) | (with_reducible refine xr_reg (by decide +kernel) ?_)
            | (with_reducible refine xr_nil ?_) | (with_reducible refine k_norm ?_) | (with_reducible refine k_ret ?_) | (with_reducible refine k_exit ?_) | (with_reducible refine b_norm ?_) | (with_reducible refine b_ret ?_) | (with_reducible refine b_exit ?_) | (with_reducible refine b_past (by decide) ?_)
            | (refine xr_cl (f := ?_) (fs := ?_) (cs := ?_) (args := ?_) (K := ?_) ?_ ?_ ?_ ?_ ?_
               rotate_left 5
               · simp only [ev]; rfl
               first
               | (· with_reducible exact Ty.ok46
                  rotate_left 2
                  refine Z2a 46 ?_
                  rotate_right 2)
               | (· with_reducible exact Ty.ok110
                  rotate_left 2
                  refine Z2a 110 ?_
                  rotate_right 2)
               )
            | (refine xr_gcl (f := ?_) (fs := ?_) (cs := ?_) (args := ?_) (K := ?_) (by exact rfl) ?_ ?_ ?_ ?_ ?_ ?_
               rotate_left 5
               · simp only [ev, Zb, reduceIte, Nat.reduceEqDiff, Z8, Z5, *]
               · simp only [ev]; rfl
               first
               | (· with_reducible exact Ty.ok46
                  rotate_left 2
                  refine Z2a 46 ?_
                  rotate_right 2)
               | (· with_reducible exact Ty.ok110
                  rotate_left 2
                  refine Z2a 110 ?_
                  rotate_right 2)
               )
            | (refine xr_do (v := ?_) (h' := ?_) (by exact rfl) ?_ ?_; rotate_left 2)
            | (refine xr_st (v := ?_) (h' := ?_) (by exact rfl) ?_ ?_; rotate_left 2)
            | (refine xr_gdo (v := ?_) (h' := ?_) (by exact rfl) (by exact rfl) ?_ ?_ ?_
               rotate_left 2
               · simp only [ev, Zb, reduceIte, Nat.reduceEqDiff, Z8, Z5, *])
            | (refine xr_gst (v := ?_) (h' := ?_) (by exact rfl) (by exact rfl) ?_ ?_ ?_
               rotate_left 2
               · simp only [ev, Zb, reduceIte, Nat.reduceEqDiff, Z8, Z5, *])
            | (refine xr_goff (by exact rfl) ?_ ?_
               · simp only [ev, Zb, reduceIte, Nat.reduceEqDiff, Z8, Z5, *])
            | (refine xr_gsoff (by exact rfl) ?_ ?_
               · simp only [ev, Zb, reduceIte, Nat.reduceEqDiff, Z8, Z5, *])
            | (refine xr_gund (by exact rfl) ?_ ?_
               · simp only [ev, Zb, reduceIte, Nat.reduceEqDiff, Z8, Z5, *])
            | (refine xr_gsund (by exact rfl) ?_ ?_
               · simp only [ev, Zb, reduceIte, Nat.reduceEqDiff, Z8, Z5, *])
            | (refine xr_gif (b := ?_) (by exact rfl) ?_ (fun hb => ?_) (fun hb => ?_)
               rotate_left 1
               · simp only [ev, Zb, reduceIte, Nat.reduceEqDiff, Z8, Z5, *]; rfl)
            | (refine aw_ift (by decide) ?_ ?_
               · simp only [ev, Zb, reduceIte, Nat.reduceEqDiff, *])
            | (refine aw_iff (by decide) ?_ ?_
               · simp only [ev, Zb, reduceIte, Nat.reduceEqDiff, *])
            | (refine aw_if (b := ?_) (by decide) ?_ (fun hb => ?_) (fun hb => ?_)
               rotate_left 1
               · simp only [ev, Zb, reduceIte, Nat.reduceEqDiff, *]; rfl)
            | (refine r_ret (vs := ?_) ?_ ?_
               rotate_left 1
               · simp only [resV, oneOf, stp, ev, Zb, Z2e, Z1z, Zk, Zl, reduceIte, Nat.reduceEqDiff, Zj, Zz, Zu, Z16, Z1a, Zm, Zp, Zo, Zd, Zx, Z2b, Z2x, Z1g, Z17, Zq, Zn, Zv, Z2p, Z2f, Z2o, Z2d, Z2g, Z1c, Z1b, Z2i, Z2n, Z2h, Z2j, Z2k, Z2l, Z2m, Z31, Z8, Z5, Z13, Zy, bld, fillL, vcs, splice, Ze, Z1, Z0, Z35, Ze, Z1, Z0, ldv, stv, vcs, idxA, blt, lenV, Z10, Z3, Z2, Zf, Zg, Ze, Z1, Z0, Z14, Zw, Zh, Zr, Z33, Z15, Z7, Zc, Z6, Z3, Z2, Zf, Zi, Nat.reduceAdd, Nat.reduceMul, Nat.reduceLeDiff, Z11, Z12, Z1y, Z1h, Z2c, Z23, Z28, Z27, Z26, Z25, Z24, Z1m, Z1l, Z1k, Z1j, Z1i, Z1w, Z1v, Z1u, Z1t, Z1s, Z32, Z2y, Z2q, Z2r, Z2s, Z20, Z1q, Z1r, Z2z, Z2t, Z21, Z22, splice, Za, Z9, Z1, Z0, Z19, Zt, Zs, Z18, newB, vcs, Z30, Z2v, Z1x, Z29, Z1n, Z2u, Z1o, Z1f, Z1p, Z1d, Z1e, Ty.ld3, Ty.sz3, Ty.zc3, Ty.by3, Ty.ld24, Ty.sz24, Ty.sl24, Ty.zc24, Ty.by24, Ty.ld56, Ty.sz56, Ty.sl56, Ty.zc56, Ty.by56, Ty.ld58, Ty.sz58, Ty.zc58, Ty.by58, Ty.pl58, Ty.ld71, Ty.sz71, Ty.sl71, Ty.zc71, Ty.by71, Ty.ld77, Ty.sz77, Ty.zc77, Ty.by77, Ty.pl77, Ty.ld80, Ty.sz80, Ty.zc80, Ty.by80, Ty.pl80, *]; rfl)
            | (with_reducible refine specNewDesk_ok people _ _ _ ?_ ?_
               · first | assumption | exact Sl.old (by assumption) _ | ((try (simp only [deskV, deskL, Z11, Z12, Z1y, Z1h, Za, Z9, Z7, Zc, Zd, Z6, Z3, Z2, Zf, Zi, Nat.reduceAdd, Zh])); first | exact Sl.old (by assumption) _ | exact sl_nilints | exact sl_nilitems | (refine sl_ints (Z4 _) ?_; exact rfl) | (refine sl_items (Z4 _) ?_; exact rfl) | (refine sl_ints0 (Z4 _) ?_; exact rfl) | (refine sl_items0 (Z4 _) ?_; exact rfl))
               · first | omega | (simp only [Z2]; omega)
               )
            | (with_reducible refine l16Step_ok _ people items _ _ _ _ _ ?_ ?_ ?_ ?_
               · exact sp_sl1 b1 _ _ _ _
               · exact sp_sl2 b2 _ _ _ _
               · assumption
               · (intro i q; simp only [bid, Option.some.injEq] at q; simp only [Z6, Z3, Z2]; omega)
               )
            | ((with_reducible refine Z2w (n := 46) ?_); rintro _ _ ⟨rfl, hh⟩; replace hh := hh.symm; subst hh)
            | ((with_reducible refine Z2w (n := 110) ?_); rintro _ _ ⟨rfl, hh⟩; replace hh := hh.symm; subst hh)
            )
          exact plays_keep0 _ _
        · have hne : l ≠ [] := fun q => by rw [q] at h0; simp at h0
          simp only [if_neg hne]
          repeat' (first
            | ((with_reducible refine eq_go ?_); simp only [stp, ev, Zb, Z2e, Z1z, Zk, Zl, reduceIte, Nat.reduceEqDiff, Zj, Zz, Zu, Z16, Z1a, Zm, Zp, Zo, Zd, Zx, Z2b, Z2x, Z1g, Z17, Zq, Zn, Zv, Z2p, Z2f, Z2o, Z2d, Z2g, Z1c, Z1b, Z2i, Z2n, Z2h, Z2j, Z2k, Z2l, Z2m, Z31, Z8, Z5, Z13, Zy, bld, fillL, vcs, splice, Ze, Z1, Z0, Z35, Ze, Z1, Z0, ldv, stv, vcs, idxA, blt, lenV, Z10, Z3, Z2, Zf, Zg, Ze, Z1, Z0, Z14, Zw, Zh, Zr, Z33, Z15, Z7, Zc, Z6, Z3, Z2, Zf, Zi, Nat.reduceAdd, Nat.reduceMul, Nat.reduceLeDiff, Z11, Z12, Z1y, Z1h, Z2c, Z23, Z28, Z27, Z26, Z25, Z24, Z1m, Z1l, Z1k, Z1j, Z1i, Z1w, Z1v, Z1u, Z1t, Z1s, Z32, Z2y, Z2q, Z2r, Z2s, Z20, Z1q, Z1r, Z2z, Z2t, Z21, Z22, splice, Za, Z9, Z1, Z0, Z19, Zt, Zs, Z18, newB, vcs, Z30, Z2v, Z1x, Z29, Z1n, Z2u, Z1o, Z1f, Z1p, Z1d, Z1e, Ty.ld3, Ty.sz3, Ty.zc3, Ty.by3, Ty.ld24, Ty.sz24, Ty.sl24, Ty.zc24, Ty.by24, Ty.ld56, Ty.sz56, Ty.sl56, Ty.zc56, Ty.by56, Ty.ld58, Ty.sz58, Ty.zc58, Ty.by58, Ty.pl58, Ty.ld71, Ty.sz71, Ty.sl71, Ty.zc71, Ty.by71, Ty.ld77, Ty.sz77, Ty.zc77, Ty.by77, Ty.pl77, Ty.ld80, Ty.sz80, Ty.zc80, Ty.by80, Ty.pl80, *]; rfl)
            | (with_reducible refine aw_then ?_) | (with_reducible refine aw_skip ?_) | (with_reducible refine aw_ret ?_) | (with_reducible refine aw_exit ?_) | (with_reducible refine aw_block ?_) | (with_reducible refine xr_reg (by decide +kernel) ?_)
            | (with_reducible refine xr_nil ?_) | (with_reducible refine k_norm ?_) | (with_reducible refine k_ret ?_) | (with_reducible refine k_exit ?_) | (with_reducible refine b_norm ?_) | (with_reducible refine b_ret ?_) | (with_reducible refine b_exit ?_) | (with_reducible refine b_past (by decide) ?_)
            | (refine xr_cl (f := ?_) (fs := ?_) (cs := ?_) (args := ?_) (K := ?_) ?_ ?_ ?_ ?_ ?_
               rotate_left 5
               · simp only [ev]; rfl
               first
               | (· with_reducible exact Ty.ok46
                  rotate_left 2
                  refine Z2a 46 ?_
                  rotate_right 2)
               | (· with_reducible exact Ty.ok110
                  rotate_left 2
                  refine Z2a 110 ?_
                  rotate_right 2)
               )
            | (refine xr_gcl (f := ?_) (fs := ?_) (cs := ?_) (args := ?_) (K := ?_) (by exact rfl) ?_ ?_ ?_ ?_ ?_ ?_
               rotate_left 5
               · simp only [ev, Zb, reduceIte, Nat.reduceEqDiff, Z8, Z5, *]
               · simp only [ev]; rfl
               first
               | (· with_reducible exact Ty.ok46
                  rotate_left 2
                  refine Z2a 46 ?_
                  rotate_right 2)
               | (· with_reducible exact Ty.ok110
                  rotate_left 2
                  refine Z2a 110 ?_
                  rotate_right 2)
               )
            | (refine xr_do (v := ?_) (h' := ?_) (by exact rfl) ?_ ?_; rotate_left 2)
            | (refine xr_st (v := ?_) (h' := ?_) (by exact rfl) ?_ ?_; rotate_left 2)
            | (refine xr_gdo (v := ?_) (h' := ?_) (by exact rfl) (by exact rfl) ?_ ?_ ?_
               rotate_left 2
               · simp only [ev, Zb, reduceIte, Nat.reduceEqDiff, Z8, Z5, *])
            | (refine xr_gst (v := ?_) (h' := ?_) (by exact rfl) (by exact rfl) ?_ ?_ ?_
               rotate_left 2
               · simp only [ev, Zb, reduceIte, Nat.reduceEqDiff, Z8, Z5, *])
            | (refine xr_goff (by exact rfl) ?_ ?_
               · simp only [ev, Zb, reduceIte, Nat.reduceEqDiff, Z8, Z5, *])
            | (refine xr_gsoff (by exact rfl) ?_ ?_
               · simp only [ev, Zb, reduceIte, Nat.reduceEqDiff, Z8, Z5, *])
            | (refine xr_gund (by exact rfl) ?_ ?_
               · simp only [ev, Zb, reduceIte, Nat.reduceEqDiff, Z8, Z5, *])
            | (refine xr_gsund (by exact rfl) ?_ ?_
               · simp only [ev, Zb, reduceIte, Nat.reduceEqDiff, Z8, Z5, *])
            | (refine xr_gif (b := ?_) (by exact rfl) ?_ (fun hb => ?_) (fun hb => ?_)
               rotate_left 1
               · simp only [ev, Zb, reduceIte, Nat.reduceEqDiff, Z8, Z5, *]; rfl)
            | (refine aw_ift (by decide) ?_ ?_
               · simp only [ev, Zb, reduceIte, Nat.reduceEqDiff, *])
            | (refine aw_iff (by decide) ?_ ?_
               · simp only [ev, Zb, reduceIte, Nat.reduceEqDiff, *])
            | (refine aw_if (b := ?_) (by decide) ?_ (fun hb => ?_) (fun hb => ?_)
               rotate_left 1
               · simp only [ev, Zb, reduceIte, Nat.reduceEqDiff, *]; rfl)
            | (refine r_ret (vs := ?_) ?_ ?_
               rotate_left 1
               · simp only [resV, oneOf, stp, ev, Zb, Z2e, Z1z, Zk, Zl, reduceIte, Nat.reduceEqDiff, Zj, Zz, Zu, Z16, Z1a, Zm, Zp, Zo, Zd, Zx, Z2b, Z2x, Z1g, Z17, Zq, Zn, Zv, Z2p, Z2f, Z2o, Z2d, Z2g, Z1c, Z1b, Z2i, Z2n, Z2h, Z2j, Z2k, Z2l, Z2m, Z31, Z8, Z5, Z13, Zy, bld, fillL, vcs, splice, Ze, Z1, Z0, Z35, Ze, Z1, Z0, ldv, stv, vcs, idxA, blt, lenV, Z10, Z3, Z2, Zf, Zg, Ze, Z1, Z0, Z14, Zw, Zh, Zr, Z33, Z15, Z7, Zc, Z6, Z3, Z2, Zf, Zi, Nat.reduceAdd, Nat.reduceMul, Nat.reduceLeDiff, Z11, Z12, Z1y, Z1h, Z2c, Z23, Z28, Z27, Z26, Z25, Z24, Z1m, Z1l, Z1k, Z1j, Z1i, Z1w, Z1v, Z1u, Z1t, Z1s, Z32, Z2y, Z2q, Z2r, Z2s, Z20, Z1q, Z1r, Z2z, Z2t, Z21, Z22, splice, Za, Z9, Z1, Z0, Z19, Zt, Zs, Z18, newB, vcs, Z30, Z2v, Z1x, Z29, Z1n, Z2u, Z1o, Z1f, Z1p, Z1d, Z1e, Ty.ld3, Ty.sz3, Ty.zc3, Ty.by3, Ty.ld24, Ty.sz24, Ty.sl24, Ty.zc24, Ty.by24, Ty.ld56, Ty.sz56, Ty.sl56, Ty.zc56, Ty.by56, Ty.ld58, Ty.sz58, Ty.zc58, Ty.by58, Ty.pl58, Ty.ld71, Ty.sz71, Ty.sl71, Ty.zc71, Ty.by71, Ty.ld77, Ty.sz77, Ty.zc77, Ty.by77, Ty.pl77, Ty.ld80, Ty.sz80, Ty.zc80, Ty.by80, Ty.pl80, *]; rfl)
            | (with_reducible refine specNewDesk_ok people _ _ _ ?_ ?_
               · first | assumption | exact Sl.old (by assumption) _ | ((try (simp only [deskV, deskL, Z11, Z12, Z1y, Z1h, Za, Z9, Z7, Zc, Zd, Z6, Z3, Z2, Zf, Zi, Nat.reduceAdd, Zh])); first | exact Sl.old (by assumption) _ | exact sl_nilints | exact sl_nilitems | (refine sl_ints (Z4 _) ?_; exact rfl) | (refine sl_items (Z4 _) ?_; exact rfl) | (refine sl_ints0 (Z4 _) ?_; exact rfl) | (refine sl_items0 (Z4 _) ?_; exact rfl))
               · first | omega | (simp only [Z2]; omega)
               )
            | (with_reducible refine l16Step_ok _ people items _ _ _ _ _ ?_ ?_ ?_ ?_
               · exact sp_sl1 b1 _ _ _ _
               · exact sp_sl2 b2 _ _ _ _
               · assumption
               · (intro i q; simp only [bid, Option.some.injEq] at q; simp only [Z6, Z3, Z2]; omega)
               )
            | ((with_reducible refine Z2w (n := 46) ?_); rintro _ _ ⟨rfl, hh⟩; replace hh := hh.symm; subst hh)
            | ((with_reducible refine Z2w (n := 110) ?_); rintro _ _ ⟨rfl, hh⟩; replace hh := hh.symm; subst hh)
            )
          exact plays_keep hlk b1 b2 bc n1 n2 n3 _ _ _
    · have h60' : decide (60 < (l.length : Int)) = true := decide_eq_true (by omega)
      simp only [playDsV, playDsL, hk, decide_eq_false h60, Bool.true_and, Bool.false_eq_true, if_false]
      refine Z36 Try.func57 rfl Try.ntmps57 (by simp) (by dsimp only [Try.f57]) ?_
      repeat' (first
        | ((with_reducible refine eq_go ?_); simp only [stp, ev, Zb, Z2e, Z1z, Zk, Zl, reduceIte, Nat.reduceEqDiff, Zj, Zz, Zu, Z16, Z1a, Zm, Zp, Zo, Zd, Zx, Z2b, Z2x, Z1g, Z17, Zq, Zn, Zv, Z2p, Z2f, Z2o, Z2d, Z2g, Z1c, Z1b, Z2i, Z2n, Z2h, Z2j, Z2k, Z2l, Z2m, Z31, Z8, Z5, Z13, Zy, bld, fillL, vcs, splice, Ze, Z1, Z0, Z35, Ze, Z1, Z0, ldv, stv, vcs, idxA, blt, lenV, Z10, Z3, Z2, Zf, Zg, Ze, Z1, Z0, Z14, Zw, Zh, Zr, Z33, Z15, Z7, Zc, Z6, Z3, Z2, Zf, Zi, Nat.reduceAdd, Nat.reduceMul, Nat.reduceLeDiff, Z11, Z12, Z1y, Z1h, Z2c, Z23, Z28, Z27, Z26, Z25, Z24, Z1m, Z1l, Z1k, Z1j, Z1i, Z1w, Z1v, Z1u, Z1t, Z1s, Z32, Z2y, Z2q, Z2r, Z2s, Z20, Z1q, Z1r, Z2z, Z2t, Z21, Z22, splice, Za, Z9, Z1, Z0, Z19, Zt, Zs, Z18, newB, vcs, Z30, Z2v, Z1x, Z29, Z1n, Z2u, Z1o, Z1f, Z1p, Z1d, Z1e, Ty.ld3, Ty.sz3, Ty.zc3, Ty.by3, Ty.ld24, Ty.sz24, Ty.sl24, Ty.zc24, Ty.by24, Ty.ld56, Ty.sz56, Ty.sl56, Ty.zc56, Ty.by56, Ty.ld58, Ty.sz58, Ty.zc58, Ty.by58, Ty.pl58, Ty.ld71, Ty.sz71, Ty.sl71, Ty.zc71, Ty.by71, Ty.ld77, Ty.sz77, Ty.zc77, Ty.by77, Ty.pl77, Ty.ld80, Ty.sz80, Ty.zc80, Ty.by80, Ty.pl80, newDeskV, newDeskL, Z2x, *]; rfl)
        | (with_reducible refine aw_then ?_) | (with_reducible refine aw_skip ?_) | (with_reducible refine aw_ret ?_) | (with_reducible refine aw_exit ?_) | (with_reducible refine aw_block ?_) | (with_reducible refine xr_reg (by decide +kernel) ?_)
        | (with_reducible refine xr_nil ?_) | (with_reducible refine k_norm ?_) | (with_reducible refine k_ret ?_) | (with_reducible refine k_exit ?_) | (with_reducible refine b_norm ?_) | (with_reducible refine b_ret ?_) | (with_reducible refine b_exit ?_) | (with_reducible refine b_past (by decide) ?_)
        | (refine xr_cl (f := ?_) (fs := ?_) (cs := ?_) (args := ?_) (K := ?_) ?_ ?_ ?_ ?_ ?_
           rotate_left 5
           · simp only [ev]; rfl
           first
           | (· with_reducible exact Ty.ok46
              rotate_left 2
              refine Z2a 46 ?_
              rotate_right 2)
           | (· with_reducible exact Ty.ok110
              rotate_left 2
              refine Z2a 110 ?_
              rotate_right 2)
           )
        | (refine xr_gcl (f := ?_) (fs := ?_) (cs := ?_) (args := ?_) (K := ?_) (by exact rfl) ?_ ?_ ?_ ?_ ?_ ?_
           rotate_left 5
           · simp only [ev, Zb, reduceIte, Nat.reduceEqDiff, Z8, Z5, *]
           · simp only [ev]; rfl
           first
           | (· with_reducible exact Ty.ok46
              rotate_left 2
              refine Z2a 46 ?_
              rotate_right 2)
           | (· with_reducible exact Ty.ok110
              rotate_left 2
              refine Z2a 110 ?_
              rotate_right 2)
           )
        | (refine xr_do (v := ?_) (h' := ?_) (by exact rfl) ?_ ?_; rotate_left 2)
        | (refine xr_st (v := ?_) (h' := ?_) (by exact rfl) ?_ ?_; rotate_left 2)
        | (refine xr_gdo (v := ?_) (h' := ?_) (by exact rfl) (by exact rfl) ?_ ?_ ?_
           rotate_left 2
           · simp only [ev, Zb, reduceIte, Nat.reduceEqDiff, Z8, Z5, *])
        | (refine xr_gst (v := ?_) (h' := ?_) (by exact rfl) (by exact rfl) ?_ ?_ ?_
           rotate_left 2
           · simp only [ev, Zb, reduceIte, Nat.reduceEqDiff, Z8, Z5, *])
        | (refine xr_goff (by exact rfl) ?_ ?_
           · simp only [ev, Zb, reduceIte, Nat.reduceEqDiff, Z8, Z5, *])
        | (refine xr_gsoff (by exact rfl) ?_ ?_
           · simp only [ev, Zb, reduceIte, Nat.reduceEqDiff, Z8, Z5, *])
        | (refine xr_gund (by exact rfl) ?_ ?_
           · simp only [ev, Zb, reduceIte, Nat.reduceEqDiff, Z8, Z5, *])
        | (refine xr_gsund (by exact rfl) ?_ ?_
           · simp only [ev, Zb, reduceIte, Nat.reduceEqDiff, Z8, Z5, *])
        | (refine xr_gif (b := ?_) (by exact rfl) ?_ (fun hb => ?_) (fun hb => ?_)
           rotate_left 1
           · simp only [ev, Zb, reduceIte, Nat.reduceEqDiff, Z8, Z5, *]; rfl)
        | (refine aw_ift (by decide) ?_ ?_
           · simp only [ev, Zb, reduceIte, Nat.reduceEqDiff, *])
        | (refine aw_iff (by decide) ?_ ?_
           · simp only [ev, Zb, reduceIte, Nat.reduceEqDiff, *])
        | (refine aw_if (b := ?_) (by decide) ?_ (fun hb => ?_) (fun hb => ?_)
           rotate_left 1
           · simp only [ev, Zb, reduceIte, Nat.reduceEqDiff, *]; rfl)
        | (refine r_ret (vs := ?_) ?_ ?_
           rotate_left 1
           · simp only [resV, oneOf, stp, ev, Zb, Z2e, Z1z, Zk, Zl, reduceIte, Nat.reduceEqDiff, Zj, Zz, Zu, Z16, Z1a, Zm, Zp, Zo, Zd, Zx, Z2b, Z2x, Z1g, Z17, Zq, Zn, Zv, Z2p, Z2f, Z2o, Z2d, Z2g, Z1c, Z1b, Z2i, Z2n, Z2h, Z2j, Z2k, Z2l, Z2m, Z31, Z8, Z5, Z13, Zy, bld, fillL, vcs, splice, Ze, Z1, Z0, Z35, Ze, Z1, Z0, ldv, stv, vcs, idxA, blt, lenV, Z10, Z3, Z2, Zf, Zg, Ze, Z1, Z0, Z14, Zw, Zh, Zr, Z33, Z15, Z7, Zc, Z6, Z3, Z2, Zf, Zi, Nat.reduceAdd, Nat.reduceMul, Nat.reduceLeDiff, Z11, Z12, Z1y, Z1h, Z2c, Z23, Z28, Z27, Z26, Z25, Z24, Z1m, Z1l, Z1k, Z1j, Z1i, Z1w, Z1v, Z1u, Z1t, Z1s, Z32, Z2y, Z2q, Z2r, Z2s, Z20, Z1q, Z1r, Z2z, Z2t, Z21, Z22, splice, Za, Z9, Z1, Z0, Z19, Zt, Zs, Z18, newB, vcs, Z30, Z2v, Z1x, Z29, Z1n, Z2u, Z1o, Z1f, Z1p, Z1d, Z1e, Ty.ld3, Ty.sz3, Ty.zc3, Ty.by3, Ty.ld24, Ty.sz24, Ty.sl24, Ty.zc24, Ty.by24, Ty.ld56, Ty.sz56, Ty.sl56, Ty.zc56, Ty.by56, Ty.ld58, Ty.sz58, Ty.zc58, Ty.by58, Ty.pl58, Ty.ld71, Ty.sz71, Ty.sl71, Ty.zc71, Ty.by71, Ty.ld77, Ty.sz77, Ty.zc77, Ty.by77, Ty.pl77, Ty.ld80, Ty.sz80, Ty.zc80, Ty.by80, Ty.pl80, newDeskV, newDeskL, Z2x, *]; rfl)
        | (with_reducible refine specNewDesk_ok people _ _ _ ?_ ?_
           · first | assumption | exact Sl.old (by assumption) _ | ((try (simp only [deskV, deskL, Z11, Z12, Z1y, Z1h, Za, Z9, Z7, Zc, Zd, Z6, Z3, Z2, Zf, Zi, Nat.reduceAdd, Zh])); first | exact Sl.old (by assumption) _ | exact sl_nilints | exact sl_nilitems | (refine sl_ints (Z4 _) ?_; exact rfl) | (refine sl_items (Z4 _) ?_; exact rfl) | (refine sl_ints0 (Z4 _) ?_; exact rfl) | (refine sl_items0 (Z4 _) ?_; exact rfl))
           · first | omega | (simp only [Z2]; omega)
           )
        | (with_reducible refine l16Step_ok _ people items _ _ _ _ _ ?_ ?_ ?_ ?_
           · exact sp_sl1 b1 _ _ _ _
           · exact sp_sl2 b2 _ _ _ _
           · assumption
           · (intro i q; simp only [bid, Option.some.injEq] at q; simp only [Z6, Z3, Z2]; omega)
           )
        | ((with_reducible refine Z2w (n := 46) ?_); rintro _ _ ⟨rfl, hh⟩; replace hh := hh.symm; subst hh)
        | ((with_reducible refine Z2w (n := 110) ?_); rintro _ _ ⟨rfl, hh⟩; replace hh := hh.symm; subst hh)
        )
      exact play_none
  · simp only [playDsV, playDsL, hk, Bool.false_and, Bool.false_eq_true, if_false]
    refine Z36 Try.func57 rfl Try.ntmps57 (by simp) (by dsimp only [Try.f57]) ?_
    repeat' (first
      | ((with_reducible refine eq_go ?_); simp only [stp, ev, Zb, Z2e, Z1z, Zk, Zl, reduceIte, Nat.reduceEqDiff, Zj, Zz, Zu, Z16, Z1a, Zm, Zp, Zo, Zd, Zx, Z2b, Z2x, Z1g, Z17, Zq, Zn, Zv, Z2p, Z2f, Z2o, Z2d, Z2g, Z1c, Z1b, Z2i, Z2n, Z2h, Z2j, Z2k, Z2l, Z2m, Z31, Z8, Z5, Z13, Zy, bld, fillL, vcs, splice, Ze, Z1, Z0, Z35, Ze, Z1, Z0, ldv, stv, vcs, idxA, blt, lenV, Z10, Z3, Z2, Zf, Zg, Ze, Z1, Z0, Z14, Zw, Zh, Zr, Z33, Z15, Z7, Zc, Z6, Z3, Z2, Zf, Zi, Nat.reduceAdd, Nat.reduceMul, Nat.reduceLeDiff, Z11, Z12, Z1y, Z1h, Z2c, Z23, Z28, Z27, Z26, Z25, Z24, Z1m, Z1l, Z1k, Z1j, Z1i, Z1w, Z1v, Z1u, Z1t, Z1s, Z32, Z2y, Z2q, Z2r, Z2s, Z20, Z1q, Z1r, Z2z, Z2t, Z21, Z22, splice, Za, Z9, Z1, Z0, Z19, Zt, Zs, Z18, newB, vcs, Z30, Z2v, Z1x, Z29, Z1n, Z2u, Z1o, Z1f, Z1p, Z1d, Z1e, Ty.ld3, Ty.sz3, Ty.zc3, Ty.by3, Ty.ld24, Ty.sz24, Ty.sl24, Ty.zc24, Ty.by24, Ty.ld56, Ty.sz56, Ty.sl56, Ty.zc56, Ty.by56, Ty.ld58, Ty.sz58, Ty.zc58, Ty.by58, Ty.pl58, Ty.ld71, Ty.sz71, Ty.sl71, Ty.zc71, Ty.by71, Ty.ld77, Ty.sz77, Ty.zc77, Ty.by77, Ty.pl77, Ty.ld80, Ty.sz80, Ty.zc80, Ty.by80, Ty.pl80, newDeskV, newDeskL, Bool.false_eq_true, if_false, *]; rfl)
      | (with_reducible refine aw_then ?_) | (with_reducible refine aw_skip ?_) | (with_reducible refine aw_ret ?_) | (with_reducible refine aw_exit ?_) | (with_reducible refine aw_block ?_) | (with_reducible refine xr_reg (by decide +kernel) ?_)
      | (with_reducible refine xr_nil ?_) | (with_reducible refine k_norm ?_) | (with_reducible refine k_ret ?_) | (with_reducible refine k_exit ?_) | (with_reducible refine b_norm ?_) | (with_reducible refine b_ret ?_) | (with_reducible refine b_exit ?_) | (with_reducible refine b_past (by decide) ?_)
      | (refine xr_cl (f := ?_) (fs := ?_) (cs := ?_) (args := ?_) (K := ?_) ?_ ?_ ?_ ?_ ?_
         rotate_left 5
         · simp only [ev]; rfl
         first
         | (· with_reducible exact Ty.ok46
            rotate_left 2
            refine Z2a 46 ?_
            rotate_right 2)
         | (· with_reducible exact Ty.ok110
            rotate_left 2
            refine Z2a 110 ?_
            rotate_right 2)
         )
      | (refine xr_gcl (f := ?_) (fs := ?_) (cs := ?_) (args := ?_) (K := ?_) (by exact rfl) ?_ ?_ ?_ ?_ ?_ ?_
         rotate_left 5
         · simp only [ev, Zb, reduceIte, Nat.reduceEqDiff, Z8, Z5, *]
         · simp only [ev]; rfl
         first
         | (· with_reducible exact Ty.ok46
            rotate_left 2
            refine Z2a 46 ?_
            rotate_right 2)
         | (· with_reducible exact Ty.ok110
            rotate_left 2
            refine Z2a 110 ?_
            rotate_right 2)
         )
      | (refine xr_do (v := ?_) (h' := ?_) (by exact rfl) ?_ ?_; rotate_left 2)
      | (refine xr_st (v := ?_) (h' := ?_) (by exact rfl) ?_ ?_; rotate_left 2)
      | (refine xr_gdo (v := ?_) (h' := ?_) (by exact rfl) (by exact rfl) ?_ ?_ ?_
         rotate_left 2
         · simp only [ev, Zb, reduceIte, Nat.reduceEqDiff, Z8, Z5, *])
      | (refine xr_gst (v := ?_) (h' := ?_) (by exact rfl) (by exact rfl) ?_ ?_ ?_
         rotate_left 2
         · simp only [ev, Zb, reduceIte, Nat.reduceEqDiff, Z8, Z5, *])
      | (refine xr_goff (by exact rfl) ?_ ?_
         · simp only [ev, Zb, reduceIte, Nat.reduceEqDiff, Z8, Z5, *])
      | (refine xr_gsoff (by exact rfl) ?_ ?_
         · simp only [ev, Zb, reduceIte, Nat.reduceEqDiff, Z8, Z5, *])
      | (refine xr_gund (by exact rfl) ?_ ?_
         · simp only [ev, Zb, reduceIte, Nat.reduceEqDiff, Z8, Z5, *])
      | (refine xr_gsund (by exact rfl) ?_ ?_
         · simp only [ev, Zb, reduceIte, Nat.reduceEqDiff, Z8, Z5, *])
      | (refine xr_gif (b := ?_) (by exact rfl) ?_ (fun hb => ?_) (fun hb => ?_)
         rotate_left 1
         · simp only [ev, Zb, reduceIte, Nat.reduceEqDiff, Z8, Z5, *]; rfl)
      | (refine aw_ift (by decide) ?_ ?_
         · simp only [ev, Zb, reduceIte, Nat.reduceEqDiff, *])
      | (refine aw_iff (by decide) ?_ ?_
         · simp only [ev, Zb, reduceIte, Nat.reduceEqDiff, *])
      | (refine aw_if (b := ?_) (by decide) ?_ (fun hb => ?_) (fun hb => ?_)
         rotate_left 1
         · simp only [ev, Zb, reduceIte, Nat.reduceEqDiff, *]; rfl)
      | (refine r_ret (vs := ?_) ?_ ?_
         rotate_left 1
         · simp only [resV, oneOf, stp, ev, Zb, Z2e, Z1z, Zk, Zl, reduceIte, Nat.reduceEqDiff, Zj, Zz, Zu, Z16, Z1a, Zm, Zp, Zo, Zd, Zx, Z2b, Z2x, Z1g, Z17, Zq, Zn, Zv, Z2p, Z2f, Z2o, Z2d, Z2g, Z1c, Z1b, Z2i, Z2n, Z2h, Z2j, Z2k, Z2l, Z2m, Z31, Z8, Z5, Z13, Zy, bld, fillL, vcs, splice, Ze, Z1, Z0, Z35, Ze, Z1, Z0, ldv, stv, vcs, idxA, blt, lenV, Z10, Z3, Z2, Zf, Zg, Ze, Z1, Z0, Z14, Zw, Zh, Zr, Z33, Z15, Z7, Zc, Z6, Z3, Z2, Zf, Zi, Nat.reduceAdd, Nat.reduceMul, Nat.reduceLeDiff, Z11, Z12, Z1y, Z1h, Z2c, Z23, Z28, Z27, Z26, Z25, Z24, Z1m, Z1l, Z1k, Z1j, Z1i, Z1w, Z1v, Z1u, Z1t, Z1s, Z32, Z2y, Z2q, Z2r, Z2s, Z20, Z1q, Z1r, Z2z, Z2t, Z21, Z22, splice, Za, Z9, Z1, Z0, Z19, Zt, Zs, Z18, newB, vcs, Z30, Z2v, Z1x, Z29, Z1n, Z2u, Z1o, Z1f, Z1p, Z1d, Z1e, Ty.ld3, Ty.sz3, Ty.zc3, Ty.by3, Ty.ld24, Ty.sz24, Ty.sl24, Ty.zc24, Ty.by24, Ty.ld56, Ty.sz56, Ty.sl56, Ty.zc56, Ty.by56, Ty.ld58, Ty.sz58, Ty.zc58, Ty.by58, Ty.pl58, Ty.ld71, Ty.sz71, Ty.sl71, Ty.zc71, Ty.by71, Ty.ld77, Ty.sz77, Ty.zc77, Ty.by77, Ty.pl77, Ty.ld80, Ty.sz80, Ty.zc80, Ty.by80, Ty.pl80, newDeskV, newDeskL, Bool.false_eq_true, if_false, *]; rfl)
      | (with_reducible refine specNewDesk_ok people _ _ _ ?_ ?_
         · first | assumption | exact Sl.old (by assumption) _ | ((try (simp only [deskV, deskL, Z11, Z12, Z1y, Z1h, Za, Z9, Z7, Zc, Zd, Z6, Z3, Z2, Zf, Zi, Nat.reduceAdd, Zh])); first | exact Sl.old (by assumption) _ | exact sl_nilints | exact sl_nilitems | (refine sl_ints (Z4 _) ?_; exact rfl) | (refine sl_items (Z4 _) ?_; exact rfl) | (refine sl_ints0 (Z4 _) ?_; exact rfl) | (refine sl_items0 (Z4 _) ?_; exact rfl))
         · first | omega | (simp only [Z2]; omega)
         )
      | (with_reducible refine l16Step_ok _ people items _ _ _ _ _ ?_ ?_ ?_ ?_
         · exact sp_sl1 b1 _ _ _ _
         · exact sp_sl2 b2 _ _ _ _
         · assumption
         · (intro i q; simp only [bid, Option.some.injEq] at q; simp only [Z6, Z3, Z2]; omega)
         )
      | ((with_reducible refine Z2w (n := 46) ?_); rintro _ _ ⟨rfl, hh⟩; replace hh := hh.symm; subst hh)
      | ((with_reducible refine Z2w (n := 110) ?_); rintro _ _ ⟨rfl, hh⟩; replace hh := hh.symm; subst hh)
      )
    exact play_none
end Go.Proofs.Ytiddnhhjlipebaa.Am
