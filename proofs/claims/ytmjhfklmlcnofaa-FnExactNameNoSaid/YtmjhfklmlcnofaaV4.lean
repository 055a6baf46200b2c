/- Walk of a specification's net. Conditions: none. -/
import Derived.Test.YtmjhfklmlcnofaaK3
import Derived.Test.YtmjhfklmlcnofaaV3
namespace Go.Proofs.Ytmjhfklmlcnofaa.Am
open Go Go.Proofs
set_option linter.unusedVariables false
set_option linter.unusedSimpArgs false
set_option maxRecDepth 100000
set_option maxHeartbeats 8000000
theorem mvC_load {h : Heap} {A B C : Blk} {X : Heap} {l : List MoveM} {k : Nat} (hk : k < l.length) : loadCs (h ++ A :: B :: C :: ⟨2, 3, mvC l⟩ :: X) (h.length + 3) (k * 3) 3 = some l[k].cells := by
  have hs : Sl (h ++ A :: B :: C :: ⟨2, 3, mvC l⟩ :: X) (.slice (some ⟨h.length + 3, 0, some 0⟩) l.length l.length) 3 (l.map MoveM.cells) :=
    sl_at (k := 3) (rows := l.map MoveM.cells) rfl (fun r hr => by obtain ⟨m, _, rfl⟩ := List.mem_map.1 hr; rfl) (Zv _).symm (Z4 _)
  obtain ⟨b, c, he, _, hr⟩ := hs
  rw [Zv] at he
  cases he
  obtain ⟨a, ha, hl⟩ := hr k l[k].cells (by rw [List.getElem?_map, List.getElem?_eq_getElem hk]; rfl)
  cases ha
  simpa using hl
theorem incr_get {l : List Int} {lo : Int} (h : incr l = true) (h0 : ∀ x ∈ l, lo ≤ x) : ∀ i, i < l.length → lo + i ≤ l.getD i 0 := by
  intro i
  induction i with
  | zero => intro hi; have := h0 (l.getD 0 0) (by rw [List.getD_eq_getElem?_getD, List.getElem?_eq_getElem hi]; exact List.getElem_mem hi); simpa using this
  | succ i ih =>
    intro hi
    have h1 := ih (by omega)
    have h2 := List.all_eq_true.1 h i (by simp; omega)
    simp only [decide_eq_true_eq] at h2
    omega
theorem rise_len {l : List Int} {lo hi : Int} (h : rise l lo hi = true) (hh : lo - 1 ≤ hi) : (l.length : Int) ≤ hi - lo + 1 := by
  simp only [rise, Bool.and_eq_true, allIn, List.all_eq_true, decide_eq_true_eq] at h
  rcases Nat.eq_zero_or_pos l.length with q | q
  · omega
  · have h1 := incr_get h.1 (fun x hx => (h.2 x hx).1) (l.length - 1) (by omega)
    have h2 := h.2 (l.getD (l.length - 1) 0) (by rw [List.getD_eq_getElem?_getD, List.getElem?_eq_getElem (by omega)]; exact List.getElem_mem _)
    omega
theorem movesT_mem {k : Nat} {t : TaskM} {m : MoveM} (hm : m ∈ movesT k t) : m.task = k ∧ m.fit t := by
  unfold movesT at hm
  rcases List.mem_append.1 hm with q | q
  · simp only [mvB, List.mem_map, List.mem_range] at q
    obtain ⟨j, hj, rfl⟩ := q
    refine ⟨rfl, fun _ h2 => ?_, fun h => by simp at h⟩
    rw [if_pos h2] at hj; exact hj
  · split at q
    · rename_i h1
      simp only [List.mem_singleton] at q; subst q
      exact ⟨rfl, fun h => by simp at h, fun _ => ⟨fun q => by omega, fun q => by omega⟩⟩
    · split at q
      · simp only [mvE1, List.mem_map, List.mem_range] at q
        obtain ⟨j, hj, rfl⟩ := q
        exact ⟨rfl, fun h => by simp at h, fun _ => ⟨fun _ => hj, fun q => by omega⟩⟩
      · simp only [mvE2, List.mem_map, List.mem_range] at q
        obtain ⟨j, hj, rfl⟩ := q
        exact ⟨rfl, fun h => by simp at h, fun _ => ⟨fun q => by omega, fun _ => ⟨by simp, by simp only; omega⟩⟩⟩
theorem movesK_mem {s : SpecM} {m : MoveM} : ∀ k, m ∈ movesK s k → m.task < k ∧ m.fit (s.tasks.getD m.task TaskM.nil)
  | 0, h => by simp [movesK] at h
  | k + 1, h => by
    rw [movesK] at h
    rcases List.mem_append.1 h with q | q
    · have := movesK_mem k q; exact ⟨by omega, this.2⟩
    · obtain ⟨h1, h2⟩ := movesT_mem q
      rw [h1]; exact ⟨by omega, h2⟩
theorem movesT_ne {k : Nat} {t : TaskM} (h1 : 1 ≤ t.inn.length) : movesT k t ≠ [] := by
  intro q
  have := congrArg List.length q
  unfold movesT at this
  simp only [Z6, mvB, Zv, List.length_range, Z2] at this
  split at this <;> omega
theorem movesM_ne {s : SpecM} (hf : s.fit) : movesM s ≠ [] := by
  unfold movesM
  obtain ⟨n, hn⟩ : ∃ n, s.tasks.length = n + 1 := ⟨s.tasks.length - 1, by have := hf.2.1.1; omega⟩
  rw [hn, movesK]
  intro q
  exact movesT_ne (taskOk_fit (hf.2.2 n (by omega))).1 (List.append_eq_nil_iff.1 q).2
def trOf (s : SpecM) (m : MoveM) : Tr := trM s.conds (s.tasks.getD m.task TaskM.nil) m
def trsM (s : SpecM) : List Tr := (movesM s).map (trOf s)
theorem movesM_len {s : SpecM} (hf : s.fit) : (movesM s).length ≤ 96 := by
  have := movesK_len s (fun k hk => ⟨(taskOk_fit (hf.2.2 k hk)).2.1, (taskOk_fit (hf.2.2 k hk)).2.2.2⟩) s.tasks.length (Z4 _)
  have h6 := hf.2.1.2
  unfold movesM; omega
theorem Sub.dead (M X : Heap) {ids : List Nat} (h : ∀ id ∈ ids, id < M.length) : Sub (List.replicate M.length ⟨0, 0, []⟩ ++ X) (killL (M ++ X) ids) := by
  refine ⟨by rw [killL_length]; simp, fun id b hb hk => ?_⟩
  rcases Nat.lt_or_ge id M.length with q | q
  · rw [List.getElem?_append_left (by simpa using q), List.getElem?_replicate, if_pos q] at hb
    cases hb; exact absurd rfl hk
  · rw [List.getElem?_append_right (by simpa using q)] at hb
    rw [killL_live _ _ _ (fun w => by have := h id w; omega), List.getElem?_append_right q]
    simpa using hb
theorem tr_new (M : Heap) (t : Tr) (cn : Bool) {ids : List Nat} (h : ∀ id ∈ ids, id < M.length) : RTr (killL (M ++ trL t cn) ids) (trRow M.length t cn) t := by
  refine RTr.sub ?_ (Sub.dead M (trL t cn) h)
  have hl : (List.replicate M.length (⟨0, 0, []⟩ : Blk)).length = M.length := by simp
  generalize List.replicate M.length (⟨0, 0, []⟩ : Blk) = K at *
  rw [← hl]
  unfold trRow
  rw [res_eq]
  refine ⟨_, _, _, rfl, ?_, ?_, ?_⟩
  · exact own_sl K t.inn _
  · have := own_sl (K ++ ownL t.inn) t.out (if cn = true then listL t.res else ownL t.res)
    simp only [ownL, Z7, Zc, Zd, Z6, Z3, Z2, Zf] at this
    exact this
  · cases cn with
    | false =>
      have := own_sl (K ++ ownL t.inn ++ ownL t.out) t.res []
      simp only [ownL, Z7, Zc, Zd, Z6, Z3, Z2, Zf, Zh, Nat.reduceAdd] at this
      exact this
    | true =>
      have := listV_sl (K ++ ownL t.inn ++ ownL t.out) t.res []
      simp only [ownL, Z7, Zc, Zd, Z6, Z3, Z2, Zf, Zh, Nat.reduceAdd, Zx] at this
      exact this
theorem bsl_tr (H : Heap) (n : Nat) (t : Tr) (cn : Bool) : bsl Try.prog 68 H 1 [(0, trV n t cn)] = some (.slice (some ⟨H.length, 0, none⟩) 1 1, H ++ [⟨2, 3, trRow n t cn⟩]) := by
  simp [bsl, Ty.sl68, Ty.zc95, fillL, newS, zeros, vcs, splice, trV, trRow, ownV, Am.flat]
theorem specFlow_ok (s : SpecM) (vt : Value) (I h : Heap) (hI : Sub I h) (hs : RTasks I vt s.tasks) (hsm : s.small) (hf : s.fit) :
    ACalls Try.prog 0 66 #[.agg #[.int .i64 s.conds, vt]] h
    fun v h' => ∃ tv L, v = .agg #[.int .i64 (s.conds + s.tasks.length), tv, .int .i64 0, .int .i64 1] ∧ h' = h ++ L ∧ RTrs (h ++ L) tv (trsM s) := by
  have hfl := hs.flat
  have hRT := hs
  obtain ⟨b, c, rfl, hcc, _⟩ := hs.form
  have hlen := hsm.1
  have hc8 := hf.1
  have h6 := hf.2.1
  have hne := movesM_ne hf
  have hml := movesM_len hf
  have hmem : ∀ m ∈ movesM s, m.task < s.tasks.length ∧ m.fit (s.tasks.getD m.task TaskM.nil) := fun m hm => movesK_mem _ hm
  have hmv : ∀ n, mvV n (movesM s) = .slice (some ⟨n, 0, some 0⟩) (movesM s).length (movesM s).length := fun n => if_neg hne
  have hmL : mvL (movesM s) = [⟨2, 3, mvC (movesM s)⟩] := if_neg hne
  have hmc := fun (h : Heap) (A B C : Blk) (X : Heap) (k : Nat) (hk : k < (movesM s).length) => mvC_load (h := h) (A := A) (B := B) (C := C) (X := X) hk
  have htrs : trsM s = (movesM s).map (trOf s) := rfl
  have hwp : IntKind.i64.wrap (s.conds + s.tasks.length) = s.conds + s.tasks.length := wrap_id (by omega)
  refine Z36 Try.func66 rfl Try.ntmps66 (by simp) (by dsimp only [Try.f66]) ?_
  repeat' (first | ((with_reducible refine eq_go ?_); simp only [stp, ev, ZB, reduceIte, Nat.reduceEqDiff, Z2x, Z13, Zy, bld, fillL, vcs, splice, Ze, ZH, Z35, ldv, stv, fldA, idxA, blt, lenV, Z10, Zg, Z14, Zw, Z33, Nat.reduceAdd, Nat.reduceMul, Nat.reduceLeDiff, newB, Ty.t3, Ty.t4, Ty.t30, Ty.t32, Ty.t68, Ty.t70, Ty.t72, Ty.t73, Ty.t86, Ty.t89, Ty.t95, Ty.t97, *]; rfl) | (with_reducible first | refine aw_then ?_ | refine aw_skip ?_ | refine aw_ret ?_ | refine aw_exit ?_ | refine aw_block ?_ | refine xr_reg (by decide +kernel) ?_ | refine xr_nil ?_ | refine k_norm ?_ | refine k_ret ?_ | refine k_exit ?_ | refine b_norm ?_ | refine b_ret ?_ | refine b_exit ?_ | refine b_past (by decide) ?_ | refine xd_nil ?_) | (refine Ty.c89 (args := ?_) (K := ?_) ?_ ?_ ?_; rotate_left 2) | (refine Ty.l89 (args := ?_) (v := ?_) (L := ?_) ?_ (by decide +kernel) ?_ ?_; rotate_left 3) | (refine Ty.c90 (args := ?_) (K := ?_) ?_ ?_ ?_; rotate_left 2) | (refine Ty.l90 (args := ?_) (v := ?_) (L := ?_) ?_ (by decide +kernel) ?_ ?_; rotate_left 3) | (refine xr_do (v := ?_) (h' := ?_) (by exact rfl) ?_ ?_; rotate_left 2) | (refine xr_st (v := ?_) (h' := ?_) (by exact rfl) ?_ ?_; rotate_left 2) | refine xd_reg (ms := [0, 1, 0, 0, 12, 28, 63, 127, 255]) Ty.mx (by decide +kernel) (by decide +kernel) ?_ | (refine xd_bs (v := ?_) (h' := ?_) (L := ?_) (by decide +kernel) ?_ ?_ ?_; rotate_left 3; (· simp only [stp, ev, ZB, reduceIte, Nat.reduceEqDiff, Z2x, Z13, Zy, bld, fillL, vcs, splice, Ze, ZH, Z35, ldv, stv, fldA, idxA, blt, lenV, Z10, Zg, Z14, Zw, Z33, Nat.reduceAdd, Nat.reduceMul, Nat.reduceLeDiff, newB, Ty.t3, Ty.t4, Ty.t30, Ty.t32, Ty.t68, Ty.t70, Ty.t72, Ty.t73, Ty.t86, Ty.t89, Ty.t95, Ty.t97, *]; rfl); (· exact rfl)) | (refine xd_do (v := ?_) (by exact rfl) (by decide +kernel) ?_ ?_; rotate_left 1) | (refine aw_c (b := ?_) (by decide) ?_ ?_; rotate_left 1; (· simp only [ev, Zb, reduceIte, Nat.reduceEqDiff, *]; rfl)) | (with_reducible first | refine cw_t ?_ | refine cw_f ?_) | refine cw_if (fun hb => ?_) (fun hb => ?_) | (refine r_ret (vs := ?_) ?_ ?_; rotate_left 1; (· simp only [resV, oneOf, stp, ev, ZB, reduceIte, Nat.reduceEqDiff, Z2x, Z13, Zy, bld, fillL, vcs, splice, Ze, ZH, Z35, ldv, stv, fldA, idxA, blt, lenV, Z10, Zg, Z14, Zw, Z33, Nat.reduceAdd, Nat.reduceMul, Nat.reduceLeDiff, newB, Ty.t3, Ty.t4, Ty.t30, Ty.t32, Ty.t68, Ty.t70, Ty.t72, Ty.t73, Ty.t86, Ty.t89, Ty.t95, Ty.t97, *]; rfl)) | ((with_reducible refine movesOf_ok s _ I _ ?_ ?_ ?_ ?_); (· first | assumption | exact Sub.refl _ | exact Sub.app ‹_› _ | exact Sub.app (Sub.refl _) _); (· assumption); (· assumption); (· assumption)) | ((with_reducible refine transOf_ok s _ _ I _ ?_ ?_ ?_ ?_ ?_ ?_); (· first | assumption | exact Sub.refl _ | exact Sub.app ‹_› _ | exact Sub.app (Sub.refl _) _); (· assumption); (· assumption); (· assumption); (· first | omega | (simp only [Z2]; omega)); (· assumption)) | ((with_reducible refine Z2w ?_); rintro _ _ ⟨rfl, hh⟩; replace hh := hh.symm; subst hh))
  refine aw_for [1, 2, 3, 14, 15] (fun k T h' => ∃ tv L, h' = h ++ ⟨2, 1, [.int .i64 s.conds, .slice b s.tasks.length c]⟩ :: ⟨2, 1, [.int .i64 0, .slice none 0 0, .int .i64 0, .int .i64 0]⟩ :: ⟨2, 1, [.int .i64 (s.conds + s.tasks.length), tv]⟩ :: ⟨2, 3, mvC (movesM s)⟩ :: L ∧
      T 16 = .int .i64 k ∧ NS RTr 3 (h ++ [⟨2, 1, [.int .i64 s.conds, .slice b s.tasks.length c]⟩, ⟨2, 1, [.int .i64 0, .slice none 0 0, .int .i64 0, .int .i64 0]⟩, ⟨2, 1, [.int .i64 (s.conds + s.tasks.length), tv]⟩, ⟨2, 3, mvC (movesM s)⟩]) L [h.length + 1, h.length + 2] tv (((movesM s).take k).map (trOf s)))
    (movesM s).length (k0 := 0) (Nat.zero_le _) ⟨_, [], rfl, rfl, NS.nil _ _ _ _ _⟩ ?_
  rintro k T h' hk hR ⟨tv, L, rfl, h16, hns⟩
  simp only [Z37, Z38, Z39, implies_true, and_true, stp, ev, ZB, reduceIte, Nat.reduceEqDiff, Z2x, Z13, Zy] at hR
  have hfv := hns.flat
  rcases Nat.lt_or_ge k (movesM s).length with hkn | hkn
  · have h1 : (k : Int) < (movesM s).length := by omega
    have hmk := fun (A B C : Blk) (X : Heap) => hmc h A B C X k hkn
    obtain ⟨hm1, hm2⟩ := hmem _ (List.getElem_mem hkn)
    have hsn : ((movesM s).take (k + 1)).map (trOf s) = ((movesM s).take k).map (trOf s) ++ [trOf s (movesM s)[k]] := by
      rw [← List.take_append_getElem hkn, List.map_append]; rfl
    have htl : (((movesM s).take k).map (trOf s)).length = k := by simp; omega
    generalize ((movesM s).take k).map (trOf s) = ts at *
    generalize (movesM s)[k] = m at *
    simp only [MoveM.cells] at hmk
    clear hmc hmem hmL htrs
    generalize movesM s = M at *
    have hbs := bsl_tr
    repeat' (first | ((with_reducible refine eq_go ?_); simp only [stp, ev, ZB, reduceIte, Nat.reduceEqDiff, Z2x, Z13, Zy, bld, fillL, vcs, splice, Ze, ZH, Z35, ldv, stv, fldA, idxA, blt, lenV, Z10, Zg, Z14, Zw, Z33, Nat.reduceAdd, Nat.reduceMul, Nat.reduceLeDiff, newB, Ty.t3, Ty.t4, Ty.t30, Ty.t32, Ty.t68, Ty.t70, Ty.t72, Ty.t73, Ty.t86, Ty.t89, Ty.t95, Ty.t97, *]; rfl) | (with_reducible first | refine aw_then ?_ | refine aw_skip ?_ | refine aw_ret ?_ | refine aw_exit ?_ | refine aw_block ?_ | refine xr_reg (by decide +kernel) ?_ | refine xr_nil ?_ | refine k_norm ?_ | refine k_ret ?_ | refine k_exit ?_ | refine b_norm ?_ | refine b_ret ?_ | refine b_exit ?_ | refine b_past (by decide) ?_ | refine xd_nil ?_) | (refine Ty.c89 (args := ?_) (K := ?_) ?_ ?_ ?_; rotate_left 2) | (refine Ty.l89 (args := ?_) (v := ?_) (L := ?_) ?_ (by decide +kernel) ?_ ?_; rotate_left 3) | (refine Ty.c90 (args := ?_) (K := ?_) ?_ ?_ ?_; rotate_left 2) | (refine Ty.l90 (args := ?_) (v := ?_) (L := ?_) ?_ (by decide +kernel) ?_ ?_; rotate_left 3) | (refine xr_do (v := ?_) (h' := ?_) (by exact rfl) ?_ ?_; rotate_left 2) | (refine xr_st (v := ?_) (h' := ?_) (by exact rfl) ?_ ?_; rotate_left 2) | refine xe_reg (ms := [0, 1, 0, 0, 12, 28, 63, 127, 255]) Ty.mx (by decide +kernel) (by decide +kernel) [[],[],[],[],[],[],bidL tv,[],[h.length + 2]] ?_ | (with_reducible first | refine xe_nil ?_) | (refine xe_bsl (v := ?_) (ids := []) (L := [⟨2, 3, trRow (h.length + (L.length + 5)) (trOf s m) (trCn (s.tasks.getD m.task TaskM.nil) m)⟩]) (by decide +kernel) (by exact rfl) (by exact rfl) ?_ ?_; rotate_left 1) | (refine xe_do (v := ?_) (ids := []) (by exact rfl) (by decide +kernel) (by exact rfl) (by exact rfl) ?_ ?_; rotate_left 1) | (refine xe_st (v := ?_) (a := ?_) (h' := ?_) (ids := []) (by decide +kernel) (by exact rfl) ?_ ?_ ?_ ?_ ?_; rotate_left 3; (· simp only [stp, ev, ZB, reduceIte, Nat.reduceEqDiff, Z2x, Z13, Zy, bld, fillL, vcs, splice, Ze, ZH, Z35, ldv, stv, fldA, idxA, blt, lenV, Z10, Zg, Z14, Zw, Z33, Nat.reduceAdd, Nat.reduceMul, Nat.reduceLeDiff, newB, Ty.t3, Ty.t4, Ty.t30, Ty.t32, Ty.t68, Ty.t70, Ty.t72, Ty.t73, Ty.t86, Ty.t89, Ty.t95, Ty.t97, *]; rfl); (· exact rfl); (· simp)) | (refine xe_alloc (z := ?_) ?_ ?_ (by exact rfl) ?_; rotate_left 1; (· first | exact Ty.zc3 | exact Ty.zc30 | exact Ty.zc32 | exact Ty.zc68 | exact Ty.zc70 | exact Ty.zc72 | exact Ty.zc73 | exact Ty.zc97); (· decide)) | (refine xe_cl (f := ?_) (fs := ?_) (cs := ?_) (args := ?_) (v := ?_) (ids := []) (L := ?_) (a := true) ?_ ?_ ?_ (by decide +kernel) (by exact rfl) (by exact rfl) (fun q => by cases q) ?_ ?_; rotate_left 6; (· simp only [ev]; rfl); (· first | with_reducible exact Ty.ok89 | with_reducible exact Ty.ok90); (· simp only [stp, ev, ZB, reduceIte, Nat.reduceEqDiff, Z2x, Z13, Zy, bld, fillL, vcs, splice, Ze, ZH, Z35, ldv, stv, fldA, idxA, blt, lenV, Z10, Zg, Z14, Zw, Z33, Nat.reduceAdd, Nat.reduceMul, Nat.reduceLeDiff, newB, Ty.t3, Ty.t4, Ty.t30, Ty.t32, Ty.t68, Ty.t70, Ty.t72, Ty.t73, Ty.t86, Ty.t89, Ty.t95, Ty.t97, *]; rfl); (· simp only [Z2c]; (first | ((with_reducible refine movesOf_ok s _ I _ ?_ ?_ ?_ ?_); (· first | assumption | exact Sub.refl _ | exact Sub.app ‹_› _ | exact Sub.app (Sub.refl _) _); (· assumption); (· assumption); (· assumption)) | ((with_reducible refine transOf_ok s _ _ I _ ?_ ?_ ?_ ?_ ?_ ?_); (· first | assumption | exact Sub.refl _ | exact Sub.app ‹_› _ | exact Sub.app (Sub.refl _) _); (· assumption); (· assumption); (· assumption); (· omega); (· assumption))))) | (refine xd_do (v := ?_) (by exact rfl) (by decide +kernel) ?_ ?_; rotate_left 1) | (refine aw_c (b := ?_) (by decide) ?_ ?_; rotate_left 1; (· simp only [ev, Zb, reduceIte, Nat.reduceEqDiff, *]; rfl)) | (with_reducible first | refine cw_t ?_ | refine cw_f ?_) | refine cw_if (fun hb => ?_) (fun hb => ?_) | (refine r_ret (vs := ?_) ?_ ?_; rotate_left 1; (· simp only [resV, oneOf, stp, ev, ZB, reduceIte, Nat.reduceEqDiff, Z2x, Z13, Zy, bld, fillL, vcs, splice, Ze, ZH, Z35, ldv, stv, fldA, idxA, blt, lenV, Z10, Zg, Z14, Zw, Z33, Nat.reduceAdd, Nat.reduceMul, Nat.reduceLeDiff, newB, Ty.t3, Ty.t4, Ty.t30, Ty.t32, Ty.t68, Ty.t70, Ty.t72, Ty.t73, Ty.t86, Ty.t89, Ty.t95, Ty.t97, *]; rfl)) | ((with_reducible refine movesOf_ok s _ I _ ?_ ?_ ?_ ?_); (· first | assumption | exact Sub.refl _ | exact Sub.app ‹_› _ | exact Sub.app (Sub.refl _) _); (· assumption); (· assumption); (· assumption)) | ((with_reducible refine transOf_ok s _ _ I _ ?_ ?_ ?_ ?_ ?_ ?_); (· first | assumption | exact Sub.refl _ | exact Sub.app ‹_› _ | exact Sub.app (Sub.refl _) _); (· assumption); (· assumption); (· assumption); (· first | omega | (simp only [Z2]; omega)); (· assumption)) | ((with_reducible refine Z2w ?_); rintro _ _ ⟨rfl, hh⟩; replace hh := hh.symm; subst hh))
    have hto : trM s.conds (s.tasks.getD m.task TaskM.nil) m = trOf s m := rfl
    rw [hto]
    have hx := tr_new ((h ++ [⟨2, 1, [.int .i64 s.conds, .slice b s.tasks.length c]⟩, ⟨2, 1, [.int .i64 0, .slice none 0 0, .int .i64 0, .int .i64 0]⟩, ⟨2, 1, [.int .i64 (s.conds + s.tasks.length), tv]⟩, ⟨2, 3, mvC M⟩]) ++ (L ++ [⟨2, 1, [.int .i64 m.task, .bool m.beg, .int .i64 m.pick]⟩])) (trOf s m) (trCn (s.tasks.getD m.task TaskM.nil) m) (ids := [h.length + 1, h.length + 2] ++ bidL tv) (fun id hid => by
      rcases List.mem_append.1 hid with q | q
      · simp at q; simp; omega
      · have := hns.bid_lt (mem_bidL.1 q); simp at this ⊢; omega)
    obtain ⟨tv', L', hap, hns', hle, hsame, hE, -⟩ := ns_step (P := Try.prog) (X := ⟨2, 1, [.int .i64 m.task, .bool m.beg, .int .i64 m.pick]⟩ :: trL (trOf s m) (trCn (s.tasks.getD m.task TaskM.nil) m)) (r := trRow (h.length + (L.length + 5)) (trOf s m) (trCn (s.tasks.getD m.task TaskM.nil) m)) (x := trOf s m)
      (ix := h.length + (L.length + ((trL (trOf s m) (trCn (s.tasks.getD m.task TaskM.nil) m)).length + 5))) (fun I h r x q s => q.sub s) Ty.sl68 Ty.zc95 Ty.by95 hns rfl
      (by
        rw [show ((h ++ [⟨2, 1, [.int .i64 s.conds, .slice b s.tasks.length c]⟩, ⟨2, 1, [.int .i64 0, .slice none 0 0, .int .i64 0, .int .i64 0]⟩, ⟨2, 1, [.int .i64 (s.conds + s.tasks.length), tv]⟩, ⟨2, 3, mvC M⟩]) ++ (L ++ [⟨2, 1, [.int .i64 m.task, .bool m.beg, .int .i64 m.pick]⟩]) : Heap).length = h.length + (L.length + 5) by simp] at hx
        simp only [Z7, Zc, Zd] at hx ⊢
        exact hx) (by simp; omega) (by omega) (by omega)
    simp only [Z7, Zc, Zd] at hap hle hsame hE ⊢
    refine xe_wr (v := tv') (E := bidL tv) (by decide +kernel) (by exact rfl) (by exact rfl) ?_ hle hsame hE ?_
    · simp only [stp, ev, ZB, reduceIte, Nat.reduceEqDiff, Z2x, Z13, Zy, bld, fillL, vcs, splice, Ze, ZH, Z35, ldv, stv, fldA, idxA, blt, lenV, Z10, Zg, Z14, Zw, Z33, Nat.reduceAdd, Nat.reduceMul, Nat.reduceLeDiff, newB, Ty.t3, Ty.t4, Ty.t30, Ty.t32, Ty.t68, Ty.t70, Ty.t72, Ty.t73, Ty.t86, Ty.t89, Ty.t95, Ty.t97, *]
      exact hap
    obtain ⟨bb, htv'⟩ := hns'.len
    rw [show (ts ++ [trOf s m]).length = k + 1 by rw [Z6, htl]; rfl] at htv'
    subst htv'
    clear hap hle hsame hE hns hx
    repeat' (first | ((with_reducible refine eq_go ?_); simp only [stp, ev, ZB, reduceIte, Nat.reduceEqDiff, Z2x, Z13, Zy, bld, fillL, vcs, splice, Ze, ZH, Z35, ldv, stv, fldA, idxA, blt, lenV, Z10, Zg, Z14, Zw, Z33, Nat.reduceAdd, Nat.reduceMul, Nat.reduceLeDiff, newB, Ty.t3, Ty.t4, Ty.t30, Ty.t32, Ty.t68, Ty.t70, Ty.t72, Ty.t73, Ty.t86, Ty.t89, Ty.t95, Ty.t97, *]; rfl) | (with_reducible first | refine aw_then ?_ | refine aw_skip ?_ | refine aw_ret ?_ | refine aw_exit ?_ | refine aw_block ?_ | refine xr_reg (by decide +kernel) ?_ | refine xr_nil ?_ | refine k_norm ?_ | refine k_ret ?_ | refine k_exit ?_ | refine b_norm ?_ | refine b_ret ?_ | refine b_exit ?_ | refine b_past (by decide) ?_ | refine xd_nil ?_) | (refine Ty.c89 (args := ?_) (K := ?_) ?_ ?_ ?_; rotate_left 2) | (refine Ty.l89 (args := ?_) (v := ?_) (L := ?_) ?_ (by decide +kernel) ?_ ?_; rotate_left 3) | (refine Ty.c90 (args := ?_) (K := ?_) ?_ ?_ ?_; rotate_left 2) | (refine Ty.l90 (args := ?_) (v := ?_) (L := ?_) ?_ (by decide +kernel) ?_ ?_; rotate_left 3) | (refine xr_do (v := ?_) (h' := ?_) (by exact rfl) ?_ ?_; rotate_left 2) | (refine xr_st (v := ?_) (h' := ?_) (by exact rfl) ?_ ?_; rotate_left 2) | refine xe_reg (ms := [0, 1, 0, 0, 12, 28, 63, 127, 255]) Ty.mx (by decide +kernel) (by decide +kernel) [[],[],[],[],[],[],bidL tv,[],[h.length + 2]] ?_ | (with_reducible first | refine xe_nil ?_) | (refine xe_do (v := ?_) (ids := []) (by exact rfl) (by decide +kernel) (by exact rfl) (by exact rfl) ?_ ?_; rotate_left 1) | (refine xe_st (v := ?_) (a := ?_) (h' := ?_) (ids := []) (by decide +kernel) (by exact rfl) ?_ ?_ ?_ ?_ ?_; rotate_left 3; (· simp only [stp, ev, ZB, reduceIte, Nat.reduceEqDiff, Z2x, Z13, Zy, bld, fillL, vcs, splice, Ze, ZH, Z35, ldv, stv, fldA, idxA, blt, lenV, Z10, Zg, Z14, Zw, Z33, Nat.reduceAdd, Nat.reduceMul, Nat.reduceLeDiff, newB, Ty.t3, Ty.t4, Ty.t30, Ty.t32, Ty.t68, Ty.t70, Ty.t72, Ty.t73, Ty.t86, Ty.t89, Ty.t95, Ty.t97, *]; rfl); (· exact rfl); (· simp)) | (refine xe_alloc (z := ?_) ?_ ?_ (by exact rfl) ?_; rotate_left 1; (· first | exact Ty.zc3 | exact Ty.zc30 | exact Ty.zc32 | exact Ty.zc68 | exact Ty.zc70 | exact Ty.zc72 | exact Ty.zc73 | exact Ty.zc97); (· decide)) | (refine xe_cl (f := ?_) (fs := ?_) (cs := ?_) (args := ?_) (v := ?_) (ids := []) (L := ?_) (a := true) ?_ ?_ ?_ (by decide +kernel) (by exact rfl) (by exact rfl) (fun q => by cases q) ?_ ?_; rotate_left 6; (· simp only [ev]; rfl); (· first | with_reducible exact Ty.ok89 | with_reducible exact Ty.ok90); (· simp only [stp, ev, ZB, reduceIte, Nat.reduceEqDiff, Z2x, Z13, Zy, bld, fillL, vcs, splice, Ze, ZH, Z35, ldv, stv, fldA, idxA, blt, lenV, Z10, Zg, Z14, Zw, Z33, Nat.reduceAdd, Nat.reduceMul, Nat.reduceLeDiff, newB, Ty.t3, Ty.t4, Ty.t30, Ty.t32, Ty.t68, Ty.t70, Ty.t72, Ty.t73, Ty.t86, Ty.t89, Ty.t95, Ty.t97, *]; rfl); (· simp only [Z2c]; (first | ((with_reducible refine movesOf_ok s _ I _ ?_ ?_ ?_ ?_); (· first | assumption | exact Sub.refl _ | exact Sub.app ‹_› _ | exact Sub.app (Sub.refl _) _); (· assumption); (· assumption); (· assumption)) | ((with_reducible refine transOf_ok s _ _ I _ ?_ ?_ ?_ ?_ ?_ ?_); (· first | assumption | exact Sub.refl _ | exact Sub.app ‹_› _ | exact Sub.app (Sub.refl _) _); (· assumption); (· assumption); (· assumption); (· omega); (· assumption))))) | (refine xd_do (v := ?_) (by exact rfl) (by decide +kernel) ?_ ?_; rotate_left 1) | (refine aw_c (b := ?_) (by decide) ?_ ?_; rotate_left 1; (· simp only [ev, Zb, reduceIte, Nat.reduceEqDiff, *]; rfl)) | (with_reducible first | refine cw_t ?_ | refine cw_f ?_) | refine cw_if (fun hb => ?_) (fun hb => ?_) | (refine r_ret (vs := ?_) ?_ ?_; rotate_left 1; (· simp only [resV, oneOf, stp, ev, ZB, reduceIte, Nat.reduceEqDiff, Z2x, Z13, Zy, bld, fillL, vcs, splice, Ze, ZH, Z35, ldv, stv, fldA, idxA, blt, lenV, Z10, Zg, Z14, Zw, Z33, Nat.reduceAdd, Nat.reduceMul, Nat.reduceLeDiff, newB, Ty.t3, Ty.t4, Ty.t30, Ty.t32, Ty.t68, Ty.t70, Ty.t72, Ty.t73, Ty.t86, Ty.t89, Ty.t95, Ty.t97, *]; rfl)) | ((with_reducible refine movesOf_ok s _ I _ ?_ ?_ ?_ ?_); (· first | assumption | exact Sub.refl _ | exact Sub.app ‹_› _ | exact Sub.app (Sub.refl _) _); (· assumption); (· assumption); (· assumption)) | ((with_reducible refine transOf_ok s _ _ I _ ?_ ?_ ?_ ?_ ?_ ?_); (· first | assumption | exact Sub.refl _ | exact Sub.app ‹_› _ | exact Sub.app (Sub.refl _) _); (· assumption); (· assumption); (· assumption); (· first | omega | (simp only [Z2]; omega)); (· assumption)) | ((with_reducible refine Z2w ?_); rintro _ _ ⟨rfl, hh⟩; replace hh := hh.symm; subst hh))
    refine ⟨by first | assumption | omega, ?_, ?_⟩
    · simp only [Z37, Z38, Z39, implies_true, and_true, ZB, stp, ev, reduceIte, Nat.reduceEqDiff, Z2x, Z13, Zy, *]
    refine ⟨_, L', rfl, ?_, ?_⟩
    · simp only [Zb, reduceIte, Nat.reduceEqDiff]
      rw [wrap_id (by omega)]; rfl
    · rw [hsn]
      refine hns'.ahead ?_ ?_
      · simp
      intro id hid hn
      simp only [Z6, Z3, Z2] at hid
      rcases Nat.lt_or_ge id h.length with q | q
      · rw [List.getElem?_append_left q, List.getElem?_append_left q]
      · obtain ⟨j, rfl⟩ : ∃ j, id = h.length + j := ⟨id - h.length, by omega⟩
        rw [get_at, get_at]
        simp only [List.mem_cons, Z38, or_false, not_or] at hn
        rcases (by omega : j = 0 ∨ j = 3) with rfl | rfl <;> rfl
  · have h1 : ¬ (k : Int) < (movesM s).length := by omega
    obtain rfl : k = (movesM s).length := by omega
    rw [List.take_length, ← htrs] at hns
    generalize movesM s = M at *
    repeat' (first | ((with_reducible refine eq_go ?_); simp only [stp, ev, ZB, reduceIte, Nat.reduceEqDiff, Z2x, Z13, Zy, bld, fillL, vcs, splice, Ze, ZH, Z35, ldv, stv, fldA, idxA, blt, lenV, Z10, Zg, Z14, Zw, Z33, Nat.reduceAdd, Nat.reduceMul, Nat.reduceLeDiff, newB, Ty.t3, Ty.t4, Ty.t30, Ty.t32, Ty.t68, Ty.t70, Ty.t72, Ty.t73, Ty.t86, Ty.t89, Ty.t95, Ty.t97, *]; rfl) | (with_reducible first | refine aw_then ?_ | refine aw_skip ?_ | refine aw_ret ?_ | refine aw_exit ?_ | refine aw_block ?_ | refine xr_reg (by decide +kernel) ?_ | refine xr_nil ?_ | refine k_norm ?_ | refine k_ret ?_ | refine k_exit ?_ | refine b_norm ?_ | refine b_ret ?_ | refine b_exit ?_ | refine b_past (by decide) ?_ | refine xd_nil ?_) | (refine Ty.c89 (args := ?_) (K := ?_) ?_ ?_ ?_; rotate_left 2) | (refine Ty.l89 (args := ?_) (v := ?_) (L := ?_) ?_ (by decide +kernel) ?_ ?_; rotate_left 3) | (refine Ty.c90 (args := ?_) (K := ?_) ?_ ?_ ?_; rotate_left 2) | (refine Ty.l90 (args := ?_) (v := ?_) (L := ?_) ?_ (by decide +kernel) ?_ ?_; rotate_left 3) | (refine xr_do (v := ?_) (h' := ?_) (by exact rfl) ?_ ?_; rotate_left 2) | (refine xr_st (v := ?_) (h' := ?_) (by exact rfl) ?_ ?_; rotate_left 2) | refine xd_reg (ms := [0, 1, 0, 0, 12, 28, 63, 127, 255]) Ty.mx (by decide +kernel) (by decide +kernel) ?_ | (refine xd_bs (v := ?_) (h' := ?_) (L := ?_) (by decide +kernel) ?_ ?_ ?_; rotate_left 3; (· simp only [stp, ev, ZB, reduceIte, Nat.reduceEqDiff, Z2x, Z13, Zy, bld, fillL, vcs, splice, Ze, ZH, Z35, ldv, stv, fldA, idxA, blt, lenV, Z10, Zg, Z14, Zw, Z33, Nat.reduceAdd, Nat.reduceMul, Nat.reduceLeDiff, newB, Ty.t3, Ty.t4, Ty.t30, Ty.t32, Ty.t68, Ty.t70, Ty.t72, Ty.t73, Ty.t86, Ty.t89, Ty.t95, Ty.t97, *]; rfl); (· exact rfl)) | (refine xd_do (v := ?_) (by exact rfl) (by decide +kernel) ?_ ?_; rotate_left 1) | (refine aw_c (b := ?_) (by decide) ?_ ?_; rotate_left 1; (· simp only [ev, Zb, reduceIte, Nat.reduceEqDiff, *]; rfl)) | (with_reducible first | refine cw_t ?_ | refine cw_f ?_) | refine cw_if (fun hb => ?_) (fun hb => ?_) | (refine r_ret (vs := ?_) ?_ ?_; rotate_left 1; (· simp only [resV, oneOf, stp, ev, ZB, reduceIte, Nat.reduceEqDiff, Z2x, Z13, Zy, bld, fillL, vcs, splice, Ze, ZH, Z35, ldv, stv, fldA, idxA, blt, lenV, Z10, Zg, Z14, Zw, Z33, Nat.reduceAdd, Nat.reduceMul, Nat.reduceLeDiff, newB, Ty.t3, Ty.t4, Ty.t30, Ty.t32, Ty.t68, Ty.t70, Ty.t72, Ty.t73, Ty.t86, Ty.t89, Ty.t95, Ty.t97, *]; rfl)) | ((with_reducible refine movesOf_ok s _ I _ ?_ ?_ ?_ ?_); (· first | assumption | exact Sub.refl _ | exact Sub.app ‹_› _ | exact Sub.app (Sub.refl _) _); (· assumption); (· assumption); (· assumption)) | ((with_reducible refine transOf_ok s _ _ I _ ?_ ?_ ?_ ?_ ?_ ?_); (· first | assumption | exact Sub.refl _ | exact Sub.app ‹_› _ | exact Sub.app (Sub.refl _) _); (· assumption); (· assumption); (· assumption); (· first | omega | (simp only [Z2]; omega)); (· assumption)) | ((with_reducible refine Z2w ?_); rintro _ _ ⟨rfl, hh⟩; replace hh := hh.symm; subst hh))
    refine ⟨tv, _, rfl, rfl, ?_⟩
    have := (hns.ahead (h3 := h ++ [⟨2, 1, [.int .i64 s.conds, .slice b s.tasks.length c]⟩, ⟨2, 1, [.int .i64 (s.conds + s.tasks.length), tv, .int .i64 0, .int .i64 1]⟩, ⟨2, 1, [.int .i64 (s.conds + s.tasks.length), tv]⟩, ⟨2, 3, mvC M⟩]) (by simp) (fun id hid hn => by
      simp only [Z6, Z3, Z2] at hid
      rcases Nat.lt_or_ge id h.length with q | q
      · rw [List.getElem?_append_left q, List.getElem?_append_left q]
      · obtain ⟨j, rfl⟩ : ∃ j, id = h.length + j := ⟨id - h.length, by omega⟩
        rw [get_at, get_at]
        simp only [List.mem_cons, Z38, or_false, not_or] at hn
        rcases (by omega : j = 0 ∨ j = 3) with rfl | rfl <;> rfl)).rs (fun I h r x q s => q.sub s)
    simp only [Z7, Zc, Zd] at this
    exact this
end Go.Proofs.Ytmjhfklmlcnofaa.Am
namespace Go.Proofs.Ytmjhfklmlcnofaa.Am
open Go Go.Proofs
set_option linter.unusedVariables false
set_option linter.unusedSimpArgs false
set_option maxRecDepth 100000
set_option maxHeartbeats 8000000
def tasksOk (s : SpecM) (k : Nat) : Bool := (List.range k).all fun i => taskOk s.conds s.tasks.length i (s.tasks.getD i TaskM.nil)
def flowM (s : SpecM) : FlowM := ⟨⟨s.conds + s.tasks.length, trsM s⟩, 0, 1⟩
def specOk (s : SpecM) : Bool := decide (2 ≤ s.conds ∧ s.conds ≤ 8) && (decide (1 ≤ (s.tasks.length : Int) ∧ (s.tasks.length : Int) ≤ 6) && (tasksOk s s.tasks.length && flowOk (flowM s)))
theorem tasksOk_succ {s : SpecM} {k : Nat} (h : tasksOk s k = true) (h2 : taskOk s.conds s.tasks.length k (s.tasks.getD k TaskM.nil) = true) : tasksOk s (k + 1) = true := by
  unfold tasksOk at *; rw [List.range_succ, List.all_append, h]; simp only [Z1f, Z1p, h2, Z1d]
theorem tasksOk_bad {s : SpecM} {k : Nat} (hk : k < s.tasks.length) (h2 : taskOk s.conds s.tasks.length k (s.tasks.getD k TaskM.nil) = false) : tasksOk s s.tasks.length = false :=
  List.all_eq_false.2 ⟨k, List.mem_range.2 hk, by rw [h2]; simp⟩
theorem spec_fit {s : SpecM} (h1 : 2 ≤ s.conds ∧ s.conds ≤ 8) (h2 : 1 ≤ s.tasks.length ∧ s.tasks.length ≤ 6) (h : tasksOk s s.tasks.length = true) : s.fit :=
  ⟨h1, h2, fun k hk => List.all_eq_true.1 h k (List.mem_range.2 hk)⟩
theorem regM_len {s : SpecM} (hf : s.fit) {k : Nat} (hk : k < s.tasks.length) : (regM s.conds (s.tasks.getD k TaskM.nil)).length ≤ 14 := by
  have h := hf.2.2 k hk
  simp only [taskOk, Bool.and_eq_true] at h
  have h6 := hf.2.1
  have h8 := hf.1
  have a := rise_len h.2.2.2.2.2.2.2.1 (by omega)
  have b := rise_len h.2.2.2.2.2.2.2.2.1 (by omega)
  simp only [regM, Z6, Zv]; omega
theorem trsM_small {s : SpecM} (hf : s.fit) : (⟨s.conds + s.tasks.length, trsM s⟩ : NetM).small := by
  have hl := movesM_len hf
  refine ⟨by simp only [trsM, Zv]; omega, fun t ht => ?_⟩
  obtain ⟨m, hm, rfl⟩ := List.mem_map.1 ht
  have hm1 : m.task < s.tasks.length := (movesK_mem _ hm).1
  have hr := regM_len hf hm1
  obtain ⟨i1, i2, o1, o2⟩ := taskOk_fit (hf.2.2 m.task hm1)
  have hb := fun n => bitsK_len n 3
  unfold trOf Tr.small trM
  generalize s.tasks.getD m.task TaskM.nil = t at *
  have hso : ∀ n, (someM t.out n).length ≤ 3 := fun n => by simp only [someM, Zv]; exact hb n
  have h1 := hso m.pick
  split
  · refine ⟨?_, by simp, by simp⟩
    (try dsimp only); split <;> first | omega | (simp; done)
  · refine ⟨by simp, ?_, Nat.le_trans hr (by decide)⟩
    (try dsimp only); split
    · simp
    · split <;> omega
theorem isSpec_ok (s : SpecM) (vt : Value) (I h : Heap) (hI : Sub I h) (hs : RTasks I vt s.tasks) (hsm : s.small) :
    ACalls Try.prog 0 46 #[.agg #[.int .i64 s.conds, vt]] h
    fun v h' => v = .bool (specOk s) ∧ h' = h := by
  refine acalls_pure (.inl rfl) ?_
  have hfl := hs.flat
  have hRT := hs
  obtain ⟨b, c, rfl, hcc, _⟩ := hs.form
  have hlen := hsm.1
  rcases Bool.eq_false_or_eq_true (decide (2 ≤ s.conds ∧ s.conds ≤ 8)) with h1 | h1
  · rcases Bool.eq_false_or_eq_true (decide (1 ≤ (s.tasks.length : Int) ∧ (s.tasks.length : Int) ≤ 6)) with h2 | h2
    · have h1' := of_decide_eq_true h1
      have h2' := of_decide_eq_true h2
      refine Z36 Try.func46 rfl Try.ntmps46 (by simp) (by dsimp only [Try.f46]) ?_
      repeat' (first | ((with_reducible refine eq_go ?_); simp only [stp, ev, ZB, reduceIte, Nat.reduceEqDiff, Z2x, Z13, Zy, ldv, fldA, blt, lenV, Z10, ZH, Zg, Ze, Z14, Zw, Z33, Nat.reduceAdd, Nat.reduceMul, Nat.reduceLeDiff, splice, newB, vcs, Ty.t3, Ty.t30, Ty.t32, Ty.t68, Ty.t70, Ty.t72, Ty.t86, Ty.t89, Ty.t95, *]; rfl) | (with_reducible first | refine aw_then ?_ | refine aw_skip ?_ | refine aw_ret ?_ | refine aw_exit ?_ | refine aw_block ?_ | refine xr_reg (by decide +kernel) ?_ | refine xr_nil ?_ | refine k_norm ?_ | refine k_ret ?_ | refine k_exit ?_ | refine b_norm ?_ | refine b_ret ?_ | refine b_exit ?_ | refine b_past (by decide) ?_) | (refine Ty.c53 (args := ?_) (K := ?_) ?_ ?_ ?_; rotate_left 2) | (refine Ty.c64 (args := ?_) (K := ?_) ?_ ?_ ?_; rotate_left 2) | (refine Ty.c65 (args := ?_) (K := ?_) ?_ ?_ ?_; rotate_left 2) | (refine Ty.c66 (args := ?_) (K := ?_) ?_ ?_ ?_; rotate_left 2) | (refine xr_do (v := ?_) (h' := ?_) (by exact rfl) ?_ ?_; rotate_left 2) | (refine xr_st (v := ?_) (h' := ?_) (by exact rfl) ?_ ?_; rotate_left 2) | (refine xr_g (b := ?_) (by exact rfl) ?_ ?_; rotate_left 1; (· simp only [ev, Zb, reduceIte, Nat.reduceEqDiff, Z8, Z5, *]; rfl)) | (with_reducible first | refine gw_tt ?_ | refine gw_ff ?_ | refine gw_tf ?_ | refine gw_ft ?_ | refine gw_un ?_) | refine gw_if (fun hb => ?_) (fun hb => ?_) | (refine aw_c (b := ?_) (by decide) ?_ ?_; rotate_left 1; (· simp only [ev, Zb, reduceIte, Nat.reduceEqDiff, *]; rfl)) | (with_reducible first | refine cw_t ?_ | refine cw_f ?_) | refine cw_if (fun hb => ?_) (fun hb => ?_) | (refine r_ret (vs := ?_) ?_ ?_; rotate_left 1; (· simp only [resV, ev, Zb, reduceIte, Nat.reduceEqDiff, Zj, *]; rfl)) | (with_reducible exact within_ok _ _ _ _) | ((with_reducible refine isTask_ok s _ _ I _ ?_ ?_ ?_ ?_ ?_); (· first | assumption | exact Sub.refl _ | exact Sub.app ‹_› _ | exact Sub.app (Sub.refl _) _); (· assumption); (· assumption); (· first | omega | (simp only [Z2]; omega)); (· first | omega | (simp only [Z2]; omega))) | ((with_reducible refine implGoodFlow_ok ⟨s.conds + s.tasks.length, trsM s⟩ _ _ _ ?_ _ ?_ ?_ ?_); rotate_left 1; (· exact Sub.refl _); (· assumption); (· assumption)) | ((with_reducible refine specFlow_ok s _ I _ ?_ ?_ ?_ ?_); (· first | assumption | exact Sub.refl _ | exact Sub.app ‹_› _ | exact Sub.app (Sub.refl _) _); (· assumption); (· assumption); (· assumption)) | ((with_reducible refine Z2w (n := 66) ?_); rintro _ _ ⟨tv, L, rfl, rfl, hrs⟩) | ((with_reducible refine Z2w ?_); rintro _ _ ⟨rfl, hh⟩; replace hh := hh.symm; subst hh))
      refine aw_for [1, 17] (fun k T h' => h' = h ++ [⟨2, 1, [.int .i64 s.conds, .slice b s.tasks.length c]⟩] ∧ T 18 = .int .i64 k ∧ tasksOk s k = true) s.tasks.length (k0 := 0) (Nat.zero_le _) ⟨rfl, rfl, rfl⟩ ?_
      rintro k T h' hk hR ⟨rfl, h18, hall⟩
      simp only [Z37, Z38, Z39, implies_true, and_true, stp, ev, ZB, reduceIte, Nat.reduceEqDiff, Z2x, Z13, Zy] at hR
      rcases Nat.lt_or_ge k s.tasks.length with hkn | hkn
      · have h3 : (k : Int) < s.tasks.length := by omega
        rcases Bool.eq_false_or_eq_true (taskOk s.conds s.tasks.length k (s.tasks.getD k TaskM.nil)) with ht | ht
        · have hgo := tasksOk_succ hall ht
          repeat' (first | ((with_reducible refine eq_go ?_); simp only [stp, ev, ZB, reduceIte, Nat.reduceEqDiff, Z2x, Z13, Zy, ldv, fldA, blt, lenV, Z10, ZH, Zg, Ze, Z14, Zw, Z33, Nat.reduceAdd, Nat.reduceMul, Nat.reduceLeDiff, splice, newB, vcs, Ty.t3, Ty.t30, Ty.t32, Ty.t68, Ty.t70, Ty.t72, Ty.t86, Ty.t89, Ty.t95, *]; rfl) | (with_reducible first | refine aw_then ?_ | refine aw_skip ?_ | refine aw_ret ?_ | refine aw_exit ?_ | refine aw_block ?_ | refine xr_reg (by decide +kernel) ?_ | refine xr_nil ?_ | refine k_norm ?_ | refine k_ret ?_ | refine k_exit ?_ | refine b_norm ?_ | refine b_ret ?_ | refine b_exit ?_ | refine b_past (by decide) ?_) | (refine Ty.c53 (args := ?_) (K := ?_) ?_ ?_ ?_; rotate_left 2) | (refine Ty.c64 (args := ?_) (K := ?_) ?_ ?_ ?_; rotate_left 2) | (refine Ty.c65 (args := ?_) (K := ?_) ?_ ?_ ?_; rotate_left 2) | (refine Ty.c66 (args := ?_) (K := ?_) ?_ ?_ ?_; rotate_left 2) | (refine xr_do (v := ?_) (h' := ?_) (by exact rfl) ?_ ?_; rotate_left 2) | (refine xr_st (v := ?_) (h' := ?_) (by exact rfl) ?_ ?_; rotate_left 2) | (refine xr_g (b := ?_) (by exact rfl) ?_ ?_; rotate_left 1; (· simp only [ev, Zb, reduceIte, Nat.reduceEqDiff, Z8, Z5, *]; rfl)) | (with_reducible first | refine gw_tt ?_ | refine gw_ff ?_ | refine gw_tf ?_ | refine gw_ft ?_ | refine gw_un ?_) | refine gw_if (fun hb => ?_) (fun hb => ?_) | (refine aw_c (b := ?_) (by decide) ?_ ?_; rotate_left 1; (· simp only [ev, Zb, reduceIte, Nat.reduceEqDiff, *]; rfl)) | (with_reducible first | refine cw_t ?_ | refine cw_f ?_) | refine cw_if (fun hb => ?_) (fun hb => ?_) | (refine r_ret (vs := ?_) ?_ ?_; rotate_left 1; (· simp only [resV, ev, Zb, reduceIte, Nat.reduceEqDiff, Zj, *]; rfl)) | (with_reducible exact within_ok _ _ _ _) | ((with_reducible refine isTask_ok s _ _ I _ ?_ ?_ ?_ ?_ ?_); (· first | assumption | exact Sub.refl _ | exact Sub.app ‹_› _ | exact Sub.app (Sub.refl _) _); (· assumption); (· assumption); (· first | omega | (simp only [Z2]; omega)); (· first | omega | (simp only [Z2]; omega))) | ((with_reducible refine implGoodFlow_ok ⟨s.conds + s.tasks.length, trsM s⟩ _ _ _ ?_ _ ?_ ?_ ?_); rotate_left 1; (· exact Sub.refl _); (· assumption); (· assumption)) | ((with_reducible refine specFlow_ok s _ I _ ?_ ?_ ?_ ?_); (· first | assumption | exact Sub.refl _ | exact Sub.app ‹_› _ | exact Sub.app (Sub.refl _) _); (· assumption); (· assumption); (· assumption)) | ((with_reducible refine Z2w (n := 66) ?_); rintro _ _ ⟨tv, L, rfl, rfl, hrs⟩) | ((with_reducible refine Z2w ?_); rintro _ _ ⟨rfl, hh⟩; replace hh := hh.symm; subst hh))
          refine ⟨by first | assumption | omega, ?_, ?_⟩
          · simp only [Z37, Z38, Z39, implies_true, and_true, ZB, stp, ev, reduceIte, Nat.reduceEqDiff, Z2x, Z13, Zy, *]
          refine ⟨rfl, ?_, hgo⟩
          simp only [Zb, reduceIte, Nat.reduceEqDiff]
          rw [wrap_id (by omega)]; rfl
        · have hbad := tasksOk_bad hkn ht
          repeat' (first | ((with_reducible refine eq_go ?_); simp only [stp, ev, ZB, reduceIte, Nat.reduceEqDiff, Z2x, Z13, Zy, ldv, fldA, blt, lenV, Z10, ZH, Zg, Ze, Z14, Zw, Z33, Nat.reduceAdd, Nat.reduceMul, Nat.reduceLeDiff, splice, newB, vcs, Ty.t3, Ty.t30, Ty.t32, Ty.t68, Ty.t70, Ty.t72, Ty.t86, Ty.t89, Ty.t95, *]; rfl) | (with_reducible first | refine aw_then ?_ | refine aw_skip ?_ | refine aw_ret ?_ | refine aw_exit ?_ | refine aw_block ?_ | refine xr_reg (by decide +kernel) ?_ | refine xr_nil ?_ | refine k_norm ?_ | refine k_ret ?_ | refine k_exit ?_ | refine b_norm ?_ | refine b_ret ?_ | refine b_exit ?_ | refine b_past (by decide) ?_) | (refine Ty.c53 (args := ?_) (K := ?_) ?_ ?_ ?_; rotate_left 2) | (refine Ty.c64 (args := ?_) (K := ?_) ?_ ?_ ?_; rotate_left 2) | (refine Ty.c65 (args := ?_) (K := ?_) ?_ ?_ ?_; rotate_left 2) | (refine Ty.c66 (args := ?_) (K := ?_) ?_ ?_ ?_; rotate_left 2) | (refine xr_do (v := ?_) (h' := ?_) (by exact rfl) ?_ ?_; rotate_left 2) | (refine xr_st (v := ?_) (h' := ?_) (by exact rfl) ?_ ?_; rotate_left 2) | (refine xr_g (b := ?_) (by exact rfl) ?_ ?_; rotate_left 1; (· simp only [ev, Zb, reduceIte, Nat.reduceEqDiff, Z8, Z5, *]; rfl)) | (with_reducible first | refine gw_tt ?_ | refine gw_ff ?_ | refine gw_tf ?_ | refine gw_ft ?_ | refine gw_un ?_) | refine gw_if (fun hb => ?_) (fun hb => ?_) | (refine aw_c (b := ?_) (by decide) ?_ ?_; rotate_left 1; (· simp only [ev, Zb, reduceIte, Nat.reduceEqDiff, *]; rfl)) | (with_reducible first | refine cw_t ?_ | refine cw_f ?_) | refine cw_if (fun hb => ?_) (fun hb => ?_) | (refine r_ret (vs := ?_) ?_ ?_; rotate_left 1; (· simp only [resV, ev, Zb, reduceIte, Nat.reduceEqDiff, Zj, *]; rfl)) | (with_reducible exact within_ok _ _ _ _) | ((with_reducible refine isTask_ok s _ _ I _ ?_ ?_ ?_ ?_ ?_); (· first | assumption | exact Sub.refl _ | exact Sub.app ‹_› _ | exact Sub.app (Sub.refl _) _); (· assumption); (· assumption); (· first | omega | (simp only [Z2]; omega)); (· first | omega | (simp only [Z2]; omega))) | ((with_reducible refine implGoodFlow_ok ⟨s.conds + s.tasks.length, trsM s⟩ _ _ _ ?_ _ ?_ ?_ ?_); rotate_left 1; (· exact Sub.refl _); (· assumption); (· assumption)) | ((with_reducible refine specFlow_ok s _ I _ ?_ ?_ ?_ ?_); (· first | assumption | exact Sub.refl _ | exact Sub.app ‹_› _ | exact Sub.app (Sub.refl _) _); (· assumption); (· assumption); (· assumption)) | ((with_reducible refine Z2w (n := 66) ?_); rintro _ _ ⟨tv, L, rfl, rfl, hrs⟩) | ((with_reducible refine Z2w ?_); rintro _ _ ⟨rfl, hh⟩; replace hh := hh.symm; subst hh))
          refine ⟨?_, _, rfl⟩
          simp only [oneOf, specOk, hbad, Bool.false_and, Bool.and_false]
      · have h3 : ¬ (k : Int) < s.tasks.length := by omega
        obtain rfl : k = s.tasks.length := by omega
        have hf := spec_fit h1' (by omega) hall
        have hns := trsM_small hf
        repeat' (first | ((with_reducible refine eq_go ?_); simp only [stp, ev, ZB, reduceIte, Nat.reduceEqDiff, Z2x, Z13, Zy, ldv, fldA, blt, lenV, Z10, ZH, Zg, Ze, Z14, Zw, Z33, Nat.reduceAdd, Nat.reduceMul, Nat.reduceLeDiff, splice, newB, vcs, Ty.t3, Ty.t30, Ty.t32, Ty.t68, Ty.t70, Ty.t72, Ty.t86, Ty.t89, Ty.t95, *]; rfl) | (with_reducible first | refine aw_then ?_ | refine aw_skip ?_ | refine aw_ret ?_ | refine aw_exit ?_ | refine aw_block ?_ | refine xr_reg (by decide +kernel) ?_ | refine xr_nil ?_ | refine k_norm ?_ | refine k_ret ?_ | refine k_exit ?_ | refine b_norm ?_ | refine b_ret ?_ | refine b_exit ?_ | refine b_past (by decide) ?_) | (refine Ty.c53 (args := ?_) (K := ?_) ?_ ?_ ?_; rotate_left 2) | (refine Ty.c64 (args := ?_) (K := ?_) ?_ ?_ ?_; rotate_left 2) | (refine Ty.c65 (args := ?_) (K := ?_) ?_ ?_ ?_; rotate_left 2) | (refine Ty.c66 (args := ?_) (K := ?_) ?_ ?_ ?_; rotate_left 2) | (refine xr_do (v := ?_) (h' := ?_) (by exact rfl) ?_ ?_; rotate_left 2) | (refine xr_st (v := ?_) (h' := ?_) (by exact rfl) ?_ ?_; rotate_left 2) | (refine xr_g (b := ?_) (by exact rfl) ?_ ?_; rotate_left 1; (· simp only [ev, Zb, reduceIte, Nat.reduceEqDiff, Z8, Z5, *]; rfl)) | (with_reducible first | refine gw_tt ?_ | refine gw_ff ?_ | refine gw_tf ?_ | refine gw_ft ?_ | refine gw_un ?_) | refine gw_if (fun hb => ?_) (fun hb => ?_) | (refine aw_c (b := ?_) (by decide) ?_ ?_; rotate_left 1; (· simp only [ev, Zb, reduceIte, Nat.reduceEqDiff, *]; rfl)) | (with_reducible first | refine cw_t ?_ | refine cw_f ?_) | refine cw_if (fun hb => ?_) (fun hb => ?_) | (refine r_ret (vs := ?_) ?_ ?_; rotate_left 1; (· simp only [resV, ev, Zb, reduceIte, Nat.reduceEqDiff, Zj, *]; rfl)) | (with_reducible exact within_ok _ _ _ _) | ((with_reducible refine isTask_ok s _ _ I _ ?_ ?_ ?_ ?_ ?_); (· first | assumption | exact Sub.refl _ | exact Sub.app ‹_› _ | exact Sub.app (Sub.refl _) _); (· assumption); (· assumption); (· first | omega | (simp only [Z2]; omega)); (· first | omega | (simp only [Z2]; omega))) | ((with_reducible refine implGoodFlow_ok ⟨s.conds + s.tasks.length, trsM s⟩ _ _ _ ?_ _ ?_ ?_ ?_); rotate_left 1; (· exact Sub.refl _); (· assumption); (· assumption)) | ((with_reducible refine specFlow_ok s _ I _ ?_ ?_ ?_ ?_); (· first | assumption | exact Sub.refl _ | exact Sub.app ‹_› _ | exact Sub.app (Sub.refl _) _); (· assumption); (· assumption); (· assumption)) | ((with_reducible refine Z2w (n := 66) ?_); rintro _ _ ⟨tv, L, rfl, rfl, hrs⟩) | ((with_reducible refine Z2w ?_); rintro _ _ ⟨rfl, hh⟩; replace hh := hh.symm; subst hh))
        refine ⟨?_, _, rfl⟩
        simp only [oneOf, specOk, h1, h2, hall, Bool.true_and]; rfl
    · refine Z36 Try.func46 rfl Try.ntmps46 (by simp) (by dsimp only [Try.f46]) ?_
      repeat' (first | ((with_reducible refine eq_go ?_); simp only [stp, ev, ZB, reduceIte, Nat.reduceEqDiff, Z2x, Z13, Zy, ldv, fldA, blt, lenV, Z10, ZH, Zg, Ze, Z14, Zw, Z33, Nat.reduceAdd, Nat.reduceMul, Nat.reduceLeDiff, splice, newB, vcs, Ty.t3, Ty.t30, Ty.t32, Ty.t68, Ty.t70, Ty.t72, Ty.t86, Ty.t89, Ty.t95, *]; rfl) | (with_reducible first | refine aw_then ?_ | refine aw_skip ?_ | refine aw_ret ?_ | refine aw_exit ?_ | refine aw_block ?_ | refine xr_reg (by decide +kernel) ?_ | refine xr_nil ?_ | refine k_norm ?_ | refine k_ret ?_ | refine k_exit ?_ | refine b_norm ?_ | refine b_ret ?_ | refine b_exit ?_ | refine b_past (by decide) ?_) | (refine Ty.c53 (args := ?_) (K := ?_) ?_ ?_ ?_; rotate_left 2) | (refine Ty.c64 (args := ?_) (K := ?_) ?_ ?_ ?_; rotate_left 2) | (refine Ty.c65 (args := ?_) (K := ?_) ?_ ?_ ?_; rotate_left 2) | (refine Ty.c66 (args := ?_) (K := ?_) ?_ ?_ ?_; rotate_left 2) | (refine xr_do (v := ?_) (h' := ?_) (by exact rfl) ?_ ?_; rotate_left 2) | (refine xr_st (v := ?_) (h' := ?_) (by exact rfl) ?_ ?_; rotate_left 2) | (refine xr_g (b := ?_) (by exact rfl) ?_ ?_; rotate_left 1; (· simp only [ev, Zb, reduceIte, Nat.reduceEqDiff, Z8, Z5, *]; rfl)) | (with_reducible first | refine gw_tt ?_ | refine gw_ff ?_ | refine gw_tf ?_ | refine gw_ft ?_ | refine gw_un ?_) | refine gw_if (fun hb => ?_) (fun hb => ?_) | (refine aw_c (b := ?_) (by decide) ?_ ?_; rotate_left 1; (· simp only [ev, Zb, reduceIte, Nat.reduceEqDiff, *]; rfl)) | (with_reducible first | refine cw_t ?_ | refine cw_f ?_) | refine cw_if (fun hb => ?_) (fun hb => ?_) | (refine r_ret (vs := ?_) ?_ ?_; rotate_left 1; (· simp only [resV, ev, Zb, reduceIte, Nat.reduceEqDiff, Zj, *]; rfl)) | (with_reducible exact within_ok _ _ _ _) | ((with_reducible refine isTask_ok s _ _ I _ ?_ ?_ ?_ ?_ ?_); (· first | assumption | exact Sub.refl _ | exact Sub.app ‹_› _ | exact Sub.app (Sub.refl _) _); (· assumption); (· assumption); (· first | omega | (simp only [Z2]; omega)); (· first | omega | (simp only [Z2]; omega))) | ((with_reducible refine implGoodFlow_ok ⟨s.conds + s.tasks.length, trsM s⟩ _ _ _ ?_ _ ?_ ?_ ?_); rotate_left 1; (· exact Sub.refl _); (· assumption); (· assumption)) | ((with_reducible refine specFlow_ok s _ I _ ?_ ?_ ?_ ?_); (· first | assumption | exact Sub.refl _ | exact Sub.app ‹_› _ | exact Sub.app (Sub.refl _) _); (· assumption); (· assumption); (· assumption)) | ((with_reducible refine Z2w (n := 66) ?_); rintro _ _ ⟨tv, L, rfl, rfl, hrs⟩) | ((with_reducible refine Z2w ?_); rintro _ _ ⟨rfl, hh⟩; replace hh := hh.symm; subst hh))
      refine ⟨?_, _, rfl⟩
      simp only [oneOf, specOk, h2, Bool.false_and, Bool.and_false]
  · refine Z36 Try.func46 rfl Try.ntmps46 (by simp) (by dsimp only [Try.f46]) ?_
    repeat' (first | ((with_reducible refine eq_go ?_); simp only [stp, ev, ZB, reduceIte, Nat.reduceEqDiff, Z2x, Z13, Zy, ldv, fldA, blt, lenV, Z10, ZH, Zg, Ze, Z14, Zw, Z33, Nat.reduceAdd, Nat.reduceMul, Nat.reduceLeDiff, splice, newB, vcs, Ty.t3, Ty.t30, Ty.t32, Ty.t68, Ty.t70, Ty.t72, Ty.t86, Ty.t89, Ty.t95, *]; rfl) | (with_reducible first | refine aw_then ?_ | refine aw_skip ?_ | refine aw_ret ?_ | refine aw_exit ?_ | refine aw_block ?_ | refine xr_reg (by decide +kernel) ?_ | refine xr_nil ?_ | refine k_norm ?_ | refine k_ret ?_ | refine k_exit ?_ | refine b_norm ?_ | refine b_ret ?_ | refine b_exit ?_ | refine b_past (by decide) ?_) | (refine Ty.c53 (args := ?_) (K := ?_) ?_ ?_ ?_; rotate_left 2) | (refine Ty.c64 (args := ?_) (K := ?_) ?_ ?_ ?_; rotate_left 2) | (refine Ty.c65 (args := ?_) (K := ?_) ?_ ?_ ?_; rotate_left 2) | (refine Ty.c66 (args := ?_) (K := ?_) ?_ ?_ ?_; rotate_left 2) | (refine xr_do (v := ?_) (h' := ?_) (by exact rfl) ?_ ?_; rotate_left 2) | (refine xr_st (v := ?_) (h' := ?_) (by exact rfl) ?_ ?_; rotate_left 2) | (refine xr_g (b := ?_) (by exact rfl) ?_ ?_; rotate_left 1; (· simp only [ev, Zb, reduceIte, Nat.reduceEqDiff, Z8, Z5, *]; rfl)) | (with_reducible first | refine gw_tt ?_ | refine gw_ff ?_ | refine gw_tf ?_ | refine gw_ft ?_ | refine gw_un ?_) | refine gw_if (fun hb => ?_) (fun hb => ?_) | (refine aw_c (b := ?_) (by decide) ?_ ?_; rotate_left 1; (· simp only [ev, Zb, reduceIte, Nat.reduceEqDiff, *]; rfl)) | (with_reducible first | refine cw_t ?_ | refine cw_f ?_) | refine cw_if (fun hb => ?_) (fun hb => ?_) | (refine r_ret (vs := ?_) ?_ ?_; rotate_left 1; (· simp only [resV, ev, Zb, reduceIte, Nat.reduceEqDiff, Zj, *]; rfl)) | (with_reducible exact within_ok _ _ _ _) | ((with_reducible refine isTask_ok s _ _ I _ ?_ ?_ ?_ ?_ ?_); (· first | assumption | exact Sub.refl _ | exact Sub.app ‹_› _ | exact Sub.app (Sub.refl _) _); (· assumption); (· assumption); (· first | omega | (simp only [Z2]; omega)); (· first | omega | (simp only [Z2]; omega))) | ((with_reducible refine implGoodFlow_ok ⟨s.conds + s.tasks.length, trsM s⟩ _ _ _ ?_ _ ?_ ?_ ?_); rotate_left 1; (· exact Sub.refl _); (· assumption); (· assumption)) | ((with_reducible refine specFlow_ok s _ I _ ?_ ?_ ?_ ?_); (· first | assumption | exact Sub.refl _ | exact Sub.app ‹_› _ | exact Sub.app (Sub.refl _) _); (· assumption); (· assumption); (· assumption)) | ((with_reducible refine Z2w (n := 66) ?_); rintro _ _ ⟨tv, L, rfl, rfl, hrs⟩) | ((with_reducible refine Z2w ?_); rintro _ _ ⟨rfl, hh⟩; replace hh := hh.symm; subst hh))
    refine ⟨?_, _, rfl⟩
    simp only [oneOf, specOk, h1, Bool.false_and]
end Go.Proofs.Ytmjhfklmlcnofaa.Am
namespace Go.Proofs.Ytmjhfklmlcnofaa.Am
open Go Go.Proofs
set_option linter.unusedVariables false
set_option linter.unusedSimpArgs false
set_option maxRecDepth 100000
set_option maxHeartbeats 8000000
/-- What is changed lies in E. -/
def Kp (E : List Nat) (M M' : Heap) : Prop := M.length ≤ M'.length ∧ ∀ id, id < M.length → id ∉ E → M'[id]? = M[id]?
theorem Sub.keep {J M M' : Heap} {E : List Nat} (s : Sub J M) (o : ∀ id ∈ E, Off J id) (k : Kp E M M') : Sub J M' :=
  ⟨Nat.le_trans s.1 k.1, fun id b hb hk => by
    have := s.2 id b hb hk
    rw [k.2 id (lt_of_get this) (fun q => hk (o id q b hb))]; exact this⟩
theorem NS.keep {α : Type} {R : Heap → List Value → α → Prop} {e : Nat} {h2 L L' : Heap} {off : List Nat} {v mv mv' : Value} {l : List α} (h : NS R e h2 L (off ++ bidL mv) v l) (k : Kp (bidL mv) (h2 ++ L) (h2 ++ L')) (hne : ∀ id, bid v = some id → bid mv ≠ some id)
    (hnew : ∀ id, bid mv' = some id → (h2 ++ L).length ≤ id ∨ id ∈ bidL mv) : NS R e h2 L' (off ++ bidL mv') v l := by
  obtain ⟨rows, J, q1, q2, q3, q4, q5⟩ := h
  refine ⟨rows, J, q1, ?_, q3.keep (fun id hid => q4 id (by simp [hid])) k, fun id hid => ?_, q5⟩
  · rcases q2 with q | ⟨g1, g2, j, rfl, hk⟩
    · exact .inl q
    · refine .inr ⟨g1, g2, j, rfl, ?_⟩
      have hlt := lt_of_get hk
      have := k.2 (h2.length + j) (by rw [Z6]; omega) (fun q => hne _ rfl (mem_bidL.1 q))
      rw [get_at, get_at, hk] at this
      exact this
  · simp only [List.mem_append] at hid
    rcases hid with (q | q) | q
    · exact q4 id (by simp [q])
    · rcases hnew id (mem_bidL.1 q) with w | w
      · exact Off.ge (Nat.le_trans q3.1 w)
      · exact q4 id (by simp [w])
    · exact q4 id (by simp [q])
structure LaySt (h : Heap) (A R : Blk) (pl : Int) (L : Heap) (tv mv : Value) (ts : List Tr) (l : List MoveM) (J : Heap) : Prop where
  ns : NS RTr 3 (h ++ [A, R, ⟨2, 1, [.int .i64 pl, tv, .int .i64 0, .int .i64 1]⟩]) L ([h.length + 1, h.length + 2] ++ bidL mv) tv ts
  ap : App (h.length + 3) L mv 3 (mvC l) l.length
  ne : ∀ id, bid tv = some id → bid mv ≠ some id
  sub : Sub J (h ++ A :: R :: ⟨2, 1, [.int .i64 pl, tv, .int .i64 0, .int .i64 1]⟩ :: L)
  off : ∀ id ∈ [h.length + 1, h.length + 2] ++ bidL mv ++ bidL tv, Off J id
section
variable {h : Heap} {A R : Blk} {pl : Int} {L : Heap} {tv mv : Value} {ts : List Tr} {l : List MoveM} {J : Heap}
theorem LaySt.mvb (st : LaySt h A R pl L tv mv ts l J) {id : Nat} (hb : bid mv = some id) : h.length + 3 ≤ id ∧ id < h.length + 3 + L.length := by
  rcases st.ap with ⟨rfl, _⟩ | ⟨_, _, k, rfl, hk⟩
  · simp [bid] at hb
  · simp only [bid, Option.some.injEq] at hb
    have := lt_of_get hk; omega
theorem LaySt.tvb (st : LaySt h A R pl L tv mv ts l J) {id : Nat} (hb : bid tv = some id) : h.length + 3 ≤ id ∧ id < h.length + 3 + L.length := by
  have := st.ns.bid_lt hb
  simpa using this
theorem LaySt.more (st : LaySt h A R pl L tv mv ts l J) (X : Heap) : LaySt h A R pl (L ++ X) tv mv ts l J :=
  ⟨st.ns.more X, st.ap.more X, st.ne, by have := st.sub.app X; simpa using this, st.off⟩
theorem LaySt.zero (h : Heap) (A R : Blk) (pl : Int) : LaySt h A R pl [] (.slice none 0 0) (.slice none 0 0) [] [] h :=
  ⟨NS.nil _ _ _ _ _, App.nil _ _ _, fun id q => by simp [bid] at q, (Sub.refl h).app _, fun id hid => Off.ge (by simp [bidL, bid] at hid; omega)⟩
/-- The memory in which nothing more is written. -/
def layJ (h : Heap) (A R : Blk) (pl : Int) (L : Heap) (tv mv : Value) : Heap := killL (h ++ A :: R :: ⟨2, 1, [.int .i64 pl, tv, .int .i64 0, .int .i64 1]⟩ :: L) ([h.length + 1, h.length + 2] ++ bidL mv ++ bidL tv)
theorem LaySt.reJ (st : LaySt h A R pl L tv mv ts l J) : LaySt h A R pl L tv mv ts l (layJ h A R pl L tv mv) :=
  ⟨st.ns, st.ap, st.ne, Sub.ofKill _ _, fun id hid => Off.killL hid⟩
theorem LaySt.subJ (st : LaySt h A R pl L tv mv ts l J) : Sub J (layJ h A R pl L tv mv) := Sub.kill st.sub st.off
/-- One transition more. -/
theorem lay_tr (st : LaySt h A R pl L tv mv ts l J) (t : Tr) (cn : Bool) (hl : ts.length ≤ 1000) :
    ∃ tv' L', apS Try.prog (h ++ A :: R :: ⟨2, 1, [.int .i64 pl, tv, .int .i64 0, .int .i64 1]⟩ :: (L ++ (trL t cn ++ [⟨2, 3, trRow (h.length + (L.length + 3)) t cn⟩]))) 68 68 tv (.slice (some ⟨h.length + (L.length + ((trL t cn).length + 3)), 0, none⟩) 1 1) =
        some (tv', h ++ A :: R :: ⟨2, 1, [.int .i64 pl, tv, .int .i64 0, .int .i64 1]⟩ :: L') ∧
      (h ++ A :: R :: ⟨2, 1, [.int .i64 pl, tv, .int .i64 0, .int .i64 1]⟩ :: (L ++ (trL t cn ++ [⟨2, 3, trRow (h.length + (L.length + 3)) t cn⟩]))).length ≤ (h ++ A :: R :: ⟨2, 1, [.int .i64 pl, tv, .int .i64 0, .int .i64 1]⟩ :: L').length ∧
      (∀ id, id < (h ++ A :: R :: ⟨2, 1, [.int .i64 pl, tv, .int .i64 0, .int .i64 1]⟩ :: (L ++ (trL t cn ++ [⟨2, 3, trRow (h.length + (L.length + 3)) t cn⟩]))).length → id ∉ bidL tv →
        (h ++ A :: R :: ⟨2, 1, [.int .i64 pl, tv, .int .i64 0, .int .i64 1]⟩ :: L')[id]? = (h ++ A :: R :: ⟨2, 1, [.int .i64 pl, tv, .int .i64 0, .int .i64 1]⟩ :: (L ++ (trL t cn ++ [⟨2, 3, trRow (h.length + (L.length + 3)) t cn⟩])))[id]?) ∧
      (∀ id, id ∈ bidL tv → ∃ b : Blk, (h ++ A :: R :: ⟨2, 1, [.int .i64 pl, tv, .int .i64 0, .int .i64 1]⟩ :: (L ++ (trL t cn ++ [⟨2, 3, trRow (h.length + (L.length + 3)) t cn⟩])))[id]? = some b ∧ b.k ≠ 0) ∧
      (∃ bb, tv' = .slice bb (ts.length + 1) (ts.length + 1)) ∧ LaySt h A R pl L' tv' mv (ts ++ [t]) l J := by
  have hx := tr_new (h ++ A :: R :: ⟨2, 1, [.int .i64 pl, tv, .int .i64 0, .int .i64 1]⟩ :: L) t cn (ids := ([h.length + 1, h.length + 2] ++ bidL mv) ++ bidL tv) (fun id hid => by
    simp only [List.mem_append] at hid
    rcases hid with (q | q) | q
    · simp at q; simp; omega
    · have := st.mvb (mem_bidL.1 q); simp; omega
    · have := st.tvb (mem_bidL.1 q); simp; omega)
  obtain ⟨tv', L', p1, p2, p3, p4, p5, p6⟩ := ns_step (P := Try.prog) (X := trL t cn) (r := trRow (h.length + (L.length + 3)) t cn) (x := t) (ix := h.length + (L.length + ((trL t cn).length + 3))) (fun I h r x q s => q.sub s)
    Ty.sl68 Ty.zc95 Ty.by95 st.ns rfl
    (by
      rw [show (h ++ A :: R :: ⟨2, 1, [.int .i64 pl, tv, .int .i64 0, .int .i64 1]⟩ :: L : Heap).length = h.length + (L.length + 3) by simp] at hx
      simp only [Z7, Zc, Zd] at hx ⊢
      exact hx) (by simp; omega) (by omega) (by omega)
  simp only [Z7, Zc, Zd] at p1 p3 p4 p5 p6
  refine ⟨tv', L', p1, p3, p4, p5, ?_, ?_⟩
  · obtain ⟨bb, hb⟩ := p2.len
    exact ⟨bb, by rw [hb]; simp⟩
  have hlt : (h ++ A :: R :: ⟨2, 1, [.int .i64 pl, tv, .int .i64 0, .int .i64 1]⟩ :: L : Heap).length ≤ (h ++ A :: R :: ⟨2, 1, [.int .i64 pl, tv, .int .i64 0, .int .i64 1]⟩ :: (L ++ (trL t cn ++ [⟨2, 3, trRow (h.length + (L.length + 3)) t cn⟩])) : Heap).length := by simp
  have hkp : ∀ id, id < (h ++ A :: R :: ⟨2, 1, [.int .i64 pl, tv, .int .i64 0, .int .i64 1]⟩ :: L : Heap).length → id ∉ bidL tv → (h ++ A :: R :: ⟨2, 1, [.int .i64 pl, tv, .int .i64 0, .int .i64 1]⟩ :: L')[id]? = (h ++ A :: R :: ⟨2, 1, [.int .i64 pl, tv, .int .i64 0, .int .i64 1]⟩ :: L)[id]? := fun id hid hn => by
    have e : (h ++ A :: R :: ⟨2, 1, [.int .i64 pl, tv, .int .i64 0, .int .i64 1]⟩ :: (L ++ (trL t cn ++ [⟨2, 3, trRow (h.length + (L.length + 3)) t cn⟩])) : Heap) = (h ++ A :: R :: ⟨2, 1, [.int .i64 pl, tv, .int .i64 0, .int .i64 1]⟩ :: L) ++ (trL t cn ++ [⟨2, 3, trRow (h.length + (L.length + 3)) t cn⟩]) := by simp
    exact (p4 id (Nat.lt_of_lt_of_le hid hlt) hn).trans ((congrArg (fun M : Heap => M[id]?) e).trans (List.getElem?_append_left hid))
  have hlen : (h ++ A :: R :: ⟨2, 1, [.int .i64 pl, tv, .int .i64 0, .int .i64 1]⟩ :: L : Heap).length ≤ (h ++ A :: R :: ⟨2, 1, [.int .i64 pl, tv, .int .i64 0, .int .i64 1]⟩ :: L').length := Nat.le_trans (by simp) p3
  have hfr : ∀ id, id < (h ++ A :: R :: ⟨2, 1, [.int .i64 pl, tv, .int .i64 0, .int .i64 1]⟩ :: L : Heap).length → id ∉ bidL tv → bid tv' ≠ some id := fun id hid hn => p6 id (Nat.lt_of_lt_of_le hid hlt) hn
  have hML : (h ++ A :: R :: ⟨2, 1, [.int .i64 pl, tv, .int .i64 0, .int .i64 1]⟩ :: L : Heap).length = h.length + 3 + L.length := by simp; omega
  have hsub : Sub J (h ++ A :: R :: ⟨2, 1, [.int .i64 pl, tv, .int .i64 0, .int .i64 1]⟩ :: L') := st.sub.keep (E := bidL tv) (fun id hid => st.off id (by simp [hid])) ⟨hlen, hkp⟩
  refine ⟨p2.ahead (by simp) (fun id hid hn => ?_), ?_, fun id hb => ?_, ⟨by have := hsub.1; simpa using this, fun id b hb hk => ?_⟩, fun id hid => ?_⟩
  · simp only [Z6, Z3, Z2] at hid
    rcases Nat.lt_or_ge id h.length with q | q
    · rw [List.getElem?_append_left q, List.getElem?_append_left q]
    · obtain ⟨j, rfl⟩ : ∃ j, id = h.length + j := ⟨id - h.length, by omega⟩
      rw [get_at, get_at]
      simp only [List.mem_append, List.mem_cons, Z38, or_false, not_or] at hn
      obtain rfl : j = 0 := by omega
      rfl
  · rcases st.ap with q | ⟨g1, g2, k, hv, hk⟩
    · exact .inl q
    · refine .inr ⟨g1, g2, k, hv, ?_⟩
      have hkl := lt_of_get hk
      have := hkp (h.length + (3 + k)) (by rw [hML]; omega) (fun q => st.ne _ (mem_bidL.1 q) (by rw [hv]; simp only [bid]; congr 1; omega))
      rw [get_at, get_at] at this
      simpa [Nat.add_comm 3 k] using this.trans (by simpa [Nat.add_comm 3 k] using hk)
  · by_cases hm : ∃ i, bid mv = some i
    · obtain ⟨i, hm⟩ := hm
      intro hq
      rw [hm] at hq; cases hq
      exact hfr id (by have := st.mvb hm; rw [hML]; omega) (fun q => st.ne _ (mem_bidL.1 q) hm) hb
    · exact fun hq => hm ⟨_, hq⟩
  · have hno : id ≠ h.length + 2 := fun q => hk (st.off id (by simp [q]) b hb)
    have := hsub.2 id b hb hk
    rcases Nat.lt_or_ge id h.length with q | q
    · rw [List.getElem?_append_left q] at this ⊢; exact this
    · obtain ⟨j, rfl⟩ : ∃ j, id = h.length + j := ⟨id - h.length, by omega⟩
      rw [get_at] at this ⊢
      match j, hno with
      | 0, _ => exact this
      | 1, _ => exact this
      | 2, q => exact absurd rfl q
      | j + 3, _ => exact this
  · simp only [List.mem_append] at hid
    rcases hid with q | q
    · exact st.off id (by simp only [List.mem_append]; exact .inl q)
    · have hb := mem_bidL.1 q
      by_cases hl2 : id < (h ++ A :: R :: ⟨2, 1, [.int .i64 pl, tv, .int .i64 0, .int .i64 1]⟩ :: L : Heap).length
      · by_cases hn : id ∈ bidL tv
        · exact st.off id (by simp [hn])
        · exact absurd hb (hfr id hl2 hn)
      · exact Off.ge (Nat.le_trans st.sub.1 (by omega))
/-- One move more. -/
theorem lay_mv (st : LaySt h A R pl L tv mv ts l J) (m : MoveM) (hl : l.length ≤ 900) :
    ∃ mv' L', apS Try.prog (h ++ A :: R :: ⟨2, 1, [.int .i64 pl, tv, .int .i64 0, .int .i64 1]⟩ :: (L ++ [⟨2, 3, m.cells⟩])) 73 73 mv (.slice (some ⟨h.length + (L.length + 3), 0, none⟩) 1 1) =
        some (mv', h ++ A :: R :: ⟨2, 1, [.int .i64 pl, tv, .int .i64 0, .int .i64 1]⟩ :: L') ∧
      (∃ bb, mv' = .slice bb (l.length + 1) (l.length + 1)) ∧ LaySt h A R pl L' tv mv' ts (l ++ [m]) J := by
  have hl3 : (h ++ [A, R, ⟨2, 1, [.int .i64 pl, tv, .int .i64 0, .int .i64 1]⟩] : Heap).length = h.length + 3 := by simp
  obtain ⟨mv', L', q1, q2, q3⟩ := mv_step (h := h ++ [A, R, ⟨2, 1, [.int .i64 pl, tv, .int .i64 0, .int .i64 1]⟩]) (L := L) m (st.ap.cast hl3 rfl rfl rfl rfl) [] (by omega)
  have ha : h.length + (L.length + 3) = (h ++ [A, R, ⟨2, 1, [.int .i64 pl, tv, .int .i64 0, .int .i64 1]⟩] : Heap).length + (L.length + ([] : Heap).length) := by simp; omega
  rw [← ha] at q1
  simp only [Z7, Zc, Zd] at q1
  rw [hl3] at q2 q3
  have hML : (h ++ A :: R :: ⟨2, 1, [.int .i64 pl, tv, .int .i64 0, .int .i64 1]⟩ :: L : Heap).length = h.length + 3 + L.length := by simp; omega
  have hkb : ∀ j, j < L.length → h.length + 3 + j ∉ bidL mv → L'[j]? = L[j]? ∧ bid mv' ≠ some (h.length + 3 + j) := fun j hj hn => by
    have := q3 j _ (by rw [List.getElem?_append_left hj, List.getElem?_eq_getElem hj]) (fun q => hn (mem_bidL.2 q))
    rw [List.getElem?_eq_getElem hj]
    exact ⟨this.1, this.2⟩
  have hlen : L.length ≤ L'.length := by
    have := q3 L.length ⟨2, 3, m.cells⟩ (by simp) (fun q => by have := st.mvb q; omega)
    exact Nat.le_of_lt (lt_of_get this.1)
  have hkp : Kp (bidL mv) (h ++ A :: R :: ⟨2, 1, [.int .i64 pl, tv, .int .i64 0, .int .i64 1]⟩ :: L) (h ++ A :: R :: ⟨2, 1, [.int .i64 pl, tv, .int .i64 0, .int .i64 1]⟩ :: L') := by
    refine ⟨by simp; omega, fun id hid hn => ?_⟩
    rcases Nat.lt_or_ge id h.length with q | q
    · rw [List.getElem?_append_left q, List.getElem?_append_left q]
    · obtain ⟨j, rfl⟩ : ∃ j, id = h.length + j := ⟨id - h.length, by omega⟩
      rw [get_at, get_at]
      match j with
      | 0 => rfl
      | 1 => rfl
      | 2 => rfl
      | j + 3 =>
        have := (hkb j (by rw [hML] at hid; omega) (by rw [show h.length + 3 + j = h.length + (j + 3) by omega]; exact hn)).1
        exact this
  have hnew : ∀ id, bid mv' = some id → h.length + 3 + L.length ≤ id ∨ id ∈ bidL mv := fun id hb => by
    by_cases hn : id ∈ bidL mv
    · exact .inr hn
    · left
      rcases q2 with ⟨rfl, _⟩ | ⟨_, _, k, rfl, _⟩
      · simp [bid] at hb
      · simp only [bid, Option.some.injEq] at hb
        subst hb
        rcases Nat.lt_or_ge k L.length with q | q
        · exact absurd rfl (hkb k q hn).2
        · omega
  have hMe : (h ++ [A, R, ⟨2, 1, [.int .i64 pl, tv, .int .i64 0, .int .i64 1]⟩] ++ L : Heap) = h ++ A :: R :: ⟨2, 1, [.int .i64 pl, tv, .int .i64 0, .int .i64 1]⟩ :: L := by simp
  have hMe' : (h ++ [A, R, ⟨2, 1, [.int .i64 pl, tv, .int .i64 0, .int .i64 1]⟩] ++ L' : Heap) = h ++ A :: R :: ⟨2, 1, [.int .i64 pl, tv, .int .i64 0, .int .i64 1]⟩ :: L' := by simp
  refine ⟨mv', L', q1, ?_, st.ns.keep (by rw [hMe, hMe']; exact hkp) st.ne (fun id hb => by rw [hMe, hML]; exact hnew id hb), q2, fun id hb hm => ?_, st.sub.keep (fun id hid => st.off id (by simp [hid])) hkp, fun id hid => ?_⟩
  · rcases q2 with ⟨rfl, h0, _⟩ | ⟨_, _, k, rfl, _⟩
    · simp at h0
    · exact ⟨some ⟨h.length + 3 + k, 0, some 0⟩, by simp⟩
  · rcases hnew id hm with w | w
    · have := st.tvb hb; omega
    · exact st.ne id hb (mem_bidL.1 w)
  · simp only [List.mem_append] at hid
    rcases hid with (q | q) | q
    · exact st.off id (by simp only [List.mem_append]; exact .inl (.inl q))
    · rcases hnew id (mem_bidL.1 q) with w | w
      · exact Off.ge (Nat.le_trans st.sub.1 (by rw [hML]; exact w))
      · exact st.off id (by simp [w])
    · exact st.off id (by simp [q])
end
end Go.Proofs.Ytmjhfklmlcnofaa.Am
