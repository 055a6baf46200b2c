/- Walks of the laws' copies of whole numbers and items. Conditions: none. -/
import Derived.Test.YtiddnhhjlipebaaK3
import Derived.Test.YtiddnhhjlipebaaV1
namespace Go.Proofs.Ytiddnhhjlipebaa.Am
open Go Go.Proofs
set_option linter.unusedVariables false
set_option linter.unusedSimpArgs false
set_option maxRecDepth 100000
set_option maxHeartbeats 8000000

theorem ints_len (l : List Int) : ∀ r ∈ ints l, r.length = 1 := by
  intro r hr; obtain ⟨n, _, rfl⟩ := List.mem_map.1 hr; rfl

theorem sl_ints {h : Heap} {k c : Nat} {sp : Option Nat} {l : List Int} {L : Heap} (hc : l.length ≤ c) (hb : L[k]? = some ⟨2, 1, (ints l).flatten⟩) : Sl (h ++ L) (.slice (some ⟨h.length + k, 0, sp⟩) l.length c) 1 (l.map fun n => [.int .i64 n]) :=
  sl_at hb (ints_len l) (Zv _).symm hc
theorem sl_ints0 {h : Heap} {c : Nat} {sp : Option Nat} {l : List Int} {L : Heap} (hc : l.length ≤ c) (hb : L[0]? = some ⟨2, 1, (ints l).flatten⟩) : Sl (h ++ L) (.slice (some ⟨h.length, 0, sp⟩) l.length c) 1 (l.map fun n => [.int .i64 n]) := sl_ints (k := 0) hc hb
theorem sl_nilints {h : Heap} : Sl h (.slice none 0 0) 1 (([] : List Int).map fun n => [.int .i64 n]) := Sl.nil h 1
theorem items_len (l : List Item) : ∀ r ∈ l.map Item.cells, r.length = 6 := by
  intro r hr; obtain ⟨n, _, rfl⟩ := List.mem_map.1 hr; rfl
theorem sl_items {h : Heap} {k c : Nat} {sp : Option Nat} {l : List Item} {L : Heap} (hc : l.length ≤ c) (hb : L[k]? = some ⟨2, 6, (l.map Item.cells).flatten⟩) : Sl (h ++ L) (.slice (some ⟨h.length + k, 0, sp⟩) l.length c) 6 (l.map Item.cells) :=
  sl_at hb (items_len l) (Zv _).symm hc
theorem sl_items0 {h : Heap} {c : Nat} {sp : Option Nat} {l : List Item} {L : Heap} (hc : l.length ≤ c) (hb : L[0]? = some ⟨2, 6, (l.map Item.cells).flatten⟩) : Sl (h ++ L) (.slice (some ⟨h.length, 0, sp⟩) l.length c) 6 (l.map Item.cells) := sl_items (k := 0) hc hb
theorem sl_nilitems {h : Heap} : Sl h (.slice none 0 0) 6 (([] : List Item).map Item.cells) := Sl.nil h 6
theorem ints_flen (l : List Int) : (ints l).flatten.length = l.length * 1 := by rw [length_flatten_rows _ (ints_len l), List.length_map]
theorem items_flen (l : List Item) : (l.map Item.cells).flatten.length = l.length * 6 := by rw [length_flatten_rows _ (items_len l), List.length_map]

theorem toIntS_ok (l : List Int) (v : Value) (h : Heap) (hs : Sl h v 1 (ints l)) (hl : l.length ≤ 1048576) :
    ACalls Try.prog 0 17 #[v] h fun v h' => v = .slice (some ⟨h.length, 0, none⟩) l.length l.length ∧ h' = h ++ [⟨2, 1, (ints l).flatten⟩] := by
  obtain ⟨b, c, rfl, hc, hrow⟩ := hs
  simp only [Zv] at hc ⊢
  have hmk : mkS Try.prog 24 h (.int .i64 l.length) (.int .i64 l.length) = _ := mkS_eq Ty.sl24 Ty.zc3 Ty.by3 (n := l.length) (by omega) (by omega)
  refine Z36 Try.func17 rfl Try.ntmps17 (by simp) (by dsimp only [Try.f17]) ?_
  repeat' (first
    | ((with_reducible refine eq_go ?_); simp only [stp, ev, Zb, Z2e, Z1z, Zk, Zl, reduceIte, Nat.reduceEqDiff, Zj, Zz, Zu, Z16, Z1a, Zm, Zp, Zo, Zd, Zx, Z2b, Z2x, Z1g, Z17, Zq, Zn, Zv, Z2p, Z2f, Z2o, Z2d, Z2g, Z1c, Z1b, Z2i, Z2n, Z2h, Z2j, Z2k, Z2l, Z2m, Z31, Z8, Z5, Z13, Zy, ldv, stv, vcs, idxA, blt, lenV, Z10, Z3, Z2, Zf, Zg, Ze, Z1, Z0, Z14, Zw, Zh, Zr, Z33, Z15, Z7, Zc, Z6, Z3, Z2, Zf, Zi, Nat.reduceAdd, Nat.reduceMul, Nat.reduceLeDiff, Z11, Z12, Z1y, Z1h, Z2c, Z23, Z28, Z27, Z26, Z25, Z24, Z1m, Z1l, Z1k, Z1j, Z1i, Z1w, Z1v, Z1u, Z1t, Z1s, Z32, Z2y, Z2q, Z2r, Z2s, Z20, Z1q, Z1r, Z2z, Z2t, Z21, Z22, splice, Za, Z9, Z1, Z0, Z19, Zt, Zs, Z18, newB, vcs, Z30, Z2v, Z1x, Z29, Z1n, Z2u, Z1o, Z1f, Z1p, Z1d, Z1e, Ty.ld3, Ty.sz3, Ty.zc3, Ty.by3, Ty.ld24, Ty.sz24, Ty.sl24, Ty.zc24, Ty.by24, *]; rfl)
    | (with_reducible refine aw_then ?_) | (with_reducible refine aw_skip ?_) | (with_reducible refine aw_ret ?_) | (with_reducible refine aw_exit ?_) | (with_reducible refine aw_block ?_) | (with_reducible refine xr_reg (by decide +kernel) ?_)
    | (with_reducible refine xr_nil ?_) | (with_reducible refine k_norm ?_) | (with_reducible refine k_ret ?_) | (with_reducible refine k_exit ?_) | (with_reducible refine b_norm ?_) | (with_reducible refine b_ret ?_) | (with_reducible refine b_exit ?_) | (with_reducible refine b_past (by decide) ?_)
    | (refine xr_do (v := ?_) (h' := ?_) (by exact rfl) ?_ ?_; rotate_left 2)
    | (refine xr_st (v := ?_) (h' := ?_) (by exact rfl) ?_ ?_; rotate_left 2)
    | (refine aw_ift (by decide) ?_ ?_
       · simp only [ev, Zb, reduceIte, Nat.reduceEqDiff, *])
    | (refine aw_iff (by decide) ?_ ?_
       · simp only [ev, Zb, reduceIte, Nat.reduceEqDiff, *])
    | (refine aw_if (b := ?_) (by decide) ?_ (fun hb => ?_) (fun hb => ?_)
       rotate_left 1
       · simp only [ev, Zb, reduceIte, Nat.reduceEqDiff, *]; rfl)
    | (refine r_ret (vs := ?_) ?_ ?_
       rotate_left 1
       · simp only [resV, ev, Zb, reduceIte, Nat.reduceEqDiff, Zj, *]; rfl)
    )
  refine aw_for [0, 3] (fun k T h' => h' = h ++ [⟨2, 1, fill [.int .i64 0] (ints l) k⟩] ∧ T 4 = .int .i64 k) l.length (k0 := 0) (Nat.zero_le _) ⟨?_, rfl⟩ ?_
  · rw [fill_zero, Zv]; try rfl
  rintro k T h' hk hR ⟨rfl, h11⟩
  simp only [Z37, Z38, Z39, implies_true, and_true, stp, ev, Zb, Z2e, Z1z, Zk, Zl, reduceIte, Nat.reduceEqDiff, Zj, Zz, Zu, Z16, Z1a, Zm, Zp, Zo, Zd, Zx, Z2b, Z2x, Z1g, Z17, Zq, Zn, Zv, Z2p, Z2f, Z2o, Z2d, Z2g, Z1c, Z1b, Z2i, Z2n, Z2h, Z2j, Z2k, Z2l, Z2m, Z31, Z8, Z5, Z13, Zy] at hR
  rcases Nat.lt_or_ge k l.length with hkn | hkn
  · have h1 : (k : Int) < l.length := by omega
    obtain ⟨a, rfl, hld0⟩ := Sl.row hrow (k := k) (by simpa using hkn)
    have hset := fill_set (z := [.int .i64 0]) (h := []) (ints_len l) rfl (k := k) (by simpa using hkn)
    rw [List.getElem_map] at hld0 hset
    have hg := getC_old (getC_of_load hld0)
    repeat' (first
      | ((with_reducible refine eq_go ?_); simp only [stp, ev, Zb, Z2e, Z1z, Zk, Zl, reduceIte, Nat.reduceEqDiff, Zj, Zz, Zu, Z16, Z1a, Zm, Zp, Zo, Zd, Zx, Z2b, Z2x, Z1g, Z17, Zq, Zn, Zv, Z2p, Z2f, Z2o, Z2d, Z2g, Z1c, Z1b, Z2i, Z2n, Z2h, Z2j, Z2k, Z2l, Z2m, Z31, Z8, Z5, Z13, Zy, ldv, stv, vcs, idxA, blt, lenV, Z10, Z3, Z2, Zf, Zg, Ze, Z1, Z0, Z14, Zw, Zh, Zr, Z33, Z15, Z7, Zc, Z6, Z3, Z2, Zf, Zi, Nat.reduceAdd, Nat.reduceMul, Nat.reduceLeDiff, Z11, Z12, Z1y, Z1h, Z2c, Z23, Z28, Z27, Z26, Z25, Z24, Z1m, Z1l, Z1k, Z1j, Z1i, Z1w, Z1v, Z1u, Z1t, Z1s, Z32, Z2y, Z2q, Z2r, Z2s, Z20, Z1q, Z1r, Z2z, Z2t, Z21, Z22, splice, Za, Z9, Z1, Z0, Z19, Zt, Zs, Z18, newB, vcs, Z30, Z2v, Z1x, Z29, Z1n, Z2u, Z1o, Z1f, Z1p, Z1d, Z1e, Ty.ld3, Ty.sz3, Ty.zc3, Ty.by3, Ty.ld24, Ty.sz24, Ty.sl24, Ty.zc24, Ty.by24, *]; rfl)
      | (with_reducible refine aw_then ?_) | (with_reducible refine aw_skip ?_) | (with_reducible refine aw_ret ?_) | (with_reducible refine aw_exit ?_) | (with_reducible refine aw_block ?_) | (with_reducible refine xr_reg (by decide +kernel) ?_)
      | (with_reducible refine xr_nil ?_) | (with_reducible refine k_norm ?_) | (with_reducible refine k_ret ?_) | (with_reducible refine k_exit ?_) | (with_reducible refine b_norm ?_) | (with_reducible refine b_ret ?_) | (with_reducible refine b_exit ?_) | (with_reducible refine b_past (by decide) ?_)
      | (refine xr_do (v := ?_) (h' := ?_) (by exact rfl) ?_ ?_; rotate_left 2)
      | (refine xr_st (v := ?_) (h' := ?_) (by exact rfl) ?_ ?_; rotate_left 2)
      | (refine aw_ift (by decide) ?_ ?_
         · simp only [ev, Zb, reduceIte, Nat.reduceEqDiff, *])
      | (refine aw_iff (by decide) ?_ ?_
         · simp only [ev, Zb, reduceIte, Nat.reduceEqDiff, *])
      | (refine aw_if (b := ?_) (by decide) ?_ (fun hb => ?_) (fun hb => ?_)
         rotate_left 1
         · simp only [ev, Zb, reduceIte, Nat.reduceEqDiff, *]; rfl)
      | (refine r_ret (vs := ?_) ?_ ?_
         rotate_left 1
         · simp only [resV, ev, Zb, reduceIte, Nat.reduceEqDiff, Zj, *]; rfl)
      )
    refine ⟨by first | assumption | omega, ?_, ?_⟩
    · simp only [Z37, Z38, Z39, implies_true, and_true, Z2b, stp, ev, Zb, Z2e, Z1z, Zk, Zl, reduceIte, Nat.reduceEqDiff, Zj, Zz, Zu, Z16, Z1a, Zm, Zp, Zo, Zd, Zx, Z2b, Z2x, Z1g, Z17, Zq, Zn, Zv, Z2p, Z2f, Z2o, Z2d, Z2g, Z1c, Z1b, Z2i, Z2n, Z2h, Z2j, Z2k, Z2l, Z2m, Z31, Z8, Z5, Z13, Zy, *]
    refine ⟨rfl, ?_⟩
    simp only [Zb, reduceIte, Nat.reduceEqDiff]
    rw [wrap_id (by omega)]; rfl
  · have h1 : ¬ (k : Int) < l.length := by omega
    repeat' (first
      | ((with_reducible refine eq_go ?_); simp only [stp, ev, Zb, Z2e, Z1z, Zk, Zl, reduceIte, Nat.reduceEqDiff, Zj, Zz, Zu, Z16, Z1a, Zm, Zp, Zo, Zd, Zx, Z2b, Z2x, Z1g, Z17, Zq, Zn, Zv, Z2p, Z2f, Z2o, Z2d, Z2g, Z1c, Z1b, Z2i, Z2n, Z2h, Z2j, Z2k, Z2l, Z2m, Z31, Z8, Z5, Z13, Zy, ldv, stv, vcs, idxA, blt, lenV, Z10, Z3, Z2, Zf, Zg, Ze, Z1, Z0, Z14, Zw, Zh, Zr, Z33, Z15, Z7, Zc, Z6, Z3, Z2, Zf, Zi, Nat.reduceAdd, Nat.reduceMul, Nat.reduceLeDiff, Z11, Z12, Z1y, Z1h, Z2c, Z23, Z28, Z27, Z26, Z25, Z24, Z1m, Z1l, Z1k, Z1j, Z1i, Z1w, Z1v, Z1u, Z1t, Z1s, Z32, Z2y, Z2q, Z2r, Z2s, Z20, Z1q, Z1r, Z2z, Z2t, Z21, Z22, splice, Za, Z9, Z1, Z0, Z19, Zt, Zs, Z18, newB, vcs, Z30, Z2v, Z1x, Z29, Z1n, Z2u, Z1o, Z1f, Z1p, Z1d, Z1e, Ty.ld3, Ty.sz3, Ty.zc3, Ty.by3, Ty.ld24, Ty.sz24, Ty.sl24, Ty.zc24, Ty.by24, *]; rfl)
      | (with_reducible refine aw_then ?_) | (with_reducible refine aw_skip ?_) | (with_reducible refine aw_ret ?_) | (with_reducible refine aw_exit ?_) | (with_reducible refine aw_block ?_) | (with_reducible refine xr_reg (by decide +kernel) ?_)
      | (with_reducible refine xr_nil ?_) | (with_reducible refine k_norm ?_) | (with_reducible refine k_ret ?_) | (with_reducible refine k_exit ?_) | (with_reducible refine b_norm ?_) | (with_reducible refine b_ret ?_) | (with_reducible refine b_exit ?_) | (with_reducible refine b_past (by decide) ?_)
      | (refine xr_do (v := ?_) (h' := ?_) (by exact rfl) ?_ ?_; rotate_left 2)
      | (refine xr_st (v := ?_) (h' := ?_) (by exact rfl) ?_ ?_; rotate_left 2)
      | (refine aw_ift (by decide) ?_ ?_
         · simp only [ev, Zb, reduceIte, Nat.reduceEqDiff, *])
      | (refine aw_iff (by decide) ?_ ?_
         · simp only [ev, Zb, reduceIte, Nat.reduceEqDiff, *])
      | (refine aw_if (b := ?_) (by decide) ?_ (fun hb => ?_) (fun hb => ?_)
         rotate_left 1
         · simp only [ev, Zb, reduceIte, Nat.reduceEqDiff, *]; rfl)
      | (refine r_ret (vs := ?_) ?_ ?_
         rotate_left 1
         · simp only [resV, ev, Zb, reduceIte, Nat.reduceEqDiff, Zj, *]; rfl)
      )
    rw [fill_all _ _ (by simpa using hkn)]
    exact ⟨rfl, rfl⟩

theorem toItem_ok (x : Item) (h : Heap) : ACalls Try.prog 0 119 #[.agg x.cells.toArray] h fun v h' => v = .agg x.cells.toArray ∧ h' = h := by
  have hx : x.cells = [.int .i64 x.cas, .int .i64 x.task, .int .i64 x.role, .int .i64 x.state, .int .i64 x.who, .int .i64 x.till] := rfl
  rw [hx]
  refine acalls_pure (.inl (by simp [af, af1])) ?_
  refine Z36 Try.func119 rfl Try.ntmps119 (by simp) (by dsimp only [Try.f119]) ?_
  repeat' (first
    | ((with_reducible refine eq_go ?_); simp only [stp, ev, Zb, Z2e, Z1z, Zk, Zl, reduceIte, Nat.reduceEqDiff, Zj, Zz, Zu, Z16, Z1a, Zm, Zp, Zo, Zd, Zx, Z2b, Z2x, Z1g, Z17, Zq, Zn, Zv, Z2p, Z2f, Z2o, Z2d, Z2g, Z1c, Z1b, Z2i, Z2n, Z2h, Z2j, Z2k, Z2l, Z2m, Z31, Z8, Z5, Z13, Zy, ldv, stv, vcs, fldA, Zh, Zr, Z33, Z15, Z7, Zc, Z6, Z3, Z2, Zf, Zi, Nat.reduceAdd, Nat.reduceMul, Nat.reduceLeDiff, Z11, Z12, Z1y, Z1h, Z2c, Z23, Z28, Z27, Z26, Z25, Z24, Z1m, Z1l, Z1k, Z1j, Z1i, Z1w, Z1v, Z1u, Z1t, Z1s, Z32, Z2y, Z2q, Z2r, Z2s, Z20, Z1q, Z1r, Z2z, Z2t, Z21, Z22, splice, Za, Z9, Z1, Z0, Z19, Zt, Zs, Z18, newB, vcs, Z30, Z2v, Z1x, Z29, Z1n, Z2u, Z1o, Z1f, Z1p, Z1d, Z1e, Ty.ld3, Ty.sz3, Ty.zc3, Ty.ld77, Ty.sz77, Ty.zc77, Ty.fl77_0, Ty.fl77_1, Ty.fl77_2, Ty.fl77_3, Ty.fl77_4, Ty.fl77_5, Ty.ld132, Ty.sz132, Ty.zc132, Ty.fl132_0, Ty.fl132_1, Ty.fl132_2, Ty.fl132_3, Ty.fl132_4, Ty.fl132_5, *]; rfl)
    | (with_reducible refine aw_then ?_) | (with_reducible refine aw_skip ?_) | (with_reducible refine aw_ret ?_) | (with_reducible refine aw_exit ?_) | (with_reducible refine aw_block ?_) | (with_reducible refine xr_reg (by decide +kernel) ?_)
    | (with_reducible refine xr_nil ?_) | (with_reducible refine k_norm ?_) | (with_reducible refine k_ret ?_) | (with_reducible refine k_exit ?_) | (with_reducible refine b_norm ?_) | (with_reducible refine b_ret ?_) | (with_reducible refine b_exit ?_) | (with_reducible refine b_past (by decide) ?_)
    | (refine xr_do (v := ?_) (h' := ?_) (by exact rfl) ?_ ?_; rotate_left 2)
    | (refine xr_st (v := ?_) (h' := ?_) (by exact rfl) ?_ ?_; rotate_left 2)
    | (refine aw_ift (by decide) ?_ ?_
       · simp only [ev, Zb, reduceIte, Nat.reduceEqDiff, *])
    | (refine aw_iff (by decide) ?_ ?_
       · simp only [ev, Zb, reduceIte, Nat.reduceEqDiff, *])
    | (refine aw_if (b := ?_) (by decide) ?_ (fun hb => ?_) (fun hb => ?_)
       rotate_left 1
       · simp only [ev, Zb, reduceIte, Nat.reduceEqDiff, *]; rfl)
    | (refine r_ret (vs := ?_) ?_ ?_
       rotate_left 1
       · simp only [resV, oneOf, stp, ev, Zb, Z2e, Z1z, Zk, Zl, reduceIte, Nat.reduceEqDiff, Zj, Zz, Zu, Z16, Z1a, Zm, Zp, Zo, Zd, Zx, Z2b, Z2x, Z1g, Z17, Zq, Zn, Zv, Z2p, Z2f, Z2o, Z2d, Z2g, Z1c, Z1b, Z2i, Z2n, Z2h, Z2j, Z2k, Z2l, Z2m, Z31, Z8, Z5, Z13, Zy, ldv, stv, vcs, fldA, Zh, Zr, Z33, Z15, Z7, Zc, Z6, Z3, Z2, Zf, Zi, Nat.reduceAdd, Nat.reduceMul, Nat.reduceLeDiff, Z11, Z12, Z1y, Z1h, Z2c, Z23, Z28, Z27, Z26, Z25, Z24, Z1m, Z1l, Z1k, Z1j, Z1i, Z1w, Z1v, Z1u, Z1t, Z1s, Z32, Z2y, Z2q, Z2r, Z2s, Z20, Z1q, Z1r, Z2z, Z2t, Z21, Z22, splice, Za, Z9, Z1, Z0, Z19, Zt, Zs, Z18, newB, vcs, Z30, Z2v, Z1x, Z29, Z1n, Z2u, Z1o, Z1f, Z1p, Z1d, Z1e, Ty.ld3, Ty.sz3, Ty.zc3, Ty.ld77, Ty.sz77, Ty.zc77, Ty.fl77_0, Ty.fl77_1, Ty.fl77_2, Ty.fl77_3, Ty.fl77_4, Ty.fl77_5, Ty.ld132, Ty.sz132, Ty.zc132, Ty.fl132_0, Ty.fl132_1, Ty.fl132_2, Ty.fl132_3, Ty.fl132_4, Ty.fl132_5, *]; rfl)
    )
  exact ⟨rfl, _, rfl⟩

theorem toItemS_ok (l : List Item) (v : Value) (h : Heap) (hs : Sl h v 6 (l.map Item.cells)) (hl : l.length ≤ 1048576) :
    ACalls Try.prog 0 93 #[v] h fun v h' => v = .slice (some ⟨h.length, 0, none⟩) l.length l.length ∧ h' = h ++ [⟨2, 6, (l.map Item.cells).flatten⟩] := by
  obtain ⟨b, c, rfl, hc, hrow⟩ := hs
  simp only [Zv] at hc ⊢
  have hmk : mkS Try.prog 56 h (.int .i64 l.length) (.int .i64 l.length) = _ := mkS_eq Ty.sl56 Ty.zc77 Ty.by77 (n := l.length) (by omega) (by omega)
  refine Z36 Try.func93 rfl Try.ntmps93 (by simp) (by dsimp only [Try.f93]) ?_
  repeat' (first
    | ((with_reducible refine eq_go ?_); simp only [stp, ev, Zb, Z2e, Z1z, Zk, Zl, reduceIte, Nat.reduceEqDiff, Zj, Zz, Zu, Z16, Z1a, Zm, Zp, Zo, Zd, Zx, Z2b, Z2x, Z1g, Z17, Zq, Zn, Zv, Z2p, Z2f, Z2o, Z2d, Z2g, Z1c, Z1b, Z2i, Z2n, Z2h, Z2j, Z2k, Z2l, Z2m, Z31, Z8, Z5, Z13, Zy, ldv, stv, vcs, idxA, blt, lenV, Z10, Z3, Z2, Zf, Zg, Ze, Z1, Z0, Z14, Zw, Zh, Zr, Z33, Z15, Z7, Zc, Z6, Z3, Z2, Zf, Zi, Nat.reduceAdd, Nat.reduceMul, Nat.reduceLeDiff, Z11, Z12, Z1y, Z1h, Z2c, Z23, Z28, Z27, Z26, Z25, Z24, Z1m, Z1l, Z1k, Z1j, Z1i, Z1w, Z1v, Z1u, Z1t, Z1s, Z32, Z2y, Z2q, Z2r, Z2s, Z20, Z1q, Z1r, Z2z, Z2t, Z21, Z22, splice, Za, Z9, Z1, Z0, Z19, Zt, Zs, Z18, newB, vcs, Z30, Z2v, Z1x, Z29, Z1n, Z2u, Z1o, Z1f, Z1p, Z1d, Z1e, Ty.ld3, Ty.sz3, Ty.zc3, Ty.by3, Ty.ld51, Ty.sz51, Ty.sl51, Ty.zc51, Ty.by51, Ty.ld56, Ty.sz56, Ty.sl56, Ty.zc56, Ty.by56, Ty.ld77, Ty.sz77, Ty.zc77, Ty.by77, Ty.ld132, Ty.sz132, Ty.zc132, Ty.by132, *]; rfl)
    | (with_reducible refine aw_then ?_) | (with_reducible refine aw_skip ?_) | (with_reducible refine aw_ret ?_) | (with_reducible refine aw_exit ?_) | (with_reducible refine aw_block ?_) | (with_reducible refine xr_reg (by decide +kernel) ?_)
    | (with_reducible refine xr_nil ?_) | (with_reducible refine k_norm ?_) | (with_reducible refine k_ret ?_) | (with_reducible refine k_exit ?_) | (with_reducible refine b_norm ?_) | (with_reducible refine b_ret ?_) | (with_reducible refine b_exit ?_) | (with_reducible refine b_past (by decide) ?_)
    | (refine xr_cl (f := ?_) (fs := ?_) (cs := ?_) (args := ?_) (K := ?_) ?_ ?_ ?_ ?_ ?_
       rotate_left 5
       · simp only [ev]; rfl
       first
       | (· with_reducible exact Ty.ok119
          rotate_left 2
          refine Z2a 119 ?_
          rotate_right 2)
       )
    | (refine xr_do (v := ?_) (h' := ?_) (by exact rfl) ?_ ?_; rotate_left 2)
    | (refine xr_st (v := ?_) (h' := ?_) (by exact rfl) ?_ ?_; rotate_left 2)
    | (refine aw_ift (by decide) ?_ ?_
       · simp only [ev, Zb, reduceIte, Nat.reduceEqDiff, *])
    | (refine aw_iff (by decide) ?_ ?_
       · simp only [ev, Zb, reduceIte, Nat.reduceEqDiff, *])
    | (refine aw_if (b := ?_) (by decide) ?_ (fun hb => ?_) (fun hb => ?_)
       rotate_left 1
       · simp only [ev, Zb, reduceIte, Nat.reduceEqDiff, *]; rfl)
    | (refine r_ret (vs := ?_) ?_ ?_
       rotate_left 1
       · simp only [resV, ev, Zb, reduceIte, Nat.reduceEqDiff, Zj, *]; rfl)
    | (with_reducible exact toItem_ok _ _)
    | ((with_reducible refine Z2w (n := 119) ?_); rintro _ _ ⟨rfl, hh⟩; replace hh := hh.symm; subst hh)
    )
  refine aw_for [0, 3] (fun k T h' => h' = h ++ [⟨2, 6, fill [.int .i64 0, .int .i64 0, .int .i64 0, .int .i64 0, .int .i64 0, .int .i64 0] (l.map Item.cells) k⟩] ∧ T 4 = .int .i64 k) l.length (k0 := 0) (Nat.zero_le _) ⟨?_, rfl⟩ ?_
  · rw [fill_zero, Zv]; try rfl
  rintro k T h' hk hR ⟨rfl, h11⟩
  simp only [Z37, Z38, Z39, implies_true, and_true, stp, ev, Zb, Z2e, Z1z, Zk, Zl, reduceIte, Nat.reduceEqDiff, Zj, Zz, Zu, Z16, Z1a, Zm, Zp, Zo, Zd, Zx, Z2b, Z2x, Z1g, Z17, Zq, Zn, Zv, Z2p, Z2f, Z2o, Z2d, Z2g, Z1c, Z1b, Z2i, Z2n, Z2h, Z2j, Z2k, Z2l, Z2m, Z31, Z8, Z5, Z13, Zy] at hR
  rcases Nat.lt_or_ge k l.length with hkn | hkn
  · have h1 : (k : Int) < l.length := by omega
    obtain ⟨a, rfl, hld0⟩ := Sl.row hrow (k := k) (by simpa using hkn)
    have hset := fill_set (z := [.int .i64 0, .int .i64 0, .int .i64 0, .int .i64 0, .int .i64 0, .int .i64 0]) (h := []) (items_len l) rfl (k := k) (by simpa using hkn)
    rw [List.getElem_map] at hld0 hset
    have hld := loadCs_old hld0
    repeat' (first
      | ((with_reducible refine eq_go ?_); simp only [stp, ev, Zb, Z2e, Z1z, Zk, Zl, reduceIte, Nat.reduceEqDiff, Zj, Zz, Zu, Z16, Z1a, Zm, Zp, Zo, Zd, Zx, Z2b, Z2x, Z1g, Z17, Zq, Zn, Zv, Z2p, Z2f, Z2o, Z2d, Z2g, Z1c, Z1b, Z2i, Z2n, Z2h, Z2j, Z2k, Z2l, Z2m, Z31, Z8, Z5, Z13, Zy, ldv, stv, vcs, idxA, blt, lenV, Z10, Z3, Z2, Zf, Zg, Ze, Z1, Z0, Z14, Zw, Zh, Zr, Z33, Z15, Z7, Zc, Z6, Z3, Z2, Zf, Zi, Nat.reduceAdd, Nat.reduceMul, Nat.reduceLeDiff, Z11, Z12, Z1y, Z1h, Z2c, Z23, Z28, Z27, Z26, Z25, Z24, Z1m, Z1l, Z1k, Z1j, Z1i, Z1w, Z1v, Z1u, Z1t, Z1s, Z32, Z2y, Z2q, Z2r, Z2s, Z20, Z1q, Z1r, Z2z, Z2t, Z21, Z22, splice, Za, Z9, Z1, Z0, Z19, Zt, Zs, Z18, newB, vcs, Z30, Z2v, Z1x, Z29, Z1n, Z2u, Z1o, Z1f, Z1p, Z1d, Z1e, Ty.ld3, Ty.sz3, Ty.zc3, Ty.by3, Ty.ld51, Ty.sz51, Ty.sl51, Ty.zc51, Ty.by51, Ty.ld56, Ty.sz56, Ty.sl56, Ty.zc56, Ty.by56, Ty.ld77, Ty.sz77, Ty.zc77, Ty.by77, Ty.ld132, Ty.sz132, Ty.zc132, Ty.by132, Item.cells_length, Item.cells_flat, Item.cells_take, *]; rfl)
      | (with_reducible refine aw_then ?_) | (with_reducible refine aw_skip ?_) | (with_reducible refine aw_ret ?_) | (with_reducible refine aw_exit ?_) | (with_reducible refine aw_block ?_) | (with_reducible refine xr_reg (by decide +kernel) ?_)
      | (with_reducible refine xr_nil ?_) | (with_reducible refine k_norm ?_) | (with_reducible refine k_ret ?_) | (with_reducible refine k_exit ?_) | (with_reducible refine b_norm ?_) | (with_reducible refine b_ret ?_) | (with_reducible refine b_exit ?_) | (with_reducible refine b_past (by decide) ?_)
      | (refine xr_cl (f := ?_) (fs := ?_) (cs := ?_) (args := ?_) (K := ?_) ?_ ?_ ?_ ?_ ?_
         rotate_left 5
         · simp only [ev]; rfl
         first
         | (· with_reducible exact Ty.ok119
            rotate_left 2
            refine Z2a 119 ?_
            rotate_right 2)
         )
      | (refine xr_do (v := ?_) (h' := ?_) (by exact rfl) ?_ ?_; rotate_left 2)
      | (refine xr_st (v := ?_) (h' := ?_) (by exact rfl) ?_ ?_; rotate_left 2)
      | (refine aw_ift (by decide) ?_ ?_
         · simp only [ev, Zb, reduceIte, Nat.reduceEqDiff, *])
      | (refine aw_iff (by decide) ?_ ?_
         · simp only [ev, Zb, reduceIte, Nat.reduceEqDiff, *])
      | (refine aw_if (b := ?_) (by decide) ?_ (fun hb => ?_) (fun hb => ?_)
         rotate_left 1
         · simp only [ev, Zb, reduceIte, Nat.reduceEqDiff, *]; rfl)
      | (refine r_ret (vs := ?_) ?_ ?_
         rotate_left 1
         · simp only [resV, ev, Zb, reduceIte, Nat.reduceEqDiff, Zj, *]; rfl)
      | (with_reducible exact toItem_ok _ _)
      | ((with_reducible refine Z2w (n := 119) ?_); rintro _ _ ⟨rfl, hh⟩; replace hh := hh.symm; subst hh)
      )
    refine ⟨by first | assumption | omega, ?_, ?_⟩
    · simp only [Z37, Z38, Z39, implies_true, and_true, Z2b, stp, ev, Zb, Z2e, Z1z, Zk, Zl, reduceIte, Nat.reduceEqDiff, Zj, Zz, Zu, Z16, Z1a, Zm, Zp, Zo, Zd, Zx, Z2b, Z2x, Z1g, Z17, Zq, Zn, Zv, Z2p, Z2f, Z2o, Z2d, Z2g, Z1c, Z1b, Z2i, Z2n, Z2h, Z2j, Z2k, Z2l, Z2m, Z31, Z8, Z5, Z13, Zy, *]
    refine ⟨rfl, ?_⟩
    simp only [Zb, reduceIte, Nat.reduceEqDiff]
    rw [wrap_id (by omega)]; rfl
  · have h1 : ¬ (k : Int) < l.length := by omega
    repeat' (first
      | ((with_reducible refine eq_go ?_); simp only [stp, ev, Zb, Z2e, Z1z, Zk, Zl, reduceIte, Nat.reduceEqDiff, Zj, Zz, Zu, Z16, Z1a, Zm, Zp, Zo, Zd, Zx, Z2b, Z2x, Z1g, Z17, Zq, Zn, Zv, Z2p, Z2f, Z2o, Z2d, Z2g, Z1c, Z1b, Z2i, Z2n, Z2h, Z2j, Z2k, Z2l, Z2m, Z31, Z8, Z5, Z13, Zy, ldv, stv, vcs, idxA, blt, lenV, Z10, Z3, Z2, Zf, Zg, Ze, Z1, Z0, Z14, Zw, Zh, Zr, Z33, Z15, Z7, Zc, Z6, Z3, Z2, Zf, Zi, Nat.reduceAdd, Nat.reduceMul, Nat.reduceLeDiff, Z11, Z12, Z1y, Z1h, Z2c, Z23, Z28, Z27, Z26, Z25, Z24, Z1m, Z1l, Z1k, Z1j, Z1i, Z1w, Z1v, Z1u, Z1t, Z1s, Z32, Z2y, Z2q, Z2r, Z2s, Z20, Z1q, Z1r, Z2z, Z2t, Z21, Z22, splice, Za, Z9, Z1, Z0, Z19, Zt, Zs, Z18, newB, vcs, Z30, Z2v, Z1x, Z29, Z1n, Z2u, Z1o, Z1f, Z1p, Z1d, Z1e, Ty.ld3, Ty.sz3, Ty.zc3, Ty.by3, Ty.ld51, Ty.sz51, Ty.sl51, Ty.zc51, Ty.by51, Ty.ld56, Ty.sz56, Ty.sl56, Ty.zc56, Ty.by56, Ty.ld77, Ty.sz77, Ty.zc77, Ty.by77, Ty.ld132, Ty.sz132, Ty.zc132, Ty.by132, *]; rfl)
      | (with_reducible refine aw_then ?_) | (with_reducible refine aw_skip ?_) | (with_reducible refine aw_ret ?_) | (with_reducible refine aw_exit ?_) | (with_reducible refine aw_block ?_) | (with_reducible refine xr_reg (by decide +kernel) ?_)
      | (with_reducible refine xr_nil ?_) | (with_reducible refine k_norm ?_) | (with_reducible refine k_ret ?_) | (with_reducible refine k_exit ?_) | (with_reducible refine b_norm ?_) | (with_reducible refine b_ret ?_) | (with_reducible refine b_exit ?_) | (with_reducible refine b_past (by decide) ?_)
      | (refine xr_cl (f := ?_) (fs := ?_) (cs := ?_) (args := ?_) (K := ?_) ?_ ?_ ?_ ?_ ?_
         rotate_left 5
         · simp only [ev]; rfl
         first
         | (· with_reducible exact Ty.ok119
            rotate_left 2
            refine Z2a 119 ?_
            rotate_right 2)
         )
      | (refine xr_do (v := ?_) (h' := ?_) (by exact rfl) ?_ ?_; rotate_left 2)
      | (refine xr_st (v := ?_) (h' := ?_) (by exact rfl) ?_ ?_; rotate_left 2)
      | (refine aw_ift (by decide) ?_ ?_
         · simp only [ev, Zb, reduceIte, Nat.reduceEqDiff, *])
      | (refine aw_iff (by decide) ?_ ?_
         · simp only [ev, Zb, reduceIte, Nat.reduceEqDiff, *])
      | (refine aw_if (b := ?_) (by decide) ?_ (fun hb => ?_) (fun hb => ?_)
         rotate_left 1
         · simp only [ev, Zb, reduceIte, Nat.reduceEqDiff, *]; rfl)
      | (refine r_ret (vs := ?_) ?_ ?_
         rotate_left 1
         · simp only [resV, ev, Zb, reduceIte, Nat.reduceEqDiff, Zj, *]; rfl)
      | (with_reducible exact toItem_ok _ _)
      | ((with_reducible refine Z2w (n := 119) ?_); rintro _ _ ⟨rfl, hh⟩; replace hh := hh.symm; subst hh)
      )
    rw [fill_all _ _ (by simpa using hkn)]
    exact ⟨rfl, rfl⟩

/-- A desk's copy: its value, and the blocks that it leaves. -/
def deskV (n : Nat) (now : Int) (people : List Int) (items : List Item) : Value :=
  .agg #[.int .i64 now, .slice (some ⟨n + 3, 0, none⟩) people.length people.length, .slice (some ⟨n + 4, 0, none⟩) items.length items.length]
def deskL (n : Nat) (now : Int) (vp vi : Value) (people : List Int) (items : List Item) : Heap :=
  [⟨2, 1, [.int .i64 now, vp, vi]⟩,
   ⟨2, 1, [.int .i64 now, .slice (some ⟨n + 3, 0, none⟩) people.length people.length, .slice (some ⟨n + 4, 0, none⟩) items.length items.length]⟩,
   ⟨2, 1, [.int .i64 now, .slice (some ⟨n + 3, 0, none⟩) people.length people.length, .slice (some ⟨n + 4, 0, none⟩) items.length items.length]⟩,
   ⟨2, 1, (ints people).flatten⟩, ⟨2, 6, (items.map Item.cells).flatten⟩]

theorem toDesk_ok (now : Int) (people : List Int) (items : List Item) (vp vi : Value) (h : Heap) (hp : Sl h vp 1 (ints people)) (hi : Sl h vi 6 (items.map Item.cells))
    (hl : people.length ≤ 1048576) (hl2 : items.length ≤ 1048576) :
    ACalls Try.prog 0 41 #[.agg #[.int .i64 now, vp, vi]] h fun v h' => v = deskV h.length now people items ∧ h' = h ++ deskL h.length now vp vi people items := by
  have hf := hp.flat
  have hf2 := hi.flat
  refine Z36 Try.func41 rfl Try.ntmps41 (by simp) (by dsimp only [Try.f41]) ?_
  repeat' (first
    | ((with_reducible refine eq_go ?_); simp only [stp, ev, Zb, Z2e, Z1z, Zk, Zl, reduceIte, Nat.reduceEqDiff, Zj, Zz, Zu, Z16, Z1a, Zm, Zp, Zo, Zd, Zx, Z2b, Z2x, Z1g, Z17, Zq, Zn, Zv, Z2p, Z2f, Z2o, Z2d, Z2g, Z1c, Z1b, Z2i, Z2n, Z2h, Z2j, Z2k, Z2l, Z2m, Z31, Z8, Z5, Z13, Zy, ldv, stv, vcs, fldA, blt, lenV, Z10, Z3, Z2, Zf, Zg, Ze, Z1, Z0, Z14, Zw, Zh, Zr, Z33, Z15, Z7, Zc, Z6, Z3, Z2, Zf, Zi, Nat.reduceAdd, Nat.reduceMul, Nat.reduceLeDiff, Z11, Z12, Z1y, Z1h, Z2c, Z23, Z28, Z27, Z26, Z25, Z24, Z1m, Z1l, Z1k, Z1j, Z1i, Z1w, Z1v, Z1u, Z1t, Z1s, Z32, Z2y, Z2q, Z2r, Z2s, Z20, Z1q, Z1r, Z2z, Z2t, Z21, Z22, splice, Za, Z9, Z1, Z0, Z19, Zt, Zs, Z18, newB, vcs, Z30, Z2v, Z1x, Z29, Z1n, Z2u, Z1o, Z1f, Z1p, Z1d, Z1e, Ty.ld3, Ty.sz3, Ty.zc3, Ty.by3, Ty.ld24, Ty.sz24, Ty.sl24, Ty.zc24, Ty.by24, Ty.ld51, Ty.sz51, Ty.sl51, Ty.zc51, Ty.by51, Ty.ld53, Ty.sz53, Ty.zc53, Ty.by53, Ty.fl53_0, Ty.fl53_1, Ty.fl53_2, Ty.ld56, Ty.sz56, Ty.sl56, Ty.zc56, Ty.by56, Ty.ld58, Ty.sz58, Ty.zc58, Ty.by58, Ty.fl58_0, Ty.fl58_1, Ty.fl58_2, Ty.ld77, Ty.sz77, Ty.zc77, Ty.by77, Ty.fl77_0, Ty.fl77_1, Ty.fl77_2, Ty.fl77_3, Ty.fl77_4, Ty.fl77_5, Ty.ld132, Ty.sz132, Ty.zc132, Ty.by132, Ty.fl132_0, Ty.fl132_1, Ty.fl132_2, Ty.fl132_3, Ty.fl132_4, Ty.fl132_5, *]; rfl)
    | (with_reducible refine aw_then ?_) | (with_reducible refine aw_skip ?_) | (with_reducible refine aw_ret ?_) | (with_reducible refine aw_exit ?_) | (with_reducible refine aw_block ?_) | (with_reducible refine xr_reg (by decide +kernel) ?_)
    | (with_reducible refine xr_nil ?_) | (with_reducible refine k_norm ?_) | (with_reducible refine k_ret ?_) | (with_reducible refine k_exit ?_) | (with_reducible refine b_norm ?_) | (with_reducible refine b_ret ?_) | (with_reducible refine b_exit ?_) | (with_reducible refine b_past (by decide) ?_)
    | (refine xr_cl (f := ?_) (fs := ?_) (cs := ?_) (args := ?_) (K := ?_) ?_ ?_ ?_ ?_ ?_
       rotate_left 5
       · simp only [ev]; rfl
       first
       | (· with_reducible exact Ty.ok17
          rotate_left 2
          refine Z2a 17 ?_
          rotate_right 2)
       | (· with_reducible exact Ty.ok93
          rotate_left 2
          refine Z2a 93 ?_
          rotate_right 2)
       )
    | (refine xr_do (v := ?_) (h' := ?_) (by exact rfl) ?_ ?_; rotate_left 2)
    | (refine xr_st (v := ?_) (h' := ?_) (by exact rfl) ?_ ?_; rotate_left 2)
    | (refine aw_ift (by decide) ?_ ?_
       · simp only [ev, Zb, reduceIte, Nat.reduceEqDiff, *])
    | (refine aw_iff (by decide) ?_ ?_
       · simp only [ev, Zb, reduceIte, Nat.reduceEqDiff, *])
    | (refine aw_if (b := ?_) (by decide) ?_ (fun hb => ?_) (fun hb => ?_)
       rotate_left 1
       · simp only [ev, Zb, reduceIte, Nat.reduceEqDiff, *]; rfl)
    | (refine r_ret (vs := ?_) ?_ ?_
       rotate_left 1
       · simp only [resV, oneOf, stp, ev, Zb, Z2e, Z1z, Zk, Zl, reduceIte, Nat.reduceEqDiff, Zj, Zz, Zu, Z16, Z1a, Zm, Zp, Zo, Zd, Zx, Z2b, Z2x, Z1g, Z17, Zq, Zn, Zv, Z2p, Z2f, Z2o, Z2d, Z2g, Z1c, Z1b, Z2i, Z2n, Z2h, Z2j, Z2k, Z2l, Z2m, Z31, Z8, Z5, Z13, Zy, ldv, stv, vcs, fldA, blt, lenV, Z10, Z3, Z2, Zf, Zg, Ze, Z1, Z0, Z14, Zw, Zh, Zr, Z33, Z15, Z7, Zc, Z6, Z3, Z2, Zf, Zi, Nat.reduceAdd, Nat.reduceMul, Nat.reduceLeDiff, Z11, Z12, Z1y, Z1h, Z2c, Z23, Z28, Z27, Z26, Z25, Z24, Z1m, Z1l, Z1k, Z1j, Z1i, Z1w, Z1v, Z1u, Z1t, Z1s, Z32, Z2y, Z2q, Z2r, Z2s, Z20, Z1q, Z1r, Z2z, Z2t, Z21, Z22, splice, Za, Z9, Z1, Z0, Z19, Zt, Zs, Z18, newB, vcs, Z30, Z2v, Z1x, Z29, Z1n, Z2u, Z1o, Z1f, Z1p, Z1d, Z1e, Ty.ld3, Ty.sz3, Ty.zc3, Ty.by3, Ty.ld24, Ty.sz24, Ty.sl24, Ty.zc24, Ty.by24, Ty.ld51, Ty.sz51, Ty.sl51, Ty.zc51, Ty.by51, Ty.ld53, Ty.sz53, Ty.zc53, Ty.by53, Ty.fl53_0, Ty.fl53_1, Ty.fl53_2, Ty.ld56, Ty.sz56, Ty.sl56, Ty.zc56, Ty.by56, Ty.ld58, Ty.sz58, Ty.zc58, Ty.by58, Ty.fl58_0, Ty.fl58_1, Ty.fl58_2, Ty.ld77, Ty.sz77, Ty.zc77, Ty.by77, Ty.fl77_0, Ty.fl77_1, Ty.fl77_2, Ty.fl77_3, Ty.fl77_4, Ty.fl77_5, Ty.ld132, Ty.sz132, Ty.zc132, Ty.by132, Ty.fl132_0, Ty.fl132_1, Ty.fl132_2, Ty.fl132_3, Ty.fl132_4, Ty.fl132_5, *]; rfl)
    | (with_reducible refine toIntS_ok ?_ _ _ ?_ ?_
       rotate_left 1
       · first | assumption | exact Sl.old (by assumption) _ | ((try (simp only [deskV, deskL, Z11, Z12, Z1y, Z1h, Za, Z9, Z7, Zc, Zd, Z6, Z3, Z2, Zf, Zi, Nat.reduceAdd, Zh])); first | exact Sl.old (by assumption) _ | exact sl_nilints | exact sl_nilitems | (refine sl_ints (Z4 _) ?_; exact rfl) | (refine sl_items (Z4 _) ?_; exact rfl) | (refine sl_ints0 (Z4 _) ?_; exact rfl) | (refine sl_items0 (Z4 _) ?_; exact rfl))
       · first | omega | (simp only [Z2]; omega)
       )
    | (with_reducible refine toItemS_ok ?_ _ _ ?_ ?_
       rotate_left 1
       · first | assumption | exact Sl.old (by assumption) _ | ((try (simp only [deskV, deskL, Z11, Z12, Z1y, Z1h, Za, Z9, Z7, Zc, Zd, Z6, Z3, Z2, Zf, Zi, Nat.reduceAdd, Zh])); first | exact Sl.old (by assumption) _ | exact sl_nilints | exact sl_nilitems | (refine sl_ints (Z4 _) ?_; exact rfl) | (refine sl_items (Z4 _) ?_; exact rfl) | (refine sl_ints0 (Z4 _) ?_; exact rfl) | (refine sl_items0 (Z4 _) ?_; exact rfl))
       · first | omega | (simp only [Z2]; omega)
       )
    | ((with_reducible refine Z2w (n := 17) ?_); rintro _ _ ⟨rfl, hh⟩; replace hh := hh.symm; subst hh)
    | ((with_reducible refine Z2w (n := 93) ?_); rintro _ _ ⟨rfl, hh⟩; replace hh := hh.symm; subst hh)
    )
  exact ⟨rfl, rfl⟩

def szDeskM (np ni : Nat) (left : Int) : Int := if szM np left < 0 then -1 else szM ni (szM np left)

theorem szM_range {n : Nat} {left : Int} (h0 : 0 ≤ left ∧ left ≤ 1048576) (h : ¬ szM n left < 0) : 0 ≤ szM n left ∧ szM n left ≤ 1048576 ∧ n ≤ 1048576 := by
  unfold szM at h ⊢
  split at h <;> rename_i q
  · omega
  · rw [if_neg q]; omega

theorem szM_neg {n : Nat} {left : Int} (h : szM n left < 0) : szM n left = -1 := by
  unfold szM at h ⊢
  split at h <;> rename_i q
  · rw [if_pos q]
  · exact absurd h q

theorem szDesk_ok (now : Int) (people : List Int) (items : List Item) (left : Int) (vp vi : Value) (h : Heap) (hp : Sl h vp 1 (ints people)) (hi : Sl h vi 6 (items.map Item.cells))
    (hl : people.length ≤ 9223372036854775807) (hl2 : items.length ≤ 9223372036854775807) (h0 : 0 ≤ left ∧ left ≤ 1048576) :
    ACalls Try.prog 0 39 #[.agg #[.int .i64 now, vp, vi], .int .i64 left] h fun v h' => v = .int .i64 (szDeskM people.length items.length left) ∧ h' = h := by
  refine acalls_pure (.inl rfl) ?_
  have hf := hp.flat
  have hf2 := hi.flat
  have hr := szM_range (n := people.length) h0
  refine Z36 Try.func39 rfl Try.ntmps39 (by simp) (by dsimp only [Try.f39]) ?_
  repeat' (first
    | ((with_reducible refine eq_go ?_); simp only [stp, ev, Zb, Z2e, Z1z, Zk, Zl, reduceIte, Nat.reduceEqDiff, Zj, Zz, Zu, Z16, Z1a, Zm, Zp, Zo, Zd, Zx, Z2b, Z2x, Z1g, Z17, Zq, Zn, Zv, Z2p, Z2f, Z2o, Z2d, Z2g, Z1c, Z1b, Z2i, Z2n, Z2h, Z2j, Z2k, Z2l, Z2m, Z31, Z8, Z5, Z13, Zy, ldv, fldA, blt, lenV, Z10, Z3, Z2, Zf, Zg, Ze, Z1, Z0, Z14, Zw, Zh, Zr, Z33, Z15, Z7, Zc, Z6, Z3, Z2, Zf, Zi, Nat.reduceAdd, Nat.reduceMul, Nat.reduceLeDiff, Z11, Z12, Z1y, Z1h, Z2c, Z23, Z28, Z27, Z26, Z25, Z24, Z1m, Z1l, Z1k, Z1j, Z1i, Z1w, Z1v, Z1u, Z1t, Z1s, Z32, Z2y, Z2q, Z2r, Z2s, Z20, Z1q, Z1r, Z2z, Z2t, Z21, Z22, splice, Za, Z9, Z1, Z0, Z19, Zt, Zs, Z18, newB, vcs, Z30, Z2v, Z1x, Z29, Z1n, Z2u, Z1o, Z1f, Z1p, Z1d, Z1e, Ty.ld3, Ty.sz3, Ty.zc3, Ty.by3, Ty.ld24, Ty.sz24, Ty.sl24, Ty.zc24, Ty.by24, Ty.ld51, Ty.sz51, Ty.sl51, Ty.zc51, Ty.by51, Ty.ld53, Ty.sz53, Ty.zc53, Ty.by53, Ty.fl53_0, Ty.fl53_1, Ty.fl53_2, Ty.ld132, Ty.sz132, Ty.zc132, Ty.by132, Ty.fl132_0, Ty.fl132_1, Ty.fl132_2, Ty.fl132_3, Ty.fl132_4, Ty.fl132_5, *]; rfl)
    | (with_reducible refine aw_then ?_) | (with_reducible refine aw_skip ?_) | (with_reducible refine aw_ret ?_) | (with_reducible refine aw_exit ?_) | (with_reducible refine aw_block ?_) | (with_reducible refine xr_reg (by decide +kernel) ?_)
    | (with_reducible refine xr_nil ?_) | (with_reducible refine k_norm ?_) | (with_reducible refine k_ret ?_) | (with_reducible refine k_exit ?_) | (with_reducible refine b_norm ?_) | (with_reducible refine b_ret ?_) | (with_reducible refine b_exit ?_) | (with_reducible refine b_past (by decide) ?_)
    | (refine xr_cl (f := ?_) (fs := ?_) (cs := ?_) (args := ?_) (K := ?_) ?_ ?_ ?_ ?_ ?_
       rotate_left 5
       · simp only [ev]; rfl
       first
       | (· with_reducible exact Ty.ok89
          rotate_left 2
          refine Z2a 89 ?_
          rotate_right 2)
       | (· with_reducible exact Ty.ok90
          rotate_left 2
          refine Z2a 90 ?_
          rotate_right 2)
       )
    | (refine xr_do (v := ?_) (h' := ?_) (by exact rfl) ?_ ?_; rotate_left 2)
    | (refine xr_st (v := ?_) (h' := ?_) (by exact rfl) ?_ ?_; rotate_left 2)
    | (refine aw_ift (by decide) ?_ ?_
       · simp only [ev, Zb, reduceIte, Nat.reduceEqDiff, *])
    | (refine aw_iff (by decide) ?_ ?_
       · simp only [ev, Zb, reduceIte, Nat.reduceEqDiff, *])
    | (refine aw_if (b := ?_) (by decide) ?_ (fun hb => ?_) (fun hb => ?_)
       rotate_left 1
       · simp only [ev, Zb, reduceIte, Nat.reduceEqDiff, *]; rfl)
    | (refine r_ret (vs := ?_) ?_ ?_
       rotate_left 1
       · simp only [resV, ev, Zb, reduceIte, Nat.reduceEqDiff, Zj, *]; rfl)
    | (with_reducible refine szIntS_ok ?_ ?_ _ _ _ ?_ ?_ ?_
       rotate_left 2
       · first | assumption | exact Sl.old (by assumption) _ | ((try (simp only [deskV, deskL, Z11, Z12, Z1y, Z1h, Za, Z9, Z7, Zc, Zd, Z6, Z3, Z2, Zf, Zi, Nat.reduceAdd, Zh])); first | exact Sl.old (by assumption) _ | exact sl_nilints | exact sl_nilitems | (refine sl_ints (Z4 _) ?_; exact rfl) | (refine sl_items (Z4 _) ?_; exact rfl) | (refine sl_ints0 (Z4 _) ?_; exact rfl) | (refine sl_items0 (Z4 _) ?_; exact rfl))
       · grind
       · grind
       )
    | (with_reducible refine szItemS_ok ?_ ?_ _ _ _ ?_ ?_ ?_
       rotate_left 2
       · first | assumption | exact Sl.old (by assumption) _ | ((try (simp only [deskV, deskL, Z11, Z12, Z1y, Z1h, Za, Z9, Z7, Zc, Zd, Z6, Z3, Z2, Zf, Zi, Nat.reduceAdd, Zh])); first | exact Sl.old (by assumption) _ | exact sl_nilints | exact sl_nilitems | (refine sl_ints (Z4 _) ?_; exact rfl) | (refine sl_items (Z4 _) ?_; exact rfl) | (refine sl_ints0 (Z4 _) ?_; exact rfl) | (refine sl_items0 (Z4 _) ?_; exact rfl))
       · grind
       · grind
       )
    | ((with_reducible refine Z2w (n := 89) ?_); rintro _ _ ⟨rfl, hh⟩; replace hh := hh.symm; subst hh)
    | ((with_reducible refine Z2w (n := 90) ?_); rintro _ _ ⟨rfl, hh⟩; replace hh := hh.symm; subst hh)
    )
  all_goals refine ⟨?_, _, rfl⟩
  all_goals simp only [decide_eq_true_eq, decide_eq_false_iff_not] at *
  · simp only [oneOf, szDeskM, hb, Z2x]
  · rename_i hb0
    simp only [oneOf, szDeskM, hb0, if_false]
    rw [szM_neg hb]
  · rename_i hb0
    simp only [oneOf, szDeskM, hb0, if_false]

theorem szDesk_le {np ni : Nat} {left : Int} (h0 : 0 ≤ left ∧ left ≤ 1048576) (h : ¬ szDeskM np ni left < 0) : np ≤ 1048576 ∧ ni ≤ 1048576 := by
  unfold szDeskM at h
  split at h
  · omega
  · rename_i q
    have h1 := szM_range h0 q
    exact ⟨h1.2.2, (szM_range ⟨h1.1, h1.2.1⟩ h).2.2⟩

theorem eqDesk_ok (now1 now2 : Int) (p1 p2 : List Int) (i1 i2 : List Item) (vp1 vi1 vp2 vi2 : Value) (h : Heap) (hp1 : Sl h vp1 1 (ints p1)) (hi1 : Sl h vi1 6 (i1.map Item.cells))
    (hp2 : Sl h vp2 1 (ints p2)) (hi2 : Sl h vi2 6 (i2.map Item.cells)) (hl1 : p1.length ≤ 1048576) (hl2 : p2.length ≤ 1048576) (hl3 : i1.length ≤ 1048576) (hl4 : i2.length ≤ 1048576) :
    ACalls Try.prog 0 43 #[.agg #[.int .i64 now1, vp1, vi1], .agg #[.int .i64 now2, vp2, vi2]] h
    fun v h' => v = .bool (decide (now1 = now2 ∧ p1 = p2 ∧ i1 = i2)) ∧ h' = h := by
  refine acalls_pure (.inl rfl) ?_
  have hf1 := hp1.flat
  have hf2 := hi1.flat
  have hf3 := hp2.flat
  have hf4 := hi2.flat
  refine Z36 Try.func43 rfl Try.ntmps43 (by simp) (by dsimp only [Try.f43]) ?_
  repeat' (first
    | ((with_reducible refine eq_go ?_); simp only [stp, ev, Zb, Z2e, Z1z, Zk, Zl, reduceIte, Nat.reduceEqDiff, Zj, Zz, Zu, Z16, Z1a, Zm, Zp, Zo, Zd, Zx, Z2b, Z2x, Z1g, Z17, Zq, Zn, Zv, Z2p, Z2f, Z2o, Z2d, Z2g, Z1c, Z1b, Z2i, Z2n, Z2h, Z2j, Z2k, Z2l, Z2m, Z31, Z8, Z5, Z13, Zy, ldv, fldA, blt, lenV, Z10, Z3, Z2, Zf, Zg, Ze, Z1, Z0, Z14, Zw, Zh, Zr, Z33, Z15, Z7, Zc, Z6, Z3, Z2, Zf, Zi, Nat.reduceAdd, Nat.reduceMul, Nat.reduceLeDiff, Z11, Z12, Z1y, Z1h, Z2c, Z23, Z28, Z27, Z26, Z25, Z24, Z1m, Z1l, Z1k, Z1j, Z1i, Z1w, Z1v, Z1u, Z1t, Z1s, Z32, Z2y, Z2q, Z2r, Z2s, Z20, Z1q, Z1r, Z2z, Z2t, Z21, Z22, splice, Za, Z9, Z1, Z0, Z19, Zt, Zs, Z18, newB, vcs, Z30, Z2v, Z1x, Z29, Z1n, Z2u, Z1o, Z1f, Z1p, Z1d, Z1e, Ty.ld3, Ty.sz3, Ty.zc3, Ty.by3, Ty.ld24, Ty.sz24, Ty.sl24, Ty.zc24, Ty.by24, Ty.ld56, Ty.sz56, Ty.sl56, Ty.zc56, Ty.by56, Ty.ld58, Ty.sz58, Ty.zc58, Ty.by58, Ty.fl58_0, Ty.fl58_1, Ty.fl58_2, Ty.ld77, Ty.sz77, Ty.zc77, Ty.by77, Ty.fl77_0, Ty.fl77_1, Ty.fl77_2, Ty.fl77_3, Ty.fl77_4, Ty.fl77_5, *]; rfl)
    | (with_reducible refine aw_then ?_) | (with_reducible refine aw_skip ?_) | (with_reducible refine aw_ret ?_) | (with_reducible refine aw_exit ?_) | (with_reducible refine aw_block ?_) | (with_reducible refine xr_reg (by decide +kernel) ?_)
    | (with_reducible refine xr_nil ?_) | (with_reducible refine k_norm ?_) | (with_reducible refine k_ret ?_) | (with_reducible refine k_exit ?_) | (with_reducible refine b_norm ?_) | (with_reducible refine b_ret ?_) | (with_reducible refine b_exit ?_) | (with_reducible refine b_past (by decide) ?_)
    | (refine xr_cl (f := ?_) (fs := ?_) (cs := ?_) (args := ?_) (K := ?_) ?_ ?_ ?_ ?_ ?_
       rotate_left 5
       · simp only [ev]; rfl
       first
       | (· with_reducible exact Ty.ok21
          rotate_left 2
          refine Z2a 21 ?_
          rotate_right 2)
       | (· with_reducible exact Ty.ok95
          rotate_left 2
          refine Z2a 95 ?_
          rotate_right 2)
       )
    | (refine xr_do (v := ?_) (h' := ?_) (by exact rfl) ?_ ?_; rotate_left 2)
    | (refine xr_st (v := ?_) (h' := ?_) (by exact rfl) ?_ ?_; rotate_left 2)
    | (refine aw_ift (by decide) ?_ ?_
       · simp only [ev, Zb, reduceIte, Nat.reduceEqDiff, *])
    | (refine aw_iff (by decide) ?_ ?_
       · simp only [ev, Zb, reduceIte, Nat.reduceEqDiff, *])
    | (refine aw_if (b := ?_) (by decide) ?_ (fun hb => ?_) (fun hb => ?_)
       rotate_left 1
       · simp only [ev, Zb, reduceIte, Nat.reduceEqDiff, *]; rfl)
    | (refine r_ret (vs := ?_) ?_ ?_
       rotate_left 1
       · simp only [resV, ev, Zb, reduceIte, Nat.reduceEqDiff, Zj, *]; rfl)
    | (with_reducible refine eqIntS_ok ?_ ?_ _ _ _ ?_ ?_ ?_ ?_
       rotate_left 2
       · first | assumption | exact Sl.old (by assumption) _ | ((try (simp only [deskV, deskL, Z11, Z12, Z1y, Z1h, Za, Z9, Z7, Zc, Zd, Z6, Z3, Z2, Zf, Zi, Nat.reduceAdd, Zh])); first | exact Sl.old (by assumption) _ | exact sl_nilints | exact sl_nilitems | (refine sl_ints (Z4 _) ?_; exact rfl) | (refine sl_items (Z4 _) ?_; exact rfl) | (refine sl_ints0 (Z4 _) ?_; exact rfl) | (refine sl_items0 (Z4 _) ?_; exact rfl))
       · first | assumption | exact Sl.old (by assumption) _ | ((try (simp only [deskV, deskL, Z11, Z12, Z1y, Z1h, Za, Z9, Z7, Zc, Zd, Z6, Z3, Z2, Zf, Zi, Nat.reduceAdd, Zh])); first | exact Sl.old (by assumption) _ | exact sl_nilints | exact sl_nilitems | (refine sl_ints (Z4 _) ?_; exact rfl) | (refine sl_items (Z4 _) ?_; exact rfl) | (refine sl_ints0 (Z4 _) ?_; exact rfl) | (refine sl_items0 (Z4 _) ?_; exact rfl))
       · grind
       · grind
       )
    | (with_reducible refine eqItemS_ok ?_ ?_ _ _ _ ?_ ?_ ?_ ?_
       rotate_left 2
       · first | assumption | exact Sl.old (by assumption) _ | ((try (simp only [deskV, deskL, Z11, Z12, Z1y, Z1h, Za, Z9, Z7, Zc, Zd, Z6, Z3, Z2, Zf, Zi, Nat.reduceAdd, Zh])); first | exact Sl.old (by assumption) _ | exact sl_nilints | exact sl_nilitems | (refine sl_ints (Z4 _) ?_; exact rfl) | (refine sl_items (Z4 _) ?_; exact rfl) | (refine sl_ints0 (Z4 _) ?_; exact rfl) | (refine sl_items0 (Z4 _) ?_; exact rfl))
       · first | assumption | exact Sl.old (by assumption) _ | ((try (simp only [deskV, deskL, Z11, Z12, Z1y, Z1h, Za, Z9, Z7, Zc, Zd, Z6, Z3, Z2, Zf, Zi, Nat.reduceAdd, Zh])); first | exact Sl.old (by assumption) _ | exact sl_nilints | exact sl_nilitems | (refine sl_ints (Z4 _) ?_; exact rfl) | (refine sl_items (Z4 _) ?_; exact rfl) | (refine sl_ints0 (Z4 _) ?_; exact rfl) | (refine sl_items0 (Z4 _) ?_; exact rfl))
       · grind
       · grind
       )
    | ((with_reducible refine Z2w (n := 21) ?_); rintro _ _ ⟨rfl, hh⟩; replace hh := hh.symm; subst hh)
    | ((with_reducible refine Z2w (n := 95) ?_); rintro _ _ ⟨rfl, hh⟩; replace hh := hh.symm; subst hh)
    )
  all_goals refine ⟨?_, _, rfl⟩
  all_goals simp_all [oneOf]

/-! ### the copy's parts -/

theorem deskL_people (n : Nat) (now : Int) (vp vi : Value) (people : List Int) (items : List Item) (h L : Heap) (hn : h.length = n) :
    Sl (h ++ (deskL n now vp vi people items ++ L)) (.slice (some ⟨n + 3, 0, none⟩) people.length people.length) 1 (ints people) := by
  subst hn
  have := Sl.new (h := h ++ (deskL h.length now vp vi people items).take 3) (ints_len people) (⟨2, 6, (items.map Item.cells).flatten⟩ :: L)
  simpa [deskL] using this
theorem deskL_items (n : Nat) (now : Int) (vp vi : Value) (people : List Int) (items : List Item) (h L : Heap) (hn : h.length = n) :
    Sl (h ++ (deskL n now vp vi people items ++ L)) (.slice (some ⟨n + 4, 0, none⟩) items.length items.length) 6 (items.map Item.cells) := by
  subst hn
  have := Sl.new (h := h ++ (deskL h.length now vp vi people items).take 4) (items_len items) L
  simpa [deskL] using this
theorem deskL_length (n : Nat) (now : Int) (vp vi : Value) (people : List Int) (items : List Item) : (deskL n now vp vi people items).length = 5 := rfl
end Go.Proofs.Ytiddnhhjlipebaa.Am
namespace Go.Proofs.Ytiddnhhjlipebaa.Am
open Go Go.Proofs
set_option linter.unusedVariables false
set_option linter.unusedSimpArgs false
set_option maxRecDepth 100000
set_option maxHeartbeats 8000000

theorem markIntS_ok (n : Nat) (cs : List Value) (s : Int) (v : Value) (h : Heap) (ho : Own h v 1 cs n) (hn : n ≤ 1048576) (hs : 0 ≤ s ∧ s ≤ 100000000) :
    ACalls Try.prog 0 22 #[v, .int .i64 s] h fun v' h' => v' = .int .i64 (s + n) ∧ h' = mset h v ⟨2, 1, marksC s n⟩ := by
  rcases ho with ⟨rfl, rfl, rfl⟩ | ⟨id, sp, c, rfl, hc, hl, hb⟩
  · simp only [Z12]
    refine Z36 Try.func22 rfl Try.ntmps22 (by simp) (by dsimp only [Try.f22]) ?_
    repeat' (first
      | ((with_reducible refine eq_go ?_); simp only [stp, ev, Zb, Z2e, Z1z, Zk, Zl, reduceIte, Nat.reduceEqDiff, Zj, Zz, Zu, Z16, Z1a, Zm, Zp, Zo, Zd, Zx, Z2b, Z2x, Z1g, Z17, Zq, Zn, Zv, Z2p, Z2f, Z2o, Z2d, Z2g, Z1c, Z1b, Z2i, Z2n, Z2h, Z2j, Z2k, Z2l, Z2m, Z31, Z8, Z5, Z13, Zy, stv, vcs, idxA, blt, lenV, Z10, Z3, Z2, Zf, Zg, Ze, Z1, Z0, Z14, Zw, Zh, Zr, Z33, Z15, Z7, Zc, Z6, Z3, Z2, Zf, Zi, Nat.reduceAdd, Nat.reduceMul, Nat.reduceLeDiff, Z11, Z12, Z1y, Z1h, Z2c, Z23, Z28, Z27, Z26, Z25, Z24, Z1m, Z1l, Z1k, Z1j, Z1i, Z1w, Z1v, Z1u, Z1t, Z1s, Z32, Z2y, Z2q, Z2r, Z2s, Z20, Z1q, Z1r, Z2z, Z2t, Z21, Z22, splice, Za, Z9, Z1, Z0, Z19, Zt, Zs, Z18, newB, vcs, Z30, Z2v, Z1x, Z29, Z1n, Z2u, Z1o, Z1f, Z1p, Z1d, Z1e, Ty.sz3, Ty.zc3, Ty.by3, Ty.sz24, Ty.sl24, Ty.zc24, Ty.by24, *]; rfl)
      | (with_reducible refine aw_then ?_) | (with_reducible refine aw_skip ?_) | (with_reducible refine aw_ret ?_) | (with_reducible refine aw_exit ?_) | (with_reducible refine aw_block ?_) | (with_reducible refine xr_reg (by decide +kernel) ?_)
      | (with_reducible refine xr_nil ?_) | (with_reducible refine k_norm ?_) | (with_reducible refine k_ret ?_) | (with_reducible refine k_exit ?_) | (with_reducible refine b_norm ?_) | (with_reducible refine b_ret ?_) | (with_reducible refine b_exit ?_) | (with_reducible refine b_past (by decide) ?_)
      | (refine xr_do (v := ?_) (h' := ?_) (by exact rfl) ?_ ?_; rotate_left 2)
      | (refine xr_st (v := ?_) (h' := ?_) (by exact rfl) ?_ ?_; rotate_left 2)
      | (refine aw_ift (by decide) ?_ ?_
         · simp only [ev, Zb, reduceIte, Nat.reduceEqDiff, *])
      | (refine aw_iff (by decide) ?_ ?_
         · simp only [ev, Zb, reduceIte, Nat.reduceEqDiff, *])
      | (refine aw_if (b := ?_) (by decide) ?_ (fun hb => ?_) (fun hb => ?_)
         rotate_left 1
         · simp only [ev, Zb, reduceIte, Nat.reduceEqDiff, *]; rfl)
      | (refine r_ret (vs := ?_) ?_ ?_
         rotate_left 1
         · simp only [resV, ev, Zb, reduceIte, Nat.reduceEqDiff, Zj, *]; rfl)
      )
    refine aw_for [0, 1] (fun k T h' => h' = h ∧ T 5 = .int .i64 0) 0 (k0 := 0) (Nat.zero_le _) ⟨rfl, rfl⟩ ?_
    rintro k T h' hk hR ⟨rfl, h11⟩
    have h1 : decide ((0 : Int) < ((0 : Nat) : Int)) = false := rfl
    simp only [Z37, Z38, Z39, implies_true, and_true, stp, ev, Zb, Z2e, Z1z, Zk, Zl, reduceIte, Nat.reduceEqDiff, Zj, Zz, Zu, Z16, Z1a, Zm, Zp, Zo, Zd, Zx, Z2b, Z2x, Z1g, Z17, Zq, Zn, Zv, Z2p, Z2f, Z2o, Z2d, Z2g, Z1c, Z1b, Z2i, Z2n, Z2h, Z2j, Z2k, Z2l, Z2m, Z31, Z8, Z5, Z13, Zy] at hR
    repeat' (first
      | ((with_reducible refine eq_go ?_); simp only [stp, ev, Zb, Z2e, Z1z, Zk, Zl, reduceIte, Nat.reduceEqDiff, Zj, Zz, Zu, Z16, Z1a, Zm, Zp, Zo, Zd, Zx, Z2b, Z2x, Z1g, Z17, Zq, Zn, Zv, Z2p, Z2f, Z2o, Z2d, Z2g, Z1c, Z1b, Z2i, Z2n, Z2h, Z2j, Z2k, Z2l, Z2m, Z31, Z8, Z5, Z13, Zy, stv, vcs, idxA, blt, lenV, Z10, Z3, Z2, Zf, Zg, Ze, Z1, Z0, Z14, Zw, Zh, Zr, Z33, Z15, Z7, Zc, Z6, Z3, Z2, Zf, Zi, Nat.reduceAdd, Nat.reduceMul, Nat.reduceLeDiff, Z11, Z12, Z1y, Z1h, Z2c, Z23, Z28, Z27, Z26, Z25, Z24, Z1m, Z1l, Z1k, Z1j, Z1i, Z1w, Z1v, Z1u, Z1t, Z1s, Z32, Z2y, Z2q, Z2r, Z2s, Z20, Z1q, Z1r, Z2z, Z2t, Z21, Z22, splice, Za, Z9, Z1, Z0, Z19, Zt, Zs, Z18, newB, vcs, Z30, Z2v, Z1x, Z29, Z1n, Z2u, Z1o, Z1f, Z1p, Z1d, Z1e, Ty.sz3, Ty.zc3, Ty.by3, Ty.sz24, Ty.sl24, Ty.zc24, Ty.by24, *]; rfl)
      | (with_reducible refine aw_then ?_) | (with_reducible refine aw_skip ?_) | (with_reducible refine aw_ret ?_) | (with_reducible refine aw_exit ?_) | (with_reducible refine aw_block ?_) | (with_reducible refine xr_reg (by decide +kernel) ?_)
      | (with_reducible refine xr_nil ?_) | (with_reducible refine k_norm ?_) | (with_reducible refine k_ret ?_) | (with_reducible refine k_exit ?_) | (with_reducible refine b_norm ?_) | (with_reducible refine b_ret ?_) | (with_reducible refine b_exit ?_) | (with_reducible refine b_past (by decide) ?_)
      | (refine xr_do (v := ?_) (h' := ?_) (by exact rfl) ?_ ?_; rotate_left 2)
      | (refine xr_st (v := ?_) (h' := ?_) (by exact rfl) ?_ ?_; rotate_left 2)
      | (refine aw_ift (by decide) ?_ ?_
         · simp only [ev, Zb, reduceIte, Nat.reduceEqDiff, *])
      | (refine aw_iff (by decide) ?_ ?_
         · simp only [ev, Zb, reduceIte, Nat.reduceEqDiff, *])
      | (refine aw_if (b := ?_) (by decide) ?_ (fun hb => ?_) (fun hb => ?_)
         rotate_left 1
         · simp only [ev, Zb, reduceIte, Nat.reduceEqDiff, *]; rfl)
      | (refine r_ret (vs := ?_) ?_ ?_
         rotate_left 1
         · simp only [resV, ev, Zb, reduceIte, Nat.reduceEqDiff, Zj, *]; rfl)
      )
    exact ⟨by simp [oneOf], rfl⟩
  simp only [Z11]
  have hl : cs.length = n := by omega
  have hlm : cs.length = (marksC s n).length := by rw [Z34, hl]
  refine Z36 Try.func22 rfl Try.ntmps22 (by simp) (by dsimp only [Try.f22]) ?_
  repeat' (first
    | ((with_reducible refine eq_go ?_); simp only [stp, ev, Zb, Z2e, Z1z, Zk, Zl, reduceIte, Nat.reduceEqDiff, Zj, Zz, Zu, Z16, Z1a, Zm, Zp, Zo, Zd, Zx, Z2b, Z2x, Z1g, Z17, Zq, Zn, Zv, Z2p, Z2f, Z2o, Z2d, Z2g, Z1c, Z1b, Z2i, Z2n, Z2h, Z2j, Z2k, Z2l, Z2m, Z31, Z8, Z5, Z13, Zy, stv, vcs, idxA, blt, lenV, Z10, Z3, Z2, Zf, Zg, Ze, Z1, Z0, Z14, Zw, Zh, Zr, Z33, Z15, Z7, Zc, Z6, Z3, Z2, Zf, Zi, Nat.reduceAdd, Nat.reduceMul, Nat.reduceLeDiff, Z11, Z12, Z1y, Z1h, Z2c, Z23, Z28, Z27, Z26, Z25, Z24, Z1m, Z1l, Z1k, Z1j, Z1i, Z1w, Z1v, Z1u, Z1t, Z1s, Z32, Z2y, Z2q, Z2r, Z2s, Z20, Z1q, Z1r, Z2z, Z2t, Z21, Z22, splice, Za, Z9, Z1, Z0, Z19, Zt, Zs, Z18, newB, vcs, Z30, Z2v, Z1x, Z29, Z1n, Z2u, Z1o, Z1f, Z1p, Z1d, Z1e, Ty.sz3, Ty.zc3, Ty.by3, Ty.sz24, Ty.sl24, Ty.zc24, Ty.by24, *]; rfl)
    | (with_reducible refine aw_then ?_) | (with_reducible refine aw_skip ?_) | (with_reducible refine aw_ret ?_) | (with_reducible refine aw_exit ?_) | (with_reducible refine aw_block ?_) | (with_reducible refine xr_reg (by decide +kernel) ?_)
    | (with_reducible refine xr_nil ?_) | (with_reducible refine k_norm ?_) | (with_reducible refine k_ret ?_) | (with_reducible refine k_exit ?_) | (with_reducible refine b_norm ?_) | (with_reducible refine b_ret ?_) | (with_reducible refine b_exit ?_) | (with_reducible refine b_past (by decide) ?_)
    | (refine xr_do (v := ?_) (h' := ?_) (by exact rfl) ?_ ?_; rotate_left 2)
    | (refine xr_st (v := ?_) (h' := ?_) (by exact rfl) ?_ ?_; rotate_left 2)
    | (refine aw_ift (by decide) ?_ ?_
       · simp only [ev, Zb, reduceIte, Nat.reduceEqDiff, *])
    | (refine aw_iff (by decide) ?_ ?_
       · simp only [ev, Zb, reduceIte, Nat.reduceEqDiff, *])
    | (refine aw_if (b := ?_) (by decide) ?_ (fun hb => ?_) (fun hb => ?_)
       rotate_left 1
       · simp only [ev, Zb, reduceIte, Nat.reduceEqDiff, *]; rfl)
    | (refine r_ret (vs := ?_) ?_ ?_
       rotate_left 1
       · simp only [resV, ev, Zb, reduceIte, Nat.reduceEqDiff, Zj, *]; rfl)
    )
  refine aw_for [0] (fun k T h' => h' = h.set id ⟨2, 1, mixC cs (marksC s n) k⟩ ∧ T 5 = .int .i64 k ∧ T 1 = .int .i64 (s + k)) n (k0 := 0) (Nat.zero_le _) ⟨?_, rfl, ?_⟩ ?_
  · rw [mixC_zero, set_self hb]
  · simp [Zb, argT]
  rintro k T h' hk hR ⟨rfl, h11, h12⟩
  simp only [Z37, Z38, Z39, implies_true, and_true, stp, ev, Zb, Z2e, Z1z, Zk, Zl, reduceIte, Nat.reduceEqDiff, Zj, Zz, Zu, Z16, Z1a, Zm, Zp, Zo, Zd, Zx, Z2b, Z2x, Z1g, Z17, Zq, Zn, Zv, Z2p, Z2f, Z2o, Z2d, Z2g, Z1c, Z1b, Z2i, Z2n, Z2h, Z2j, Z2k, Z2l, Z2m, Z31, Z8, Z5, Z13, Zy] at hR
  rcases Nat.lt_or_ge k n with hkn | hkn
  · have h1 : (k : Int) < n := by omega
    have hset := set_mix (e := 1) hb hlm (marksC_get s hkn)
    have hw1 : IntKind.i64.wrap (s + k + 1) = s + ((k + 1 : Nat) : Int) := by rw [wrap_id (by omega)]; omega
    have hw2 : IntKind.i64.wrap ((k : Int) + 1) = ((k + 1 : Nat) : Int) := by rw [wrap_id (by omega)]; omega
    repeat' (first
      | ((with_reducible refine eq_go ?_); simp only [stp, ev, Zb, Z2e, Z1z, Zk, Zl, reduceIte, Nat.reduceEqDiff, Zj, Zz, Zu, Z16, Z1a, Zm, Zp, Zo, Zd, Zx, Z2b, Z2x, Z1g, Z17, Zq, Zn, Zv, Z2p, Z2f, Z2o, Z2d, Z2g, Z1c, Z1b, Z2i, Z2n, Z2h, Z2j, Z2k, Z2l, Z2m, Z31, Z8, Z5, Z13, Zy, stv, vcs, idxA, blt, lenV, Z10, Z3, Z2, Zf, Zg, Ze, Z1, Z0, Z14, Zw, Zh, Zr, Z33, Z15, Z7, Zc, Z6, Z3, Z2, Zf, Zi, Nat.reduceAdd, Nat.reduceMul, Nat.reduceLeDiff, Z11, Z12, Z1y, Z1h, Z2c, Z23, Z28, Z27, Z26, Z25, Z24, Z1m, Z1l, Z1k, Z1j, Z1i, Z1w, Z1v, Z1u, Z1t, Z1s, Z32, Z2y, Z2q, Z2r, Z2s, Z20, Z1q, Z1r, Z2z, Z2t, Z21, Z22, splice, Za, Z9, Z1, Z0, Z19, Zt, Zs, Z18, newB, vcs, Z30, Z2v, Z1x, Z29, Z1n, Z2u, Z1o, Z1f, Z1p, Z1d, Z1e, Ty.sz3, Ty.zc3, Ty.by3, Ty.sz24, Ty.sl24, Ty.zc24, Ty.by24, Nat.mul_one, *]; rfl)
      | (with_reducible refine aw_then ?_) | (with_reducible refine aw_skip ?_) | (with_reducible refine aw_ret ?_) | (with_reducible refine aw_exit ?_) | (with_reducible refine aw_block ?_) | (with_reducible refine xr_reg (by decide +kernel) ?_)
      | (with_reducible refine xr_nil ?_) | (with_reducible refine k_norm ?_) | (with_reducible refine k_ret ?_) | (with_reducible refine k_exit ?_) | (with_reducible refine b_norm ?_) | (with_reducible refine b_ret ?_) | (with_reducible refine b_exit ?_) | (with_reducible refine b_past (by decide) ?_)
      | (refine xr_do (v := ?_) (h' := ?_) (by exact rfl) ?_ ?_; rotate_left 2)
      | (refine xr_st (v := ?_) (h' := ?_) (by exact rfl) ?_ ?_; rotate_left 2)
      | (refine aw_ift (by decide) ?_ ?_
         · simp only [ev, Zb, reduceIte, Nat.reduceEqDiff, *])
      | (refine aw_iff (by decide) ?_ ?_
         · simp only [ev, Zb, reduceIte, Nat.reduceEqDiff, *])
      | (refine aw_if (b := ?_) (by decide) ?_ (fun hb => ?_) (fun hb => ?_)
         rotate_left 1
         · simp only [ev, Zb, reduceIte, Nat.reduceEqDiff, *]; rfl)
      | (refine r_ret (vs := ?_) ?_ ?_
         rotate_left 1
         · simp only [resV, ev, Zb, reduceIte, Nat.reduceEqDiff, Zj, *]; rfl)
      )
    refine ⟨by first | assumption | omega, ?_, ?_⟩
    · simp only [Z37, Z38, Z39, implies_true, and_true, Z2b, stp, ev, Zb, Z2e, Z1z, Zk, Zl, reduceIte, Nat.reduceEqDiff, Zj, Zz, Zu, Z16, Z1a, Zm, Zp, Zo, Zd, Zx, Z2b, Z2x, Z1g, Z17, Zq, Zn, Zv, Z2p, Z2f, Z2o, Z2d, Z2g, Z1c, Z1b, Z2i, Z2n, Z2h, Z2j, Z2k, Z2l, Z2m, Z31, Z8, Z5, Z13, Zy, *]
    exact ⟨rfl, by simp only [Zb, reduceIte, Nat.reduceEqDiff], by simp only [Zb, reduceIte, Nat.reduceEqDiff]⟩
  · have h1 : ¬ (k : Int) < n := by omega
    obtain rfl : k = n := by omega
    repeat' (first
      | ((with_reducible refine eq_go ?_); simp only [stp, ev, Zb, Z2e, Z1z, Zk, Zl, reduceIte, Nat.reduceEqDiff, Zj, Zz, Zu, Z16, Z1a, Zm, Zp, Zo, Zd, Zx, Z2b, Z2x, Z1g, Z17, Zq, Zn, Zv, Z2p, Z2f, Z2o, Z2d, Z2g, Z1c, Z1b, Z2i, Z2n, Z2h, Z2j, Z2k, Z2l, Z2m, Z31, Z8, Z5, Z13, Zy, stv, vcs, idxA, blt, lenV, Z10, Z3, Z2, Zf, Zg, Ze, Z1, Z0, Z14, Zw, Zh, Zr, Z33, Z15, Z7, Zc, Z6, Z3, Z2, Zf, Zi, Nat.reduceAdd, Nat.reduceMul, Nat.reduceLeDiff, Z11, Z12, Z1y, Z1h, Z2c, Z23, Z28, Z27, Z26, Z25, Z24, Z1m, Z1l, Z1k, Z1j, Z1i, Z1w, Z1v, Z1u, Z1t, Z1s, Z32, Z2y, Z2q, Z2r, Z2s, Z20, Z1q, Z1r, Z2z, Z2t, Z21, Z22, splice, Za, Z9, Z1, Z0, Z19, Zt, Zs, Z18, newB, vcs, Z30, Z2v, Z1x, Z29, Z1n, Z2u, Z1o, Z1f, Z1p, Z1d, Z1e, Ty.sz3, Ty.zc3, Ty.by3, Ty.sz24, Ty.sl24, Ty.zc24, Ty.by24, *]; rfl)
      | (with_reducible refine aw_then ?_) | (with_reducible refine aw_skip ?_) | (with_reducible refine aw_ret ?_) | (with_reducible refine aw_exit ?_) | (with_reducible refine aw_block ?_) | (with_reducible refine xr_reg (by decide +kernel) ?_)
      | (with_reducible refine xr_nil ?_) | (with_reducible refine k_norm ?_) | (with_reducible refine k_ret ?_) | (with_reducible refine k_exit ?_) | (with_reducible refine b_norm ?_) | (with_reducible refine b_ret ?_) | (with_reducible refine b_exit ?_) | (with_reducible refine b_past (by decide) ?_)
      | (refine xr_do (v := ?_) (h' := ?_) (by exact rfl) ?_ ?_; rotate_left 2)
      | (refine xr_st (v := ?_) (h' := ?_) (by exact rfl) ?_ ?_; rotate_left 2)
      | (refine aw_ift (by decide) ?_ ?_
         · simp only [ev, Zb, reduceIte, Nat.reduceEqDiff, *])
      | (refine aw_iff (by decide) ?_ ?_
         · simp only [ev, Zb, reduceIte, Nat.reduceEqDiff, *])
      | (refine aw_if (b := ?_) (by decide) ?_ (fun hb => ?_) (fun hb => ?_)
         rotate_left 1
         · simp only [ev, Zb, reduceIte, Nat.reduceEqDiff, *]; rfl)
      | (refine r_ret (vs := ?_) ?_ ?_
         rotate_left 1
         · simp only [resV, ev, Zb, reduceIte, Nat.reduceEqDiff, Zj, *]; rfl)
      )
    exact ⟨rfl, by rw [mixC_all hlm (by rw [Z34]; omega)]⟩

theorem heldIntS_ok (n : Nat) (s : Int) (v : Value) (h : Heap) (ho : Own h v 1 (marksC s n) n) (hn : n ≤ 1048576) (hs : 0 ≤ s ∧ s ≤ 100000000) :
    ACalls Try.prog 0 52 #[v, .int .i64 s] h fun v' h' => v' = .int .i64 (s + n) ∧ h' = h := by
  rcases ho with ⟨rfl, rfl, _⟩ | ⟨id, sp, c, rfl, hc, hl, hb⟩
  · skip
    refine Z36 Try.func52 rfl Try.ntmps52 (by simp) (by dsimp only [Try.f52]) ?_
    repeat' (first
      | ((with_reducible refine eq_go ?_); simp only [stp, ev, Zb, Z2e, Z1z, Zk, Zl, reduceIte, Nat.reduceEqDiff, Zj, Zz, Zu, Z16, Z1a, Zm, Zp, Zo, Zd, Zx, Z2b, Z2x, Z1g, Z17, Zq, Zn, Zv, Z2p, Z2f, Z2o, Z2d, Z2g, Z1c, Z1b, Z2i, Z2n, Z2h, Z2j, Z2k, Z2l, Z2m, Z31, Z8, Z5, Z13, Zy, ldv, idxA, blt, lenV, Z10, Z3, Z2, Zf, Zg, Ze, Z1, Z0, Z14, Zw, Zh, Zr, Z33, Z15, Z7, Zc, Z6, Z3, Z2, Zf, Zi, Nat.reduceAdd, Nat.reduceMul, Nat.reduceLeDiff, Z11, Z12, Z1y, Z1h, Z2c, Z23, Z28, Z27, Z26, Z25, Z24, Z1m, Z1l, Z1k, Z1j, Z1i, Z1w, Z1v, Z1u, Z1t, Z1s, Z32, Z2y, Z2q, Z2r, Z2s, Z20, Z1q, Z1r, Z2z, Z2t, Z21, Z22, splice, Za, Z9, Z1, Z0, Z19, Zt, Zs, Z18, newB, vcs, Z30, Z2v, Z1x, Z29, Z1n, Z2u, Z1o, Z1f, Z1p, Z1d, Z1e, Ty.ld3, Ty.sz3, Ty.zc3, Ty.by3, Ty.ld24, Ty.sz24, Ty.sl24, Ty.zc24, Ty.by24, *]; rfl)
      | (with_reducible refine aw_then ?_) | (with_reducible refine aw_skip ?_) | (with_reducible refine aw_ret ?_) | (with_reducible refine aw_exit ?_) | (with_reducible refine aw_block ?_) | (with_reducible refine xr_reg (by decide +kernel) ?_)
      | (with_reducible refine xr_nil ?_) | (with_reducible refine k_norm ?_) | (with_reducible refine k_ret ?_) | (with_reducible refine k_exit ?_) | (with_reducible refine b_norm ?_) | (with_reducible refine b_ret ?_) | (with_reducible refine b_exit ?_) | (with_reducible refine b_past (by decide) ?_)
      | (refine xr_do (v := ?_) (h' := ?_) (by exact rfl) ?_ ?_; rotate_left 2)
      | (refine xr_st (v := ?_) (h' := ?_) (by exact rfl) ?_ ?_; rotate_left 2)
      | (refine aw_ift (by decide) ?_ ?_
         · simp only [ev, Zb, reduceIte, Nat.reduceEqDiff, *])
      | (refine aw_iff (by decide) ?_ ?_
         · simp only [ev, Zb, reduceIte, Nat.reduceEqDiff, *])
      | (refine aw_if (b := ?_) (by decide) ?_ (fun hb => ?_) (fun hb => ?_)
         rotate_left 1
         · simp only [ev, Zb, reduceIte, Nat.reduceEqDiff, *]; rfl)
      | (refine r_ret (vs := ?_) ?_ ?_
         rotate_left 1
         · simp only [resV, ev, Zb, reduceIte, Nat.reduceEqDiff, Zj, *]; rfl)
      )
    refine aw_for [0, 1] (fun k T h' => h' = h ∧ T 5 = .int .i64 0) 0 (k0 := 0) (Nat.zero_le _) ⟨rfl, rfl⟩ ?_
    rintro k T h' hk hR ⟨rfl, h11⟩
    have h1 : decide ((0 : Int) < ((0 : Nat) : Int)) = false := rfl
    simp only [Z37, Z38, Z39, implies_true, and_true, stp, ev, Zb, Z2e, Z1z, Zk, Zl, reduceIte, Nat.reduceEqDiff, Zj, Zz, Zu, Z16, Z1a, Zm, Zp, Zo, Zd, Zx, Z2b, Z2x, Z1g, Z17, Zq, Zn, Zv, Z2p, Z2f, Z2o, Z2d, Z2g, Z1c, Z1b, Z2i, Z2n, Z2h, Z2j, Z2k, Z2l, Z2m, Z31, Z8, Z5, Z13, Zy] at hR
    repeat' (first
      | ((with_reducible refine eq_go ?_); simp only [stp, ev, Zb, Z2e, Z1z, Zk, Zl, reduceIte, Nat.reduceEqDiff, Zj, Zz, Zu, Z16, Z1a, Zm, Zp, Zo, Zd, Zx, Z2b, Z2x, Z1g, Z17, Zq, Zn, Zv, Z2p, Z2f, Z2o, Z2d, Z2g, Z1c, Z1b, Z2i, Z2n, Z2h, Z2j, Z2k, Z2l, Z2m, Z31, Z8, Z5, Z13, Zy, ldv, idxA, blt, lenV, Z10, Z3, Z2, Zf, Zg, Ze, Z1, Z0, Z14, Zw, Zh, Zr, Z33, Z15, Z7, Zc, Z6, Z3, Z2, Zf, Zi, Nat.reduceAdd, Nat.reduceMul, Nat.reduceLeDiff, Z11, Z12, Z1y, Z1h, Z2c, Z23, Z28, Z27, Z26, Z25, Z24, Z1m, Z1l, Z1k, Z1j, Z1i, Z1w, Z1v, Z1u, Z1t, Z1s, Z32, Z2y, Z2q, Z2r, Z2s, Z20, Z1q, Z1r, Z2z, Z2t, Z21, Z22, splice, Za, Z9, Z1, Z0, Z19, Zt, Zs, Z18, newB, vcs, Z30, Z2v, Z1x, Z29, Z1n, Z2u, Z1o, Z1f, Z1p, Z1d, Z1e, Ty.ld3, Ty.sz3, Ty.zc3, Ty.by3, Ty.ld24, Ty.sz24, Ty.sl24, Ty.zc24, Ty.by24, *]; rfl)
      | (with_reducible refine aw_then ?_) | (with_reducible refine aw_skip ?_) | (with_reducible refine aw_ret ?_) | (with_reducible refine aw_exit ?_) | (with_reducible refine aw_block ?_) | (with_reducible refine xr_reg (by decide +kernel) ?_)
      | (with_reducible refine xr_nil ?_) | (with_reducible refine k_norm ?_) | (with_reducible refine k_ret ?_) | (with_reducible refine k_exit ?_) | (with_reducible refine b_norm ?_) | (with_reducible refine b_ret ?_) | (with_reducible refine b_exit ?_) | (with_reducible refine b_past (by decide) ?_)
      | (refine xr_do (v := ?_) (h' := ?_) (by exact rfl) ?_ ?_; rotate_left 2)
      | (refine xr_st (v := ?_) (h' := ?_) (by exact rfl) ?_ ?_; rotate_left 2)
      | (refine aw_ift (by decide) ?_ ?_
         · simp only [ev, Zb, reduceIte, Nat.reduceEqDiff, *])
      | (refine aw_iff (by decide) ?_ ?_
         · simp only [ev, Zb, reduceIte, Nat.reduceEqDiff, *])
      | (refine aw_if (b := ?_) (by decide) ?_ (fun hb => ?_) (fun hb => ?_)
         rotate_left 1
         · simp only [ev, Zb, reduceIte, Nat.reduceEqDiff, *]; rfl)
      | (refine r_ret (vs := ?_) ?_ ?_
         rotate_left 1
         · simp only [resV, ev, Zb, reduceIte, Nat.reduceEqDiff, Zj, *]; rfl)
      )
    exact ⟨by simp [oneOf], rfl⟩
  refine Z36 Try.func52 rfl Try.ntmps52 (by simp) (by dsimp only [Try.f52]) ?_
  repeat' (first
    | ((with_reducible refine eq_go ?_); simp only [stp, ev, Zb, Z2e, Z1z, Zk, Zl, reduceIte, Nat.reduceEqDiff, Zj, Zz, Zu, Z16, Z1a, Zm, Zp, Zo, Zd, Zx, Z2b, Z2x, Z1g, Z17, Zq, Zn, Zv, Z2p, Z2f, Z2o, Z2d, Z2g, Z1c, Z1b, Z2i, Z2n, Z2h, Z2j, Z2k, Z2l, Z2m, Z31, Z8, Z5, Z13, Zy, ldv, idxA, blt, lenV, Z10, Z3, Z2, Zf, Zg, Ze, Z1, Z0, Z14, Zw, Zh, Zr, Z33, Z15, Z7, Zc, Z6, Z3, Z2, Zf, Zi, Nat.reduceAdd, Nat.reduceMul, Nat.reduceLeDiff, Z11, Z12, Z1y, Z1h, Z2c, Z23, Z28, Z27, Z26, Z25, Z24, Z1m, Z1l, Z1k, Z1j, Z1i, Z1w, Z1v, Z1u, Z1t, Z1s, Z32, Z2y, Z2q, Z2r, Z2s, Z20, Z1q, Z1r, Z2z, Z2t, Z21, Z22, splice, Za, Z9, Z1, Z0, Z19, Zt, Zs, Z18, newB, vcs, Z30, Z2v, Z1x, Z29, Z1n, Z2u, Z1o, Z1f, Z1p, Z1d, Z1e, Ty.ld3, Ty.sz3, Ty.zc3, Ty.by3, Ty.ld24, Ty.sz24, Ty.sl24, Ty.zc24, Ty.by24, *]; rfl)
    | (with_reducible refine aw_then ?_) | (with_reducible refine aw_skip ?_) | (with_reducible refine aw_ret ?_) | (with_reducible refine aw_exit ?_) | (with_reducible refine aw_block ?_) | (with_reducible refine xr_reg (by decide +kernel) ?_)
    | (with_reducible refine xr_nil ?_) | (with_reducible refine k_norm ?_) | (with_reducible refine k_ret ?_) | (with_reducible refine k_exit ?_) | (with_reducible refine b_norm ?_) | (with_reducible refine b_ret ?_) | (with_reducible refine b_exit ?_) | (with_reducible refine b_past (by decide) ?_)
    | (refine xr_do (v := ?_) (h' := ?_) (by exact rfl) ?_ ?_; rotate_left 2)
    | (refine xr_st (v := ?_) (h' := ?_) (by exact rfl) ?_ ?_; rotate_left 2)
    | (refine aw_ift (by decide) ?_ ?_
       · simp only [ev, Zb, reduceIte, Nat.reduceEqDiff, *])
    | (refine aw_iff (by decide) ?_ ?_
       · simp only [ev, Zb, reduceIte, Nat.reduceEqDiff, *])
    | (refine aw_if (b := ?_) (by decide) ?_ (fun hb => ?_) (fun hb => ?_)
       rotate_left 1
       · simp only [ev, Zb, reduceIte, Nat.reduceEqDiff, *]; rfl)
    | (refine r_ret (vs := ?_) ?_ ?_
       rotate_left 1
       · simp only [resV, ev, Zb, reduceIte, Nat.reduceEqDiff, Zj, *]; rfl)
    )
  refine aw_for [0] (fun k T h' => h' = h ∧ T 5 = .int .i64 k ∧ T 1 = .int .i64 (s + k)) n (k0 := 0) (Nat.zero_le _) ⟨rfl, rfl, ?_⟩ ?_
  · simp [Zb, argT]
  rintro k T h' hk hR ⟨rfl, h11, h12⟩
  simp only [Z37, Z38, Z39, implies_true, and_true, stp, ev, Zb, Z2e, Z1z, Zk, Zl, reduceIte, Nat.reduceEqDiff, Zj, Zz, Zu, Z16, Z1a, Zm, Zp, Zo, Zd, Zx, Z2b, Z2x, Z1g, Z17, Zq, Zn, Zv, Z2p, Z2f, Z2o, Z2d, Z2g, Z1c, Z1b, Z2i, Z2n, Z2h, Z2j, Z2k, Z2l, Z2m, Z31, Z8, Z5, Z13, Zy] at hR
  rcases Nat.lt_or_ge k n with hkn | hkn
  · have h1 : (k : Int) < n := by omega
    have hld := load_cell hb (marksC_get s hkn)
    have hw1 : IntKind.i64.wrap (s + k + 1) = s + ((k + 1 : Nat) : Int) := by rw [wrap_id (by omega)]; omega
    have hw2 : IntKind.i64.wrap ((k : Int) + 1) = ((k + 1 : Nat) : Int) := by rw [wrap_id (by omega)]; omega
    repeat' (first
      | ((with_reducible refine eq_go ?_); simp only [stp, ev, Zb, Z2e, Z1z, Zk, Zl, reduceIte, Nat.reduceEqDiff, Zj, Zz, Zu, Z16, Z1a, Zm, Zp, Zo, Zd, Zx, Z2b, Z2x, Z1g, Z17, Zq, Zn, Zv, Z2p, Z2f, Z2o, Z2d, Z2g, Z1c, Z1b, Z2i, Z2n, Z2h, Z2j, Z2k, Z2l, Z2m, Z31, Z8, Z5, Z13, Zy, ldv, idxA, blt, lenV, Z10, Z3, Z2, Zf, Zg, Ze, Z1, Z0, Z14, Zw, Zh, Zr, Z33, Z15, Z7, Zc, Z6, Z3, Z2, Zf, Zi, Nat.reduceAdd, Nat.reduceMul, Nat.reduceLeDiff, Z11, Z12, Z1y, Z1h, Z2c, Z23, Z28, Z27, Z26, Z25, Z24, Z1m, Z1l, Z1k, Z1j, Z1i, Z1w, Z1v, Z1u, Z1t, Z1s, Z32, Z2y, Z2q, Z2r, Z2s, Z20, Z1q, Z1r, Z2z, Z2t, Z21, Z22, splice, Za, Z9, Z1, Z0, Z19, Zt, Zs, Z18, newB, vcs, Z30, Z2v, Z1x, Z29, Z1n, Z2u, Z1o, Z1f, Z1p, Z1d, Z1e, Ty.ld3, Ty.sz3, Ty.zc3, Ty.by3, Ty.ld24, Ty.sz24, Ty.sl24, Ty.zc24, Ty.by24, Nat.mul_one, *]; rfl)
      | (with_reducible refine aw_then ?_) | (with_reducible refine aw_skip ?_) | (with_reducible refine aw_ret ?_) | (with_reducible refine aw_exit ?_) | (with_reducible refine aw_block ?_) | (with_reducible refine xr_reg (by decide +kernel) ?_)
      | (with_reducible refine xr_nil ?_) | (with_reducible refine k_norm ?_) | (with_reducible refine k_ret ?_) | (with_reducible refine k_exit ?_) | (with_reducible refine b_norm ?_) | (with_reducible refine b_ret ?_) | (with_reducible refine b_exit ?_) | (with_reducible refine b_past (by decide) ?_)
      | (refine xr_do (v := ?_) (h' := ?_) (by exact rfl) ?_ ?_; rotate_left 2)
      | (refine xr_st (v := ?_) (h' := ?_) (by exact rfl) ?_ ?_; rotate_left 2)
      | (refine aw_ift (by decide) ?_ ?_
         · simp only [ev, Zb, reduceIte, Nat.reduceEqDiff, *])
      | (refine aw_iff (by decide) ?_ ?_
         · simp only [ev, Zb, reduceIte, Nat.reduceEqDiff, *])
      | (refine aw_if (b := ?_) (by decide) ?_ (fun hb => ?_) (fun hb => ?_)
         rotate_left 1
         · simp only [ev, Zb, reduceIte, Nat.reduceEqDiff, *]; rfl)
      | (refine r_ret (vs := ?_) ?_ ?_
         rotate_left 1
         · simp only [resV, ev, Zb, reduceIte, Nat.reduceEqDiff, Zj, *]; rfl)
      )
    refine ⟨by first | assumption | omega, ?_, ?_⟩
    · simp only [Z37, Z38, Z39, implies_true, and_true, Z2b, stp, ev, Zb, Z2e, Z1z, Zk, Zl, reduceIte, Nat.reduceEqDiff, Zj, Zz, Zu, Z16, Z1a, Zm, Zp, Zo, Zd, Zx, Z2b, Z2x, Z1g, Z17, Zq, Zn, Zv, Z2p, Z2f, Z2o, Z2d, Z2g, Z1c, Z1b, Z2i, Z2n, Z2h, Z2j, Z2k, Z2l, Z2m, Z31, Z8, Z5, Z13, Zy, *]
    exact ⟨rfl, by simp only [Zb, reduceIte, Nat.reduceEqDiff], by simp only [Zb, reduceIte, Nat.reduceEqDiff]⟩
  · have h1 : ¬ (k : Int) < n := by omega
    obtain rfl : k = n := by omega
    repeat' (first
      | ((with_reducible refine eq_go ?_); simp only [stp, ev, Zb, Z2e, Z1z, Zk, Zl, reduceIte, Nat.reduceEqDiff, Zj, Zz, Zu, Z16, Z1a, Zm, Zp, Zo, Zd, Zx, Z2b, Z2x, Z1g, Z17, Zq, Zn, Zv, Z2p, Z2f, Z2o, Z2d, Z2g, Z1c, Z1b, Z2i, Z2n, Z2h, Z2j, Z2k, Z2l, Z2m, Z31, Z8, Z5, Z13, Zy, ldv, idxA, blt, lenV, Z10, Z3, Z2, Zf, Zg, Ze, Z1, Z0, Z14, Zw, Zh, Zr, Z33, Z15, Z7, Zc, Z6, Z3, Z2, Zf, Zi, Nat.reduceAdd, Nat.reduceMul, Nat.reduceLeDiff, Z11, Z12, Z1y, Z1h, Z2c, Z23, Z28, Z27, Z26, Z25, Z24, Z1m, Z1l, Z1k, Z1j, Z1i, Z1w, Z1v, Z1u, Z1t, Z1s, Z32, Z2y, Z2q, Z2r, Z2s, Z20, Z1q, Z1r, Z2z, Z2t, Z21, Z22, splice, Za, Z9, Z1, Z0, Z19, Zt, Zs, Z18, newB, vcs, Z30, Z2v, Z1x, Z29, Z1n, Z2u, Z1o, Z1f, Z1p, Z1d, Z1e, Ty.ld3, Ty.sz3, Ty.zc3, Ty.by3, Ty.ld24, Ty.sz24, Ty.sl24, Ty.zc24, Ty.by24, *]; rfl)
      | (with_reducible refine aw_then ?_) | (with_reducible refine aw_skip ?_) | (with_reducible refine aw_ret ?_) | (with_reducible refine aw_exit ?_) | (with_reducible refine aw_block ?_) | (with_reducible refine xr_reg (by decide +kernel) ?_)
      | (with_reducible refine xr_nil ?_) | (with_reducible refine k_norm ?_) | (with_reducible refine k_ret ?_) | (with_reducible refine k_exit ?_) | (with_reducible refine b_norm ?_) | (with_reducible refine b_ret ?_) | (with_reducible refine b_exit ?_) | (with_reducible refine b_past (by decide) ?_)
      | (refine xr_do (v := ?_) (h' := ?_) (by exact rfl) ?_ ?_; rotate_left 2)
      | (refine xr_st (v := ?_) (h' := ?_) (by exact rfl) ?_ ?_; rotate_left 2)
      | (refine aw_ift (by decide) ?_ ?_
         · simp only [ev, Zb, reduceIte, Nat.reduceEqDiff, *])
      | (refine aw_iff (by decide) ?_ ?_
         · simp only [ev, Zb, reduceIte, Nat.reduceEqDiff, *])
      | (refine aw_if (b := ?_) (by decide) ?_ (fun hb => ?_) (fun hb => ?_)
         rotate_left 1
         · simp only [ev, Zb, reduceIte, Nat.reduceEqDiff, *]; rfl)
      | (refine r_ret (vs := ?_) ?_ ?_
         rotate_left 1
         · simp only [resV, ev, Zb, reduceIte, Nat.reduceEqDiff, Zj, *]; rfl)
      )
    exact ⟨rfl, rfl⟩

theorem markItemS_ok (n : Nat) (cs : List Value) (s : Int) (v : Value) (h : Heap) (ho : Own h v 6 cs n) (hn : n ≤ 1048576) (hs : 0 ≤ s ∧ s ≤ 100000000) :
    ACalls Try.prog 0 102 #[v, .int .i64 s] h fun v' h' => v' = .int .i64 (s + ((n * 6 : Nat) : Int)) ∧ h' = mset h v ⟨2, 6, marksC s (n * 6)⟩ := by
  rcases ho with ⟨rfl, rfl, rfl⟩ | ⟨id, sp, c, rfl, hc, hl, hb⟩
  · simp only [Z12]
    refine Z36 Try.func102 rfl Try.ntmps102 (by simp) (by dsimp only [Try.f102]) ?_
    repeat' (first
      | ((with_reducible refine eq_go ?_); simp only [stp, ev, Zb, Z2e, Z1z, Zk, Zl, reduceIte, Nat.reduceEqDiff, Zj, Zz, Zu, Z16, Z1a, Zm, Zp, Zo, Zd, Zx, Z2b, Z2x, Z1g, Z17, Zq, Zn, Zv, Z2p, Z2f, Z2o, Z2d, Z2g, Z1c, Z1b, Z2i, Z2n, Z2h, Z2j, Z2k, Z2l, Z2m, Z31, Z8, Z5, Z13, Zy, stv, vcs, fldA, idxA, blt, lenV, Z10, Z3, Z2, Zf, Zg, Ze, Z1, Z0, Z14, Zw, Zh, Zr, Z33, Z15, Z7, Zc, Z6, Z3, Z2, Zf, Zi, Nat.reduceAdd, Nat.reduceMul, Nat.reduceLeDiff, Z11, Z12, Z1y, Z1h, Z2c, Z23, Z28, Z27, Z26, Z25, Z24, Z1m, Z1l, Z1k, Z1j, Z1i, Z1w, Z1v, Z1u, Z1t, Z1s, Z32, Z2y, Z2q, Z2r, Z2s, Z20, Z1q, Z1r, Z2z, Z2t, Z21, Z22, splice, Za, Z9, Z1, Z0, Z19, Zt, Zs, Z18, newB, vcs, Z30, Z2v, Z1x, Z29, Z1n, Z2u, Z1o, Z1f, Z1p, Z1d, Z1e, Ty.sz3, Ty.zc3, Ty.by3, Ty.sz56, Ty.sl56, Ty.zc56, Ty.by56, Ty.sz77, Ty.zc77, Ty.by77, Ty.fl77_0, Ty.fl77_1, Ty.fl77_2, Ty.fl77_3, Ty.fl77_4, Ty.fl77_5, *]; rfl)
      | (with_reducible refine aw_then ?_) | (with_reducible refine aw_skip ?_) | (with_reducible refine aw_ret ?_) | (with_reducible refine aw_exit ?_) | (with_reducible refine aw_block ?_) | (with_reducible refine xr_reg (by decide +kernel) ?_)
      | (with_reducible refine xr_nil ?_) | (with_reducible refine k_norm ?_) | (with_reducible refine k_ret ?_) | (with_reducible refine k_exit ?_) | (with_reducible refine b_norm ?_) | (with_reducible refine b_ret ?_) | (with_reducible refine b_exit ?_) | (with_reducible refine b_past (by decide) ?_)
      | (refine xr_do (v := ?_) (h' := ?_) (by exact rfl) ?_ ?_; rotate_left 2)
      | (refine xr_st (v := ?_) (h' := ?_) (by exact rfl) ?_ ?_; rotate_left 2)
      | (refine aw_ift (by decide) ?_ ?_
         · simp only [ev, Zb, reduceIte, Nat.reduceEqDiff, *])
      | (refine aw_iff (by decide) ?_ ?_
         · simp only [ev, Zb, reduceIte, Nat.reduceEqDiff, *])
      | (refine aw_if (b := ?_) (by decide) ?_ (fun hb => ?_) (fun hb => ?_)
         rotate_left 1
         · simp only [ev, Zb, reduceIte, Nat.reduceEqDiff, *]; rfl)
      | (refine r_ret (vs := ?_) ?_ ?_
         rotate_left 1
         · simp only [resV, ev, Zb, reduceIte, Nat.reduceEqDiff, Zj, *]; rfl)
      )
    refine aw_for [0, 1] (fun k T h' => h' = h ∧ T 5 = .int .i64 0) 0 (k0 := 0) (Nat.zero_le _) ⟨rfl, rfl⟩ ?_
    rintro k T h' hk hR ⟨rfl, h11⟩
    have h1 : decide ((0 : Int) < ((0 : Nat) : Int)) = false := rfl
    simp only [Z37, Z38, Z39, implies_true, and_true, stp, ev, Zb, Z2e, Z1z, Zk, Zl, reduceIte, Nat.reduceEqDiff, Zj, Zz, Zu, Z16, Z1a, Zm, Zp, Zo, Zd, Zx, Z2b, Z2x, Z1g, Z17, Zq, Zn, Zv, Z2p, Z2f, Z2o, Z2d, Z2g, Z1c, Z1b, Z2i, Z2n, Z2h, Z2j, Z2k, Z2l, Z2m, Z31, Z8, Z5, Z13, Zy] at hR
    repeat' (first
      | ((with_reducible refine eq_go ?_); simp only [stp, ev, Zb, Z2e, Z1z, Zk, Zl, reduceIte, Nat.reduceEqDiff, Zj, Zz, Zu, Z16, Z1a, Zm, Zp, Zo, Zd, Zx, Z2b, Z2x, Z1g, Z17, Zq, Zn, Zv, Z2p, Z2f, Z2o, Z2d, Z2g, Z1c, Z1b, Z2i, Z2n, Z2h, Z2j, Z2k, Z2l, Z2m, Z31, Z8, Z5, Z13, Zy, stv, vcs, fldA, idxA, blt, lenV, Z10, Z3, Z2, Zf, Zg, Ze, Z1, Z0, Z14, Zw, Zh, Zr, Z33, Z15, Z7, Zc, Z6, Z3, Z2, Zf, Zi, Nat.reduceAdd, Nat.reduceMul, Nat.reduceLeDiff, Z11, Z12, Z1y, Z1h, Z2c, Z23, Z28, Z27, Z26, Z25, Z24, Z1m, Z1l, Z1k, Z1j, Z1i, Z1w, Z1v, Z1u, Z1t, Z1s, Z32, Z2y, Z2q, Z2r, Z2s, Z20, Z1q, Z1r, Z2z, Z2t, Z21, Z22, splice, Za, Z9, Z1, Z0, Z19, Zt, Zs, Z18, newB, vcs, Z30, Z2v, Z1x, Z29, Z1n, Z2u, Z1o, Z1f, Z1p, Z1d, Z1e, Ty.sz3, Ty.zc3, Ty.by3, Ty.sz56, Ty.sl56, Ty.zc56, Ty.by56, Ty.sz77, Ty.zc77, Ty.by77, Ty.fl77_0, Ty.fl77_1, Ty.fl77_2, Ty.fl77_3, Ty.fl77_4, Ty.fl77_5, *]; rfl)
      | (with_reducible refine aw_then ?_) | (with_reducible refine aw_skip ?_) | (with_reducible refine aw_ret ?_) | (with_reducible refine aw_exit ?_) | (with_reducible refine aw_block ?_) | (with_reducible refine xr_reg (by decide +kernel) ?_)
      | (with_reducible refine xr_nil ?_) | (with_reducible refine k_norm ?_) | (with_reducible refine k_ret ?_) | (with_reducible refine k_exit ?_) | (with_reducible refine b_norm ?_) | (with_reducible refine b_ret ?_) | (with_reducible refine b_exit ?_) | (with_reducible refine b_past (by decide) ?_)
      | (refine xr_do (v := ?_) (h' := ?_) (by exact rfl) ?_ ?_; rotate_left 2)
      | (refine xr_st (v := ?_) (h' := ?_) (by exact rfl) ?_ ?_; rotate_left 2)
      | (refine aw_ift (by decide) ?_ ?_
         · simp only [ev, Zb, reduceIte, Nat.reduceEqDiff, *])
      | (refine aw_iff (by decide) ?_ ?_
         · simp only [ev, Zb, reduceIte, Nat.reduceEqDiff, *])
      | (refine aw_if (b := ?_) (by decide) ?_ (fun hb => ?_) (fun hb => ?_)
         rotate_left 1
         · simp only [ev, Zb, reduceIte, Nat.reduceEqDiff, *]; rfl)
      | (refine r_ret (vs := ?_) ?_ ?_
         rotate_left 1
         · simp only [resV, ev, Zb, reduceIte, Nat.reduceEqDiff, Zj, *]; rfl)
      )
    exact ⟨by simp [oneOf], rfl⟩
  simp only [Z11]
  have hlm : cs.length = (marksC s (n * 6)).length := by rw [Z34, hl]
  refine Z36 Try.func102 rfl Try.ntmps102 (by simp) (by dsimp only [Try.f102]) ?_
  repeat' (first
    | ((with_reducible refine eq_go ?_); simp only [stp, ev, Zb, Z2e, Z1z, Zk, Zl, reduceIte, Nat.reduceEqDiff, Zj, Zz, Zu, Z16, Z1a, Zm, Zp, Zo, Zd, Zx, Z2b, Z2x, Z1g, Z17, Zq, Zn, Zv, Z2p, Z2f, Z2o, Z2d, Z2g, Z1c, Z1b, Z2i, Z2n, Z2h, Z2j, Z2k, Z2l, Z2m, Z31, Z8, Z5, Z13, Zy, stv, vcs, fldA, idxA, blt, lenV, Z10, Z3, Z2, Zf, Zg, Ze, Z1, Z0, Z14, Zw, Zh, Zr, Z33, Z15, Z7, Zc, Z6, Z3, Z2, Zf, Zi, Nat.reduceAdd, Nat.reduceMul, Nat.reduceLeDiff, Z11, Z12, Z1y, Z1h, Z2c, Z23, Z28, Z27, Z26, Z25, Z24, Z1m, Z1l, Z1k, Z1j, Z1i, Z1w, Z1v, Z1u, Z1t, Z1s, Z32, Z2y, Z2q, Z2r, Z2s, Z20, Z1q, Z1r, Z2z, Z2t, Z21, Z22, splice, Za, Z9, Z1, Z0, Z19, Zt, Zs, Z18, newB, vcs, Z30, Z2v, Z1x, Z29, Z1n, Z2u, Z1o, Z1f, Z1p, Z1d, Z1e, Ty.sz3, Ty.zc3, Ty.by3, Ty.sz56, Ty.sl56, Ty.zc56, Ty.by56, Ty.sz77, Ty.zc77, Ty.by77, Ty.fl77_0, Ty.fl77_1, Ty.fl77_2, Ty.fl77_3, Ty.fl77_4, Ty.fl77_5, *]; rfl)
    | (with_reducible refine aw_then ?_) | (with_reducible refine aw_skip ?_) | (with_reducible refine aw_ret ?_) | (with_reducible refine aw_exit ?_) | (with_reducible refine aw_block ?_) | (with_reducible refine xr_reg (by decide +kernel) ?_)
    | (with_reducible refine xr_nil ?_) | (with_reducible refine k_norm ?_) | (with_reducible refine k_ret ?_) | (with_reducible refine k_exit ?_) | (with_reducible refine b_norm ?_) | (with_reducible refine b_ret ?_) | (with_reducible refine b_exit ?_) | (with_reducible refine b_past (by decide) ?_)
    | (refine xr_do (v := ?_) (h' := ?_) (by exact rfl) ?_ ?_; rotate_left 2)
    | (refine xr_st (v := ?_) (h' := ?_) (by exact rfl) ?_ ?_; rotate_left 2)
    | (refine aw_ift (by decide) ?_ ?_
       · simp only [ev, Zb, reduceIte, Nat.reduceEqDiff, *])
    | (refine aw_iff (by decide) ?_ ?_
       · simp only [ev, Zb, reduceIte, Nat.reduceEqDiff, *])
    | (refine aw_if (b := ?_) (by decide) ?_ (fun hb => ?_) (fun hb => ?_)
       rotate_left 1
       · simp only [ev, Zb, reduceIte, Nat.reduceEqDiff, *]; rfl)
    | (refine r_ret (vs := ?_) ?_ ?_
       rotate_left 1
       · simp only [resV, ev, Zb, reduceIte, Nat.reduceEqDiff, Zj, *]; rfl)
    )
  refine aw_for [0] (fun k T h' => h' = h.set id ⟨2, 6, mixC cs (marksC s (n * 6)) (k * 6)⟩ ∧ T 5 = .int .i64 k ∧ T 1 = .int .i64 (s + ((k * 6 : Nat) : Int))) n (k0 := 0) (Nat.zero_le _) ⟨?_, rfl, ?_⟩ ?_
  · rw [Nat.zero_mul, mixC_zero, set_self hb]
  · simp [Zb, argT]
  rintro k T h' hk hR ⟨rfl, h11, h12⟩
  simp only [Z37, Z38, Z39, implies_true, and_true, stp, ev, Zb, Z2e, Z1z, Zk, Zl, reduceIte, Nat.reduceEqDiff, Zj, Zz, Zu, Z16, Z1a, Zm, Zp, Zo, Zd, Zx, Z2b, Z2x, Z1g, Z17, Zq, Zn, Zv, Z2p, Z2f, Z2o, Z2d, Z2g, Z1c, Z1b, Z2i, Z2n, Z2h, Z2j, Z2k, Z2l, Z2m, Z31, Z8, Z5, Z13, Zy] at hR
  rcases Nat.lt_or_ge k n with hkn | hkn
  · have h1 : (k : Int) < n := by omega
    have hset0 : setCs (h.set id ⟨2, 6, mixC cs (marksC s (n * 6)) (k * 6)⟩) id (k * 6) [.int .i64 (s + ((k * 6 : Nat) : Int))] = some (h.set id ⟨2, 6, mixC cs (marksC s (n * 6)) (k * 6 + 1)⟩) := set_mix hb hlm (marksC_get s (by omega))
    have hset1 : setCs (h.set id ⟨2, 6, mixC cs (marksC s (n * 6)) (k * 6 + 1)⟩) id (k * 6 + 1) [.int .i64 (s + ((k * 6 + 1 : Nat) : Int))] = some (h.set id ⟨2, 6, mixC cs (marksC s (n * 6)) (k * 6 + 2)⟩) := set_mix hb hlm (marksC_get s (by omega))
    have hset2 : setCs (h.set id ⟨2, 6, mixC cs (marksC s (n * 6)) (k * 6 + 2)⟩) id (k * 6 + 2) [.int .i64 (s + ((k * 6 + 2 : Nat) : Int))] = some (h.set id ⟨2, 6, mixC cs (marksC s (n * 6)) (k * 6 + 3)⟩) := set_mix hb hlm (marksC_get s (by omega))
    have hset3 : setCs (h.set id ⟨2, 6, mixC cs (marksC s (n * 6)) (k * 6 + 3)⟩) id (k * 6 + 3) [.int .i64 (s + ((k * 6 + 3 : Nat) : Int))] = some (h.set id ⟨2, 6, mixC cs (marksC s (n * 6)) (k * 6 + 4)⟩) := set_mix hb hlm (marksC_get s (by omega))
    have hset4 : setCs (h.set id ⟨2, 6, mixC cs (marksC s (n * 6)) (k * 6 + 4)⟩) id (k * 6 + 4) [.int .i64 (s + ((k * 6 + 4 : Nat) : Int))] = some (h.set id ⟨2, 6, mixC cs (marksC s (n * 6)) (k * 6 + 5)⟩) := set_mix hb hlm (marksC_get s (by omega))
    have hset5 : setCs (h.set id ⟨2, 6, mixC cs (marksC s (n * 6)) (k * 6 + 5)⟩) id (k * 6 + 5) [.int .i64 (s + ((k * 6 + 5 : Nat) : Int))] = some (h.set id ⟨2, 6, mixC cs (marksC s (n * 6)) (k * 6 + 6)⟩) := set_mix hb hlm (marksC_get s (by omega))
    have hw0 : IntKind.i64.wrap (s + ((k * 6 : Nat) : Int) + 1) = s + ((k * 6 + 1 : Nat) : Int) := by rw [wrap_id (by omega)]; omega
    have hw1 : IntKind.i64.wrap (s + ((k * 6 + 1 : Nat) : Int) + 1) = s + ((k * 6 + 2 : Nat) : Int) := by rw [wrap_id (by omega)]; omega
    have hw2 : IntKind.i64.wrap (s + ((k * 6 + 2 : Nat) : Int) + 1) = s + ((k * 6 + 3 : Nat) : Int) := by rw [wrap_id (by omega)]; omega
    have hw3 : IntKind.i64.wrap (s + ((k * 6 + 3 : Nat) : Int) + 1) = s + ((k * 6 + 4 : Nat) : Int) := by rw [wrap_id (by omega)]; omega
    have hw4 : IntKind.i64.wrap (s + ((k * 6 + 4 : Nat) : Int) + 1) = s + ((k * 6 + 5 : Nat) : Int) := by rw [wrap_id (by omega)]; omega
    have hw5 : IntKind.i64.wrap (s + ((k * 6 + 5 : Nat) : Int) + 1) = s + ((k * 6 + 6 : Nat) : Int) := by rw [wrap_id (by omega)]; omega
    have hwk : IntKind.i64.wrap ((k : Int) + 1) = ((k + 1 : Nat) : Int) := by rw [wrap_id (by omega)]; omega
    repeat' (first
      | ((with_reducible refine eq_go ?_); simp only [stp, ev, Zb, Z2e, Z1z, Zk, Zl, reduceIte, Nat.reduceEqDiff, Zj, Zz, Zu, Z16, Z1a, Zm, Zp, Zo, Zd, Zx, Z2b, Z2x, Z1g, Z17, Zq, Zn, Zv, Z2p, Z2f, Z2o, Z2d, Z2g, Z1c, Z1b, Z2i, Z2n, Z2h, Z2j, Z2k, Z2l, Z2m, Z31, Z8, Z5, Z13, Zy, stv, vcs, fldA, idxA, blt, lenV, Z10, Z3, Z2, Zf, Zg, Ze, Z1, Z0, Z14, Zw, Zh, Zr, Z33, Z15, Z7, Zc, Z6, Z3, Z2, Zf, Zi, Nat.reduceAdd, Nat.reduceMul, Nat.reduceLeDiff, Z11, Z12, Z1y, Z1h, Z2c, Z23, Z28, Z27, Z26, Z25, Z24, Z1m, Z1l, Z1k, Z1j, Z1i, Z1w, Z1v, Z1u, Z1t, Z1s, Z32, Z2y, Z2q, Z2r, Z2s, Z20, Z1q, Z1r, Z2z, Z2t, Z21, Z22, splice, Za, Z9, Z1, Z0, Z19, Zt, Zs, Z18, newB, vcs, Z30, Z2v, Z1x, Z29, Z1n, Z2u, Z1o, Z1f, Z1p, Z1d, Z1e, Ty.sz3, Ty.zc3, Ty.by3, Ty.sz56, Ty.sl56, Ty.zc56, Ty.by56, Ty.sz77, Ty.zc77, Ty.by77, Ty.fl77_0, Ty.fl77_1, Ty.fl77_2, Ty.fl77_3, Ty.fl77_4, Ty.fl77_5, *]; rfl)
      | (with_reducible refine aw_then ?_) | (with_reducible refine aw_skip ?_) | (with_reducible refine aw_ret ?_) | (with_reducible refine aw_exit ?_) | (with_reducible refine aw_block ?_) | (with_reducible refine xr_reg (by decide +kernel) ?_)
      | (with_reducible refine xr_nil ?_) | (with_reducible refine k_norm ?_) | (with_reducible refine k_ret ?_) | (with_reducible refine k_exit ?_) | (with_reducible refine b_norm ?_) | (with_reducible refine b_ret ?_) | (with_reducible refine b_exit ?_) | (with_reducible refine b_past (by decide) ?_)
      | (refine xr_do (v := ?_) (h' := ?_) (by exact rfl) ?_ ?_; rotate_left 2)
      | (refine xr_st (v := ?_) (h' := ?_) (by exact rfl) ?_ ?_; rotate_left 2)
      | (refine aw_ift (by decide) ?_ ?_
         · simp only [ev, Zb, reduceIte, Nat.reduceEqDiff, *])
      | (refine aw_iff (by decide) ?_ ?_
         · simp only [ev, Zb, reduceIte, Nat.reduceEqDiff, *])
      | (refine aw_if (b := ?_) (by decide) ?_ (fun hb => ?_) (fun hb => ?_)
         rotate_left 1
         · simp only [ev, Zb, reduceIte, Nat.reduceEqDiff, *]; rfl)
      | (refine r_ret (vs := ?_) ?_ ?_
         rotate_left 1
         · simp only [resV, ev, Zb, reduceIte, Nat.reduceEqDiff, Zj, *]; rfl)
      )
    refine ⟨by first | assumption | omega, ?_, ?_⟩
    · simp only [Z37, Z38, Z39, implies_true, and_true, Z2b, stp, ev, Zb, Z2e, Z1z, Zk, Zl, reduceIte, Nat.reduceEqDiff, Zj, Zz, Zu, Z16, Z1a, Zm, Zp, Zo, Zd, Zx, Z2b, Z2x, Z1g, Z17, Zq, Zn, Zv, Z2p, Z2f, Z2o, Z2d, Z2g, Z1c, Z1b, Z2i, Z2n, Z2h, Z2j, Z2k, Z2l, Z2m, Z31, Z8, Z5, Z13, Zy, *]
    have e6 : (k + 1) * 6 = k * 6 + 6 := by omega
    rw [e6]
    exact ⟨rfl, by simp only [Zb, reduceIte, Nat.reduceEqDiff], by simp only [Zb, reduceIte, Nat.reduceEqDiff]⟩
  · have h1 : ¬ (k : Int) < n := by omega
    obtain rfl : k = n := by omega
    repeat' (first
      | ((with_reducible refine eq_go ?_); simp only [stp, ev, Zb, Z2e, Z1z, Zk, Zl, reduceIte, Nat.reduceEqDiff, Zj, Zz, Zu, Z16, Z1a, Zm, Zp, Zo, Zd, Zx, Z2b, Z2x, Z1g, Z17, Zq, Zn, Zv, Z2p, Z2f, Z2o, Z2d, Z2g, Z1c, Z1b, Z2i, Z2n, Z2h, Z2j, Z2k, Z2l, Z2m, Z31, Z8, Z5, Z13, Zy, stv, vcs, fldA, idxA, blt, lenV, Z10, Z3, Z2, Zf, Zg, Ze, Z1, Z0, Z14, Zw, Zh, Zr, Z33, Z15, Z7, Zc, Z6, Z3, Z2, Zf, Zi, Nat.reduceAdd, Nat.reduceMul, Nat.reduceLeDiff, Z11, Z12, Z1y, Z1h, Z2c, Z23, Z28, Z27, Z26, Z25, Z24, Z1m, Z1l, Z1k, Z1j, Z1i, Z1w, Z1v, Z1u, Z1t, Z1s, Z32, Z2y, Z2q, Z2r, Z2s, Z20, Z1q, Z1r, Z2z, Z2t, Z21, Z22, splice, Za, Z9, Z1, Z0, Z19, Zt, Zs, Z18, newB, vcs, Z30, Z2v, Z1x, Z29, Z1n, Z2u, Z1o, Z1f, Z1p, Z1d, Z1e, Ty.sz3, Ty.zc3, Ty.by3, Ty.sz56, Ty.sl56, Ty.zc56, Ty.by56, Ty.sz77, Ty.zc77, Ty.by77, Ty.fl77_0, Ty.fl77_1, Ty.fl77_2, Ty.fl77_3, Ty.fl77_4, Ty.fl77_5, *]; rfl)
      | (with_reducible refine aw_then ?_) | (with_reducible refine aw_skip ?_) | (with_reducible refine aw_ret ?_) | (with_reducible refine aw_exit ?_) | (with_reducible refine aw_block ?_) | (with_reducible refine xr_reg (by decide +kernel) ?_)
      | (with_reducible refine xr_nil ?_) | (with_reducible refine k_norm ?_) | (with_reducible refine k_ret ?_) | (with_reducible refine k_exit ?_) | (with_reducible refine b_norm ?_) | (with_reducible refine b_ret ?_) | (with_reducible refine b_exit ?_) | (with_reducible refine b_past (by decide) ?_)
      | (refine xr_do (v := ?_) (h' := ?_) (by exact rfl) ?_ ?_; rotate_left 2)
      | (refine xr_st (v := ?_) (h' := ?_) (by exact rfl) ?_ ?_; rotate_left 2)
      | (refine aw_ift (by decide) ?_ ?_
         · simp only [ev, Zb, reduceIte, Nat.reduceEqDiff, *])
      | (refine aw_iff (by decide) ?_ ?_
         · simp only [ev, Zb, reduceIte, Nat.reduceEqDiff, *])
      | (refine aw_if (b := ?_) (by decide) ?_ (fun hb => ?_) (fun hb => ?_)
         rotate_left 1
         · simp only [ev, Zb, reduceIte, Nat.reduceEqDiff, *]; rfl)
      | (refine r_ret (vs := ?_) ?_ ?_
         rotate_left 1
         · simp only [resV, ev, Zb, reduceIte, Nat.reduceEqDiff, Zj, *]; rfl)
      )
    exact ⟨rfl, by rw [mixC_all hlm (by rw [Z34]; omega)]⟩

theorem heldItemS_ok (n : Nat) (s : Int) (v : Value) (h : Heap) (ho : Own h v 6 (marksC s (n * 6)) n) (hn : n ≤ 1048576) (hs : 0 ≤ s ∧ s ≤ 100000000) :
    ACalls Try.prog 0 103 #[v, .int .i64 s] h fun v' h' => v' = .int .i64 (s + ((n * 6 : Nat) : Int)) ∧ h' = h := by
  rcases ho with ⟨rfl, rfl, _⟩ | ⟨id, sp, c, rfl, hc, hl, hb⟩
  · skip
    refine Z36 Try.func103 rfl Try.ntmps103 (by simp) (by dsimp only [Try.f103]) ?_
    repeat' (first
      | ((with_reducible refine eq_go ?_); simp only [stp, ev, Zb, Z2e, Z1z, Zk, Zl, reduceIte, Nat.reduceEqDiff, Zj, Zz, Zu, Z16, Z1a, Zm, Zp, Zo, Zd, Zx, Z2b, Z2x, Z1g, Z17, Zq, Zn, Zv, Z2p, Z2f, Z2o, Z2d, Z2g, Z1c, Z1b, Z2i, Z2n, Z2h, Z2j, Z2k, Z2l, Z2m, Z31, Z8, Z5, Z13, Zy, ldv, fldA, idxA, blt, lenV, Z10, Z3, Z2, Zf, Zg, Ze, Z1, Z0, Z14, Zw, Zh, Zr, Z33, Z15, Z7, Zc, Z6, Z3, Z2, Zf, Zi, Nat.reduceAdd, Nat.reduceMul, Nat.reduceLeDiff, Z11, Z12, Z1y, Z1h, Z2c, Z23, Z28, Z27, Z26, Z25, Z24, Z1m, Z1l, Z1k, Z1j, Z1i, Z1w, Z1v, Z1u, Z1t, Z1s, Z32, Z2y, Z2q, Z2r, Z2s, Z20, Z1q, Z1r, Z2z, Z2t, Z21, Z22, splice, Za, Z9, Z1, Z0, Z19, Zt, Zs, Z18, newB, vcs, Z30, Z2v, Z1x, Z29, Z1n, Z2u, Z1o, Z1f, Z1p, Z1d, Z1e, Ty.ld3, Ty.sz3, Ty.zc3, Ty.by3, Ty.ld56, Ty.sz56, Ty.sl56, Ty.zc56, Ty.by56, Ty.ld77, Ty.sz77, Ty.zc77, Ty.by77, Ty.fl77_0, Ty.fl77_1, Ty.fl77_2, Ty.fl77_3, Ty.fl77_4, Ty.fl77_5, *]; rfl)
      | (with_reducible refine aw_then ?_) | (with_reducible refine aw_skip ?_) | (with_reducible refine aw_ret ?_) | (with_reducible refine aw_exit ?_) | (with_reducible refine aw_block ?_) | (with_reducible refine xr_reg (by decide +kernel) ?_)
      | (with_reducible refine xr_nil ?_) | (with_reducible refine k_norm ?_) | (with_reducible refine k_ret ?_) | (with_reducible refine k_exit ?_) | (with_reducible refine b_norm ?_) | (with_reducible refine b_ret ?_) | (with_reducible refine b_exit ?_) | (with_reducible refine b_past (by decide) ?_)
      | (refine xr_do (v := ?_) (h' := ?_) (by exact rfl) ?_ ?_; rotate_left 2)
      | (refine xr_st (v := ?_) (h' := ?_) (by exact rfl) ?_ ?_; rotate_left 2)
      | (refine aw_ift (by decide) ?_ ?_
         · simp only [ev, Zb, reduceIte, Nat.reduceEqDiff, *])
      | (refine aw_iff (by decide) ?_ ?_
         · simp only [ev, Zb, reduceIte, Nat.reduceEqDiff, *])
      | (refine aw_if (b := ?_) (by decide) ?_ (fun hb => ?_) (fun hb => ?_)
         rotate_left 1
         · simp only [ev, Zb, reduceIte, Nat.reduceEqDiff, *]; rfl)
      | (refine r_ret (vs := ?_) ?_ ?_
         rotate_left 1
         · simp only [resV, ev, Zb, reduceIte, Nat.reduceEqDiff, Zj, *]; rfl)
      )
    refine aw_for [0, 1] (fun k T h' => h' = h ∧ T 5 = .int .i64 0) 0 (k0 := 0) (Nat.zero_le _) ⟨rfl, rfl⟩ ?_
    rintro k T h' hk hR ⟨rfl, h11⟩
    have h1 : decide ((0 : Int) < ((0 : Nat) : Int)) = false := rfl
    simp only [Z37, Z38, Z39, implies_true, and_true, stp, ev, Zb, Z2e, Z1z, Zk, Zl, reduceIte, Nat.reduceEqDiff, Zj, Zz, Zu, Z16, Z1a, Zm, Zp, Zo, Zd, Zx, Z2b, Z2x, Z1g, Z17, Zq, Zn, Zv, Z2p, Z2f, Z2o, Z2d, Z2g, Z1c, Z1b, Z2i, Z2n, Z2h, Z2j, Z2k, Z2l, Z2m, Z31, Z8, Z5, Z13, Zy] at hR
    repeat' (first
      | ((with_reducible refine eq_go ?_); simp only [stp, ev, Zb, Z2e, Z1z, Zk, Zl, reduceIte, Nat.reduceEqDiff, Zj, Zz, Zu, Z16, Z1a, Zm, Zp, Zo, Zd, Zx, Z2b, Z2x, Z1g, Z17, Zq, Zn, Zv, Z2p, Z2f, Z2o, Z2d, Z2g, Z1c, Z1b, Z2i, Z2n, Z2h, Z2j, Z2k, Z2l, Z2m, Z31, Z8, Z5, Z13, Zy, ldv, fldA, idxA, blt, lenV, Z10, Z3, Z2, Zf, Zg, Ze, Z1, Z0, Z14, Zw, Zh, Zr, Z33, Z15, Z7, Zc, Z6, Z3, Z2, Zf, Zi, Nat.reduceAdd, Nat.reduceMul, Nat.reduceLeDiff, Z11, Z12, Z1y, Z1h, Z2c, Z23, Z28, Z27, Z26, Z25, Z24, Z1m, Z1l, Z1k, Z1j, Z1i, Z1w, Z1v, Z1u, Z1t, Z1s, Z32, Z2y, Z2q, Z2r, Z2s, Z20, Z1q, Z1r, Z2z, Z2t, Z21, Z22, splice, Za, Z9, Z1, Z0, Z19, Zt, Zs, Z18, newB, vcs, Z30, Z2v, Z1x, Z29, Z1n, Z2u, Z1o, Z1f, Z1p, Z1d, Z1e, Ty.ld3, Ty.sz3, Ty.zc3, Ty.by3, Ty.ld56, Ty.sz56, Ty.sl56, Ty.zc56, Ty.by56, Ty.ld77, Ty.sz77, Ty.zc77, Ty.by77, Ty.fl77_0, Ty.fl77_1, Ty.fl77_2, Ty.fl77_3, Ty.fl77_4, Ty.fl77_5, *]; rfl)
      | (with_reducible refine aw_then ?_) | (with_reducible refine aw_skip ?_) | (with_reducible refine aw_ret ?_) | (with_reducible refine aw_exit ?_) | (with_reducible refine aw_block ?_) | (with_reducible refine xr_reg (by decide +kernel) ?_)
      | (with_reducible refine xr_nil ?_) | (with_reducible refine k_norm ?_) | (with_reducible refine k_ret ?_) | (with_reducible refine k_exit ?_) | (with_reducible refine b_norm ?_) | (with_reducible refine b_ret ?_) | (with_reducible refine b_exit ?_) | (with_reducible refine b_past (by decide) ?_)
      | (refine xr_do (v := ?_) (h' := ?_) (by exact rfl) ?_ ?_; rotate_left 2)
      | (refine xr_st (v := ?_) (h' := ?_) (by exact rfl) ?_ ?_; rotate_left 2)
      | (refine aw_ift (by decide) ?_ ?_
         · simp only [ev, Zb, reduceIte, Nat.reduceEqDiff, *])
      | (refine aw_iff (by decide) ?_ ?_
         · simp only [ev, Zb, reduceIte, Nat.reduceEqDiff, *])
      | (refine aw_if (b := ?_) (by decide) ?_ (fun hb => ?_) (fun hb => ?_)
         rotate_left 1
         · simp only [ev, Zb, reduceIte, Nat.reduceEqDiff, *]; rfl)
      | (refine r_ret (vs := ?_) ?_ ?_
         rotate_left 1
         · simp only [resV, ev, Zb, reduceIte, Nat.reduceEqDiff, Zj, *]; rfl)
      )
    exact ⟨by simp [oneOf], rfl⟩
  refine Z36 Try.func103 rfl Try.ntmps103 (by simp) (by dsimp only [Try.f103]) ?_
  repeat' (first
    | ((with_reducible refine eq_go ?_); simp only [stp, ev, Zb, Z2e, Z1z, Zk, Zl, reduceIte, Nat.reduceEqDiff, Zj, Zz, Zu, Z16, Z1a, Zm, Zp, Zo, Zd, Zx, Z2b, Z2x, Z1g, Z17, Zq, Zn, Zv, Z2p, Z2f, Z2o, Z2d, Z2g, Z1c, Z1b, Z2i, Z2n, Z2h, Z2j, Z2k, Z2l, Z2m, Z31, Z8, Z5, Z13, Zy, ldv, fldA, idxA, blt, lenV, Z10, Z3, Z2, Zf, Zg, Ze, Z1, Z0, Z14, Zw, Zh, Zr, Z33, Z15, Z7, Zc, Z6, Z3, Z2, Zf, Zi, Nat.reduceAdd, Nat.reduceMul, Nat.reduceLeDiff, Z11, Z12, Z1y, Z1h, Z2c, Z23, Z28, Z27, Z26, Z25, Z24, Z1m, Z1l, Z1k, Z1j, Z1i, Z1w, Z1v, Z1u, Z1t, Z1s, Z32, Z2y, Z2q, Z2r, Z2s, Z20, Z1q, Z1r, Z2z, Z2t, Z21, Z22, splice, Za, Z9, Z1, Z0, Z19, Zt, Zs, Z18, newB, vcs, Z30, Z2v, Z1x, Z29, Z1n, Z2u, Z1o, Z1f, Z1p, Z1d, Z1e, Ty.ld3, Ty.sz3, Ty.zc3, Ty.by3, Ty.ld56, Ty.sz56, Ty.sl56, Ty.zc56, Ty.by56, Ty.ld77, Ty.sz77, Ty.zc77, Ty.by77, Ty.fl77_0, Ty.fl77_1, Ty.fl77_2, Ty.fl77_3, Ty.fl77_4, Ty.fl77_5, *]; rfl)
    | (with_reducible refine aw_then ?_) | (with_reducible refine aw_skip ?_) | (with_reducible refine aw_ret ?_) | (with_reducible refine aw_exit ?_) | (with_reducible refine aw_block ?_) | (with_reducible refine xr_reg (by decide +kernel) ?_)
    | (with_reducible refine xr_nil ?_) | (with_reducible refine k_norm ?_) | (with_reducible refine k_ret ?_) | (with_reducible refine k_exit ?_) | (with_reducible refine b_norm ?_) | (with_reducible refine b_ret ?_) | (with_reducible refine b_exit ?_) | (with_reducible refine b_past (by decide) ?_)
    | (refine xr_do (v := ?_) (h' := ?_) (by exact rfl) ?_ ?_; rotate_left 2)
    | (refine xr_st (v := ?_) (h' := ?_) (by exact rfl) ?_ ?_; rotate_left 2)
    | (refine aw_ift (by decide) ?_ ?_
       · simp only [ev, Zb, reduceIte, Nat.reduceEqDiff, *])
    | (refine aw_iff (by decide) ?_ ?_
       · simp only [ev, Zb, reduceIte, Nat.reduceEqDiff, *])
    | (refine aw_if (b := ?_) (by decide) ?_ (fun hb => ?_) (fun hb => ?_)
       rotate_left 1
       · simp only [ev, Zb, reduceIte, Nat.reduceEqDiff, *]; rfl)
    | (refine r_ret (vs := ?_) ?_ ?_
       rotate_left 1
       · simp only [resV, ev, Zb, reduceIte, Nat.reduceEqDiff, Zj, *]; rfl)
    )
  refine aw_for [0] (fun k T h' => h' = h ∧ T 5 = .int .i64 k ∧ T 1 = .int .i64 (s + ((k * 6 : Nat) : Int))) n (k0 := 0) (Nat.zero_le _) ⟨rfl, rfl, ?_⟩ ?_
  · simp [Zb, argT]
  rintro k T h' hk hR ⟨rfl, h11, h12⟩
  simp only [Z37, Z38, Z39, implies_true, and_true, stp, ev, Zb, Z2e, Z1z, Zk, Zl, reduceIte, Nat.reduceEqDiff, Zj, Zz, Zu, Z16, Z1a, Zm, Zp, Zo, Zd, Zx, Z2b, Z2x, Z1g, Z17, Zq, Zn, Zv, Z2p, Z2f, Z2o, Z2d, Z2g, Z1c, Z1b, Z2i, Z2n, Z2h, Z2j, Z2k, Z2l, Z2m, Z31, Z8, Z5, Z13, Zy] at hR
  rcases Nat.lt_or_ge k n with hkn | hkn
  · have h1 : (k : Int) < n := by omega
    have hld0 : getC h' id (k * 6) = some (.int .i64 (s + ((k * 6 : Nat) : Int))) := load_cell hb (marksC_get s (by omega))
    have hld1 : getC h' id (k * 6 + 1) = some (.int .i64 (s + ((k * 6 + 1 : Nat) : Int))) := load_cell hb (marksC_get s (by omega))
    have hld2 : getC h' id (k * 6 + 2) = some (.int .i64 (s + ((k * 6 + 2 : Nat) : Int))) := load_cell hb (marksC_get s (by omega))
    have hld3 : getC h' id (k * 6 + 3) = some (.int .i64 (s + ((k * 6 + 3 : Nat) : Int))) := load_cell hb (marksC_get s (by omega))
    have hld4 : getC h' id (k * 6 + 4) = some (.int .i64 (s + ((k * 6 + 4 : Nat) : Int))) := load_cell hb (marksC_get s (by omega))
    have hld5 : getC h' id (k * 6 + 5) = some (.int .i64 (s + ((k * 6 + 5 : Nat) : Int))) := load_cell hb (marksC_get s (by omega))
    have hw0 : IntKind.i64.wrap (s + ((k * 6 : Nat) : Int) + 1) = s + ((k * 6 + 1 : Nat) : Int) := by rw [wrap_id (by omega)]; omega
    have hw1 : IntKind.i64.wrap (s + ((k * 6 + 1 : Nat) : Int) + 1) = s + ((k * 6 + 2 : Nat) : Int) := by rw [wrap_id (by omega)]; omega
    have hw2 : IntKind.i64.wrap (s + ((k * 6 + 2 : Nat) : Int) + 1) = s + ((k * 6 + 3 : Nat) : Int) := by rw [wrap_id (by omega)]; omega
    have hw3 : IntKind.i64.wrap (s + ((k * 6 + 3 : Nat) : Int) + 1) = s + ((k * 6 + 4 : Nat) : Int) := by rw [wrap_id (by omega)]; omega
    have hw4 : IntKind.i64.wrap (s + ((k * 6 + 4 : Nat) : Int) + 1) = s + ((k * 6 + 5 : Nat) : Int) := by rw [wrap_id (by omega)]; omega
    have hw5 : IntKind.i64.wrap (s + ((k * 6 + 5 : Nat) : Int) + 1) = s + ((k * 6 + 6 : Nat) : Int) := by rw [wrap_id (by omega)]; omega
    have hwk : IntKind.i64.wrap ((k : Int) + 1) = ((k + 1 : Nat) : Int) := by rw [wrap_id (by omega)]; omega
    repeat' (first
      | ((with_reducible refine eq_go ?_); simp only [stp, ev, Zb, Z2e, Z1z, Zk, Zl, reduceIte, Nat.reduceEqDiff, Zj, Zz, Zu, Z16, Z1a, Zm, Zp, Zo, Zd, Zx, Z2b, Z2x, Z1g, Z17, Zq, Zn, Zv, Z2p, Z2f, Z2o, Z2d, Z2g, Z1c, Z1b, Z2i, Z2n, Z2h, Z2j, Z2k, Z2l, Z2m, Z31, Z8, Z5, Z13, Zy, ldv, fldA, idxA, blt, lenV, Z10, Z3, Z2, Zf, Zg, Ze, Z1, Z0, Z14, Zw, Zh, Zr, Z33, Z15, Z7, Zc, Z6, Z3, Z2, Zf, Zi, Nat.reduceAdd, Nat.reduceMul, Nat.reduceLeDiff, Z11, Z12, Z1y, Z1h, Z2c, Z23, Z28, Z27, Z26, Z25, Z24, Z1m, Z1l, Z1k, Z1j, Z1i, Z1w, Z1v, Z1u, Z1t, Z1s, Z32, Z2y, Z2q, Z2r, Z2s, Z20, Z1q, Z1r, Z2z, Z2t, Z21, Z22, splice, Za, Z9, Z1, Z0, Z19, Zt, Zs, Z18, newB, vcs, Z30, Z2v, Z1x, Z29, Z1n, Z2u, Z1o, Z1f, Z1p, Z1d, Z1e, Ty.ld3, Ty.sz3, Ty.zc3, Ty.by3, Ty.ld56, Ty.sz56, Ty.sl56, Ty.zc56, Ty.by56, Ty.ld77, Ty.sz77, Ty.zc77, Ty.by77, Ty.fl77_0, Ty.fl77_1, Ty.fl77_2, Ty.fl77_3, Ty.fl77_4, Ty.fl77_5, *]; rfl)
      | (with_reducible refine aw_then ?_) | (with_reducible refine aw_skip ?_) | (with_reducible refine aw_ret ?_) | (with_reducible refine aw_exit ?_) | (with_reducible refine aw_block ?_) | (with_reducible refine xr_reg (by decide +kernel) ?_)
      | (with_reducible refine xr_nil ?_) | (with_reducible refine k_norm ?_) | (with_reducible refine k_ret ?_) | (with_reducible refine k_exit ?_) | (with_reducible refine b_norm ?_) | (with_reducible refine b_ret ?_) | (with_reducible refine b_exit ?_) | (with_reducible refine b_past (by decide) ?_)
      | (refine xr_do (v := ?_) (h' := ?_) (by exact rfl) ?_ ?_; rotate_left 2)
      | (refine xr_st (v := ?_) (h' := ?_) (by exact rfl) ?_ ?_; rotate_left 2)
      | (refine aw_ift (by decide) ?_ ?_
         · simp only [ev, Zb, reduceIte, Nat.reduceEqDiff, *])
      | (refine aw_iff (by decide) ?_ ?_
         · simp only [ev, Zb, reduceIte, Nat.reduceEqDiff, *])
      | (refine aw_if (b := ?_) (by decide) ?_ (fun hb => ?_) (fun hb => ?_)
         rotate_left 1
         · simp only [ev, Zb, reduceIte, Nat.reduceEqDiff, *]; rfl)
      | (refine r_ret (vs := ?_) ?_ ?_
         rotate_left 1
         · simp only [resV, ev, Zb, reduceIte, Nat.reduceEqDiff, Zj, *]; rfl)
      )
    refine ⟨by first | assumption | omega, ?_, ?_⟩
    · simp only [Z37, Z38, Z39, implies_true, and_true, Z2b, stp, ev, Zb, Z2e, Z1z, Zk, Zl, reduceIte, Nat.reduceEqDiff, Zj, Zz, Zu, Z16, Z1a, Zm, Zp, Zo, Zd, Zx, Z2b, Z2x, Z1g, Z17, Zq, Zn, Zv, Z2p, Z2f, Z2o, Z2d, Z2g, Z1c, Z1b, Z2i, Z2n, Z2h, Z2j, Z2k, Z2l, Z2m, Z31, Z8, Z5, Z13, Zy, *]
    have e6 : (k + 1) * 6 = k * 6 + 6 := by omega
    rw [e6]
    exact ⟨rfl, by simp only [Zb, reduceIte, Nat.reduceEqDiff], by simp only [Zb, reduceIte, Nat.reduceEqDiff]⟩
  · have h1 : ¬ (k : Int) < n := by omega
    obtain rfl : k = n := by omega
    repeat' (first
      | ((with_reducible refine eq_go ?_); simp only [stp, ev, Zb, Z2e, Z1z, Zk, Zl, reduceIte, Nat.reduceEqDiff, Zj, Zz, Zu, Z16, Z1a, Zm, Zp, Zo, Zd, Zx, Z2b, Z2x, Z1g, Z17, Zq, Zn, Zv, Z2p, Z2f, Z2o, Z2d, Z2g, Z1c, Z1b, Z2i, Z2n, Z2h, Z2j, Z2k, Z2l, Z2m, Z31, Z8, Z5, Z13, Zy, ldv, fldA, idxA, blt, lenV, Z10, Z3, Z2, Zf, Zg, Ze, Z1, Z0, Z14, Zw, Zh, Zr, Z33, Z15, Z7, Zc, Z6, Z3, Z2, Zf, Zi, Nat.reduceAdd, Nat.reduceMul, Nat.reduceLeDiff, Z11, Z12, Z1y, Z1h, Z2c, Z23, Z28, Z27, Z26, Z25, Z24, Z1m, Z1l, Z1k, Z1j, Z1i, Z1w, Z1v, Z1u, Z1t, Z1s, Z32, Z2y, Z2q, Z2r, Z2s, Z20, Z1q, Z1r, Z2z, Z2t, Z21, Z22, splice, Za, Z9, Z1, Z0, Z19, Zt, Zs, Z18, newB, vcs, Z30, Z2v, Z1x, Z29, Z1n, Z2u, Z1o, Z1f, Z1p, Z1d, Z1e, Ty.ld3, Ty.sz3, Ty.zc3, Ty.by3, Ty.ld56, Ty.sz56, Ty.sl56, Ty.zc56, Ty.by56, Ty.ld77, Ty.sz77, Ty.zc77, Ty.by77, Ty.fl77_0, Ty.fl77_1, Ty.fl77_2, Ty.fl77_3, Ty.fl77_4, Ty.fl77_5, *]; rfl)
      | (with_reducible refine aw_then ?_) | (with_reducible refine aw_skip ?_) | (with_reducible refine aw_ret ?_) | (with_reducible refine aw_exit ?_) | (with_reducible refine aw_block ?_) | (with_reducible refine xr_reg (by decide +kernel) ?_)
      | (with_reducible refine xr_nil ?_) | (with_reducible refine k_norm ?_) | (with_reducible refine k_ret ?_) | (with_reducible refine k_exit ?_) | (with_reducible refine b_norm ?_) | (with_reducible refine b_ret ?_) | (with_reducible refine b_exit ?_) | (with_reducible refine b_past (by decide) ?_)
      | (refine xr_do (v := ?_) (h' := ?_) (by exact rfl) ?_ ?_; rotate_left 2)
      | (refine xr_st (v := ?_) (h' := ?_) (by exact rfl) ?_ ?_; rotate_left 2)
      | (refine aw_ift (by decide) ?_ ?_
         · simp only [ev, Zb, reduceIte, Nat.reduceEqDiff, *])
      | (refine aw_iff (by decide) ?_ ?_
         · simp only [ev, Zb, reduceIte, Nat.reduceEqDiff, *])
      | (refine aw_if (b := ?_) (by decide) ?_ (fun hb => ?_) (fun hb => ?_)
         rotate_left 1
         · simp only [ev, Zb, reduceIte, Nat.reduceEqDiff, *]; rfl)
      | (refine r_ret (vs := ?_) ?_ ?_
         rotate_left 1
         · simp only [resV, ev, Zb, reduceIte, Nat.reduceEqDiff, Zj, *]; rfl)
      )
    exact ⟨rfl, rfl⟩

theorem markDesk_ok (np ni : Nat) (cp ci : List Value) (now s : Int) (vp vi : Value) (h : Heap) (hp : Own h vp 1 cp np) (hi : Own h vi 6 ci ni) (hne : bid vp = none ∨ bid vi ≠ bid vp)
    (hn : np ≤ 1048576) (hn2 : ni ≤ 1048576) (hs : 0 ≤ s ∧ s ≤ 10000000) :
    ACalls Try.prog 0 48 #[.agg #[.int .i64 now, vp, vi], .int .i64 s] h
    fun v' h' => v' = .int .i64 (s + np + ((ni * 6 : Nat) : Int)) ∧ h' = mset (mset h vp ⟨2, 1, marksC s np⟩) vi ⟨2, 6, marksC (s + np) (ni * 6)⟩ ++ [⟨2, 1, [.int .i64 now, vp, vi]⟩] := by
  have hf := hp.flat
  have hf2 := hi.flat
  have hi' := hi.ne (b := ⟨2, 1, marksC s np⟩) hne
  have hlen : (mset h vp ⟨2, 1, marksC s np⟩).length = h.length := mset_length _ _
  have em := mset_old (b := ⟨2, 1, marksC s np⟩) hp
  have em2 := mset_old (b := ⟨2, 6, marksC (s + np) (ni * 6)⟩) hi'
  have hgl : ∀ o, getC (mset h vp ⟨2, 1, marksC s np⟩ ++ [⟨2, 1, [.int .i64 now, vp, vi]⟩]) h.length o = [.int .i64 now, vp, vi][o]? := by
    intro o; rw [← hlen, Z2y, Z2q]
  refine Z36 Try.func48 rfl Try.ntmps48 (by simp) (by dsimp only [Try.f48]) ?_
  repeat' (first
    | ((with_reducible refine eq_go ?_); simp only [stp, ev, Zb, Z2e, Z1z, Zk, Zl, reduceIte, Nat.reduceEqDiff, Zj, Zz, Zu, Z16, Z1a, Zm, Zp, Zo, Zd, Zx, Z2b, Z2x, Z1g, Z17, Zq, Zn, Zv, Z2p, Z2f, Z2o, Z2d, Z2g, Z1c, Z1b, Z2i, Z2n, Z2h, Z2j, Z2k, Z2l, Z2m, Z31, Z8, Z5, Z13, Zy, ldv, fldA, blt, lenV, Z10, Z3, Z2, Zf, Zg, Ze, Z1, Z0, Z14, Zw, Zh, Zr, Z33, Z15, Z7, Zc, Z6, Z3, Z2, Zf, Zi, Nat.reduceAdd, Nat.reduceMul, Nat.reduceLeDiff, Z11, Z12, Z1y, Z1h, Z2c, Z23, Z28, Z27, Z26, Z25, Z24, Z1m, Z1l, Z1k, Z1j, Z1i, Z1w, Z1v, Z1u, Z1t, Z1s, Z32, Z2y, Z2q, Z2r, Z2s, Z20, Z1q, Z1r, Z2z, Z2t, Z21, Z22, splice, Za, Z9, Z1, Z0, Z19, Zt, Zs, Z18, newB, vcs, Z30, Z2v, Z1x, Z29, Z1n, Z2u, Z1o, Z1f, Z1p, Z1d, Z1e, Ty.ld3, Ty.sz3, Ty.zc3, Ty.by3, Ty.ld24, Ty.sz24, Ty.sl24, Ty.zc24, Ty.by24, Ty.ld56, Ty.sz56, Ty.sl56, Ty.zc56, Ty.by56, Ty.ld58, Ty.sz58, Ty.zc58, Ty.by58, Ty.fl58_0, Ty.fl58_1, Ty.fl58_2, Ty.ld77, Ty.sz77, Ty.zc77, Ty.by77, Ty.fl77_0, Ty.fl77_1, Ty.fl77_2, Ty.fl77_3, Ty.fl77_4, Ty.fl77_5, Z0, Z1, *]; rfl)
    | (with_reducible refine aw_then ?_) | (with_reducible refine aw_skip ?_) | (with_reducible refine aw_ret ?_) | (with_reducible refine aw_exit ?_) | (with_reducible refine aw_block ?_) | (with_reducible refine xr_reg (by decide +kernel) ?_)
    | (with_reducible refine xr_nil ?_) | (with_reducible refine k_norm ?_) | (with_reducible refine k_ret ?_) | (with_reducible refine k_exit ?_) | (with_reducible refine b_norm ?_) | (with_reducible refine b_ret ?_) | (with_reducible refine b_exit ?_) | (with_reducible refine b_past (by decide) ?_)
    | (refine xr_cl (f := ?_) (fs := ?_) (cs := ?_) (args := ?_) (K := ?_) ?_ ?_ ?_ ?_ ?_
       rotate_left 5
       · simp only [ev]; rfl
       first
       | (· with_reducible exact Ty.ok22
          rotate_left 2
          refine Z2a 22 ?_
          rotate_right 2)
       | (· with_reducible exact Ty.ok102
          rotate_left 2
          refine Z2a 102 ?_
          rotate_right 2)
       )
    | (refine xr_do (v := ?_) (h' := ?_) (by exact rfl) ?_ ?_; rotate_left 2)
    | (refine xr_st (v := ?_) (h' := ?_) (by exact rfl) ?_ ?_; rotate_left 2)
    | (refine aw_ift (by decide) ?_ ?_
       · simp only [ev, Zb, reduceIte, Nat.reduceEqDiff, *])
    | (refine aw_iff (by decide) ?_ ?_
       · simp only [ev, Zb, reduceIte, Nat.reduceEqDiff, *])
    | (refine aw_if (b := ?_) (by decide) ?_ (fun hb => ?_) (fun hb => ?_)
       rotate_left 1
       · simp only [ev, Zb, reduceIte, Nat.reduceEqDiff, *]; rfl)
    | (refine r_ret (vs := ?_) ?_ ?_
       rotate_left 1
       · simp only [resV, ev, Zb, reduceIte, Nat.reduceEqDiff, Zj, *]; rfl)
    | (with_reducible refine markIntS_ok ?_ ?_ _ _ _ ?_ ?_ ?_
       rotate_left 2
       · first | assumption | exact Own.old (by assumption) _ | ((try (simp only [deskV, deskL, Z11, Z12, Z1y, Z1h, Za, Z9, Z7, Zc, Zd, Z6, Z3, Z2, Zf, Zi, Nat.reduceAdd, Zh])); first | exact Own.old (by assumption) _ | exact Own.nil _ | (refine Own.at ?_ ?_ (Z4 _); (exact rfl); first | exact ints_flen _ | exact items_flen _ | (simp only [Z34]; done) | (simp only [Z34]; omega)) | (refine Own.at0 ?_ ?_ (Z4 _); (exact rfl); first | exact ints_flen _ | exact items_flen _ | (simp only [Z34]; done) | (simp only [Z34]; omega)))
       · first | omega | (simp only [Z2]; omega)
       · first | omega | (simp only [Z2]; omega)
       )
    | (with_reducible refine markItemS_ok ?_ ?_ _ _ _ ?_ ?_ ?_
       rotate_left 2
       · first | assumption | exact Own.old (by assumption) _ | ((try (simp only [deskV, deskL, Z11, Z12, Z1y, Z1h, Za, Z9, Z7, Zc, Zd, Z6, Z3, Z2, Zf, Zi, Nat.reduceAdd, Zh])); first | exact Own.old (by assumption) _ | exact Own.nil _ | (refine Own.at ?_ ?_ (Z4 _); (exact rfl); first | exact ints_flen _ | exact items_flen _ | (simp only [Z34]; done) | (simp only [Z34]; omega)) | (refine Own.at0 ?_ ?_ (Z4 _); (exact rfl); first | exact ints_flen _ | exact items_flen _ | (simp only [Z34]; done) | (simp only [Z34]; omega)))
       · first | omega | (simp only [Z2]; omega)
       · first | omega | (simp only [Z2]; omega)
       )
    | ((with_reducible refine Z2w (n := 22) ?_); rintro _ _ ⟨rfl, hh⟩; replace hh := hh.symm; subst hh)
    | ((with_reducible refine Z2w (n := 102) ?_); rintro _ _ ⟨rfl, hh⟩; replace hh := hh.symm; subst hh)
    )
  exact ⟨rfl, rfl⟩

theorem heldDesk_ok (np ni : Nat) (now s : Int) (vp vi : Value) (h : Heap) (hp : Own h vp 1 (marksC s np) np) (hi : Own h vi 6 (marksC (s + np) (ni * 6)) ni)
    (hn : np ≤ 1048576) (hn2 : ni ≤ 1048576) (hs : 0 ≤ s ∧ s ≤ 10000000) :
    ACalls Try.prog 0 49 #[.agg #[.int .i64 now, vp, vi], .int .i64 s] h fun v' h' => v' = .int .i64 (s + np + ((ni * 6 : Nat) : Int)) ∧ h' = h := by
  refine acalls_pure (.inl rfl) ?_
  have hf := hp.flat
  have hf2 := hi.flat
  have d1 : decide (s + (np : Int) < 0) = false := decide_eq_false (by omega)
  have d2 : decide (s + (np : Int) + ((ni * 6 : Nat) : Int) < 0) = false := decide_eq_false (by omega)
  refine Z36 Try.func49 rfl Try.ntmps49 (by simp) (by dsimp only [Try.f49]) ?_
  repeat' (first
    | ((with_reducible refine eq_go ?_); simp only [stp, ev, Zb, Z2e, Z1z, Zk, Zl, reduceIte, Nat.reduceEqDiff, Zj, Zz, Zu, Z16, Z1a, Zm, Zp, Zo, Zd, Zx, Z2b, Z2x, Z1g, Z17, Zq, Zn, Zv, Z2p, Z2f, Z2o, Z2d, Z2g, Z1c, Z1b, Z2i, Z2n, Z2h, Z2j, Z2k, Z2l, Z2m, Z31, Z8, Z5, Z13, Zy, ldv, fldA, blt, lenV, Z10, Z3, Z2, Zf, Zg, Ze, Z1, Z0, Z14, Zw, Zh, Zr, Z33, Z15, Z7, Zc, Z6, Z3, Z2, Zf, Zi, Nat.reduceAdd, Nat.reduceMul, Nat.reduceLeDiff, Z11, Z12, Z1y, Z1h, Z2c, Z23, Z28, Z27, Z26, Z25, Z24, Z1m, Z1l, Z1k, Z1j, Z1i, Z1w, Z1v, Z1u, Z1t, Z1s, Z32, Z2y, Z2q, Z2r, Z2s, Z20, Z1q, Z1r, Z2z, Z2t, Z21, Z22, splice, Za, Z9, Z1, Z0, Z19, Zt, Zs, Z18, newB, vcs, Z30, Z2v, Z1x, Z29, Z1n, Z2u, Z1o, Z1f, Z1p, Z1d, Z1e, Ty.ld3, Ty.sz3, Ty.zc3, Ty.by3, Ty.ld24, Ty.sz24, Ty.sl24, Ty.zc24, Ty.by24, Ty.ld56, Ty.sz56, Ty.sl56, Ty.zc56, Ty.by56, Ty.ld58, Ty.sz58, Ty.zc58, Ty.by58, Ty.fl58_0, Ty.fl58_1, Ty.fl58_2, Ty.ld77, Ty.sz77, Ty.zc77, Ty.by77, Ty.fl77_0, Ty.fl77_1, Ty.fl77_2, Ty.fl77_3, Ty.fl77_4, Ty.fl77_5, *]; rfl)
    | (with_reducible refine aw_then ?_) | (with_reducible refine aw_skip ?_) | (with_reducible refine aw_ret ?_) | (with_reducible refine aw_exit ?_) | (with_reducible refine aw_block ?_) | (with_reducible refine xr_reg (by decide +kernel) ?_)
    | (with_reducible refine xr_nil ?_) | (with_reducible refine k_norm ?_) | (with_reducible refine k_ret ?_) | (with_reducible refine k_exit ?_) | (with_reducible refine b_norm ?_) | (with_reducible refine b_ret ?_) | (with_reducible refine b_exit ?_) | (with_reducible refine b_past (by decide) ?_)
    | (refine xr_cl (f := ?_) (fs := ?_) (cs := ?_) (args := ?_) (K := ?_) ?_ ?_ ?_ ?_ ?_
       rotate_left 5
       · simp only [ev]; rfl
       first
       | (· with_reducible exact Ty.ok52
          rotate_left 2
          refine Z2a 52 ?_
          rotate_right 2)
       | (· with_reducible exact Ty.ok103
          rotate_left 2
          refine Z2a 103 ?_
          rotate_right 2)
       )
    | (refine xr_do (v := ?_) (h' := ?_) (by exact rfl) ?_ ?_; rotate_left 2)
    | (refine xr_st (v := ?_) (h' := ?_) (by exact rfl) ?_ ?_; rotate_left 2)
    | (refine aw_ift (by decide) ?_ ?_
       · simp only [ev, Zb, reduceIte, Nat.reduceEqDiff, *])
    | (refine aw_iff (by decide) ?_ ?_
       · simp only [ev, Zb, reduceIte, Nat.reduceEqDiff, *])
    | (refine aw_if (b := ?_) (by decide) ?_ (fun hb => ?_) (fun hb => ?_)
       rotate_left 1
       · simp only [ev, Zb, reduceIte, Nat.reduceEqDiff, *]; rfl)
    | (refine r_ret (vs := ?_) ?_ ?_
       rotate_left 1
       · simp only [resV, ev, Zb, reduceIte, Nat.reduceEqDiff, Zj, *]; rfl)
    | (with_reducible refine heldIntS_ok ?_ _ _ _ ?_ ?_ ?_
       rotate_left 1
       · first | assumption | exact Own.old (by assumption) _ | ((try (simp only [deskV, deskL, Z11, Z12, Z1y, Z1h, Za, Z9, Z7, Zc, Zd, Z6, Z3, Z2, Zf, Zi, Nat.reduceAdd, Zh])); first | exact Own.old (by assumption) _ | exact Own.nil _ | (refine Own.at ?_ ?_ (Z4 _); (exact rfl); first | exact ints_flen _ | exact items_flen _ | (simp only [Z34]; done) | (simp only [Z34]; omega)) | (refine Own.at0 ?_ ?_ (Z4 _); (exact rfl); first | exact ints_flen _ | exact items_flen _ | (simp only [Z34]; done) | (simp only [Z34]; omega)))
       · first | omega | (simp only [Z2]; omega)
       · first | omega | (simp only [Z2]; omega)
       )
    | (with_reducible refine heldItemS_ok ?_ _ _ _ ?_ ?_ ?_
       rotate_left 1
       · first | assumption | exact Own.old (by assumption) _ | ((try (simp only [deskV, deskL, Z11, Z12, Z1y, Z1h, Za, Z9, Z7, Zc, Zd, Z6, Z3, Z2, Zf, Zi, Nat.reduceAdd, Zh])); first | exact Own.old (by assumption) _ | exact Own.nil _ | (refine Own.at ?_ ?_ (Z4 _); (exact rfl); first | exact ints_flen _ | exact items_flen _ | (simp only [Z34]; done) | (simp only [Z34]; omega)) | (refine Own.at0 ?_ ?_ (Z4 _); (exact rfl); first | exact ints_flen _ | exact items_flen _ | (simp only [Z34]; done) | (simp only [Z34]; omega)))
       · first | omega | (simp only [Z2]; omega)
       · first | omega | (simp only [Z2]; omega)
       )
    | ((with_reducible refine Z2w (n := 52) ?_); rintro _ _ ⟨rfl, hh⟩; replace hh := hh.symm; subst hh)
    | ((with_reducible refine Z2w (n := 103) ?_); rintro _ _ ⟨rfl, hh⟩; replace hh := hh.symm; subst hh)
    )
  exact ⟨rfl, _, rfl⟩
end Go.Proofs.Ytiddnhhjlipebaa.Am
namespace Go.Proofs.Ytiddnhhjlipebaa.Am
open Go Go.Proofs
set_option linter.unusedVariables false
set_option linter.unusedSimpArgs false
set_option maxRecDepth 100000
set_option maxHeartbeats 8000000

theorem ints_af (l : List Int) : ∀ x ∈ (ints l).flatten, af1 x = true := by
  intro x hx
  obtain ⟨r, hr, hx⟩ := List.mem_flatten.1 hx
  obtain ⟨n, _, rfl⟩ := List.mem_map.1 hr
  simp only [List.mem_cons, Z38, or_false] at hx
  subst hx; rfl
theorem items_af (l : List Item) : ∀ x ∈ (l.map Item.cells).flatten, af1 x = true := by
  intro x hx
  obtain ⟨r, hr, hx⟩ := List.mem_flatten.1 hx
  obtain ⟨n, _, rfl⟩ := List.mem_map.1 hr
  simp only [Item.cells, List.mem_cons, Z38, or_false] at hx
  rcases hx with rfl | rfl | rfl | rfl | rfl | rfl <;> rfl

theorem cloneInts_ok (l : List Int) (a : Addr) (c : Nat) (h : Heap) (hs : Sl h (.slice (some a) l.length c) 1 (ints l)) (hl : l.length ≤ 1048576) :
    ACalls Try.prog 0 101 #[.slice (some a) l.length c] h
    fun v h' => v = .slice (some ⟨h.length, 0, some 0⟩) l.length l.length ∧ h' = h ++ [⟨2, 1, (ints l).flatten⟩] := by
  refine acalls_canon _ _ ?_
  have hbs := bsl_empty (h := h) Ty.sl24 Ty.zc3
  have hap := apS_build (i := h.length) Ty.sl24 Ty.zc3 Ty.by3 Ty.sz3 (by rw [get_at0]; rfl) rfl (hs.old [⟨2, 1, []⟩]) (Zv _) (by omega) (by omega)
  by_cases h0 : l.length = 0
  · rw [if_pos h0] at hap
    obtain rfl := List.length_eq_zero_iff.1 h0
    refine Z36 Try.func101 rfl Try.ntmps101 (by simp) (by dsimp only [Try.f101]) ?_
    repeat' (first
      | ((with_reducible refine eq_go ?_); simp only [stp, ev, Zb, Z2e, Z1z, Zk, Zl, reduceIte, Nat.reduceEqDiff, Zj, Zz, Zu, Z16, Z1a, Zm, Zp, Zo, Zd, Zx, Z2b, Z2x, Z1g, Z17, Zq, Zn, Zv, Z2p, Z2f, Z2o, Z2d, Z2g, Z1c, Z1b, Z2i, Z2n, Z2h, Z2j, Z2k, Z2l, Z2m, Z31, Z8, Z5, Z13, Zy, blt, lenV, Z10, Z3, Z2, Zf, Zg, Ze, Z1, Z0, Z14, Zw, Zh, Zr, Z33, Z15, Z7, Zc, Z6, Z3, Z2, Zf, Zi, Nat.reduceAdd, Nat.reduceMul, Nat.reduceLeDiff, Z11, Z12, Z1y, Z1h, Z2c, Z23, Z28, Z27, Z26, Z25, Z24, Z1m, Z1l, Z1k, Z1j, Z1i, Z1w, Z1v, Z1u, Z1t, Z1s, Z32, Z2y, Z2q, Z2r, Z2s, Z20, Z1q, Z1r, Z2z, Z2t, Z21, Z22, splice, Za, Z9, Z1, Z0, Z19, Zt, Zs, Z18, newB, vcs, Z30, Z2v, Z1x, Z29, Z1n, Z2u, Z1o, Z1f, Z1p, Z1d, Z1e, Ty.sz3, Ty.zc3, Ty.by3, Ty.sz24, Ty.sl24, Ty.zc24, Ty.by24, *]; rfl)
      | (with_reducible refine aw_then ?_) | (with_reducible refine aw_skip ?_) | (with_reducible refine aw_ret ?_) | (with_reducible refine aw_exit ?_) | (with_reducible refine aw_block ?_) | (with_reducible refine xr_reg (by decide +kernel) ?_)
      | (with_reducible refine xr_nil ?_) | (with_reducible refine k_norm ?_) | (with_reducible refine k_ret ?_) | (with_reducible refine k_exit ?_) | (with_reducible refine b_norm ?_) | (with_reducible refine b_ret ?_) | (with_reducible refine b_exit ?_) | (with_reducible refine b_past (by decide) ?_)
      | (refine xr_do (v := ?_) (h' := ?_) (by exact rfl) ?_ ?_; rotate_left 2)
      | (refine xr_st (v := ?_) (h' := ?_) (by exact rfl) ?_ ?_; rotate_left 2)
      | (refine aw_ift (by decide) ?_ ?_
         · simp only [ev, Zb, reduceIte, Nat.reduceEqDiff, *])
      | (refine aw_iff (by decide) ?_ ?_
         · simp only [ev, Zb, reduceIte, Nat.reduceEqDiff, *])
      | (refine aw_if (b := ?_) (by decide) ?_ (fun hb => ?_) (fun hb => ?_)
         rotate_left 1
         · simp only [ev, Zb, reduceIte, Nat.reduceEqDiff, *]; rfl)
      | (refine r_ret (vs := ?_) ?_ ?_
         rotate_left 1
         · simp only [resV, ev, Zb, reduceIte, Nat.reduceEqDiff, Zj, *]; rfl)
      )
    refine canon_one (k := 0) ?_ rfl (Z4 _) (.inl ⟨rfl, rfl⟩) (ints_af _)
    exact rfl
  · rw [if_neg h0] at hap
    simp only [Z7, Zc, Zd, Z6, Z3, Z2, Zf] at hap
    refine Z36 Try.func101 rfl Try.ntmps101 (by simp) (by dsimp only [Try.f101]) ?_
    repeat' (first
      | ((with_reducible refine eq_go ?_); simp only [stp, ev, Zb, Z2e, Z1z, Zk, Zl, reduceIte, Nat.reduceEqDiff, Zj, Zz, Zu, Z16, Z1a, Zm, Zp, Zo, Zd, Zx, Z2b, Z2x, Z1g, Z17, Zq, Zn, Zv, Z2p, Z2f, Z2o, Z2d, Z2g, Z1c, Z1b, Z2i, Z2n, Z2h, Z2j, Z2k, Z2l, Z2m, Z31, Z8, Z5, Z13, Zy, blt, lenV, Z10, Z3, Z2, Zf, Zg, Ze, Z1, Z0, Z14, Zw, Zh, Zr, Z33, Z15, Z7, Zc, Z6, Z3, Z2, Zf, Zi, Nat.reduceAdd, Nat.reduceMul, Nat.reduceLeDiff, Z11, Z12, Z1y, Z1h, Z2c, Z23, Z28, Z27, Z26, Z25, Z24, Z1m, Z1l, Z1k, Z1j, Z1i, Z1w, Z1v, Z1u, Z1t, Z1s, Z32, Z2y, Z2q, Z2r, Z2s, Z20, Z1q, Z1r, Z2z, Z2t, Z21, Z22, splice, Za, Z9, Z1, Z0, Z19, Zt, Zs, Z18, newB, vcs, Z30, Z2v, Z1x, Z29, Z1n, Z2u, Z1o, Z1f, Z1p, Z1d, Z1e, Ty.sz3, Ty.zc3, Ty.by3, Ty.sz24, Ty.sl24, Ty.zc24, Ty.by24, *]; rfl)
      | (with_reducible refine aw_then ?_) | (with_reducible refine aw_skip ?_) | (with_reducible refine aw_ret ?_) | (with_reducible refine aw_exit ?_) | (with_reducible refine aw_block ?_) | (with_reducible refine xr_reg (by decide +kernel) ?_)
      | (with_reducible refine xr_nil ?_) | (with_reducible refine k_norm ?_) | (with_reducible refine k_ret ?_) | (with_reducible refine k_exit ?_) | (with_reducible refine b_norm ?_) | (with_reducible refine b_ret ?_) | (with_reducible refine b_exit ?_) | (with_reducible refine b_past (by decide) ?_)
      | (refine xr_do (v := ?_) (h' := ?_) (by exact rfl) ?_ ?_; rotate_left 2)
      | (refine xr_st (v := ?_) (h' := ?_) (by exact rfl) ?_ ?_; rotate_left 2)
      | (refine aw_ift (by decide) ?_ ?_
         · simp only [ev, Zb, reduceIte, Nat.reduceEqDiff, *])
      | (refine aw_iff (by decide) ?_ ?_
         · simp only [ev, Zb, reduceIte, Nat.reduceEqDiff, *])
      | (refine aw_if (b := ?_) (by decide) ?_ (fun hb => ?_) (fun hb => ?_)
         rotate_left 1
         · simp only [ev, Zb, reduceIte, Nat.reduceEqDiff, *]; rfl)
      | (refine r_ret (vs := ?_) ?_ ?_
         rotate_left 1
         · simp only [resV, ev, Zb, reduceIte, Nat.reduceEqDiff, Zj, *]; rfl)
      )
    refine canon_one (k := 1) ?_ (ints_flen _) (Z4 _) (.inr rfl) (ints_af _)
    exact rfl

theorem l1Own_ok (l : List Int) (a : Addr) (c : Nat) (h : Heap) (hs : Sl h (.slice (some a) l.length c) 1 (ints l)) (hl : l.length ≤ 1048576) :
    ACalls Try.prog 0 100 #[.slice (some a) l.length c] h
    fun v h' => v = .slice (some ⟨h.length, 0, some 0⟩) l.length l.length ∧ h' = h ++ [⟨2, 1, (ints l).flatten⟩] := by
  refine acalls_canon _ _ ?_
  have hbs := bsl_empty (h := h) Ty.sl24 Ty.zc3
  have hap := apS_build (i := h.length) Ty.sl24 Ty.zc3 Ty.by3 Ty.sz3 (by rw [get_at0]; rfl) rfl (hs.old [⟨2, 1, []⟩]) (Zv _) (by omega) (by omega)
  by_cases h0 : l.length = 0
  · rw [if_pos h0] at hap
    obtain rfl := List.length_eq_zero_iff.1 h0
    refine Z36 Try.func100 rfl Try.ntmps100 (by simp) (by dsimp only [Try.f100]) ?_
    repeat' (first
      | ((with_reducible refine eq_go ?_); simp only [stp, ev, Zb, Z2e, Z1z, Zk, Zl, reduceIte, Nat.reduceEqDiff, Zj, Zz, Zu, Z16, Z1a, Zm, Zp, Zo, Zd, Zx, Z2b, Z2x, Z1g, Z17, Zq, Zn, Zv, Z2p, Z2f, Z2o, Z2d, Z2g, Z1c, Z1b, Z2i, Z2n, Z2h, Z2j, Z2k, Z2l, Z2m, Z31, Z8, Z5, Z13, Zy, blt, lenV, Z10, Z3, Z2, Zf, Zg, Ze, Z1, Z0, Z14, Zw, Zh, Zr, Z33, Z15, Z7, Zc, Z6, Z3, Z2, Zf, Zi, Nat.reduceAdd, Nat.reduceMul, Nat.reduceLeDiff, Z11, Z12, Z1y, Z1h, Z2c, Z23, Z28, Z27, Z26, Z25, Z24, Z1m, Z1l, Z1k, Z1j, Z1i, Z1w, Z1v, Z1u, Z1t, Z1s, Z32, Z2y, Z2q, Z2r, Z2s, Z20, Z1q, Z1r, Z2z, Z2t, Z21, Z22, splice, Za, Z9, Z1, Z0, Z19, Zt, Zs, Z18, newB, vcs, Z30, Z2v, Z1x, Z29, Z1n, Z2u, Z1o, Z1f, Z1p, Z1d, Z1e, Ty.sz3, Ty.zc3, Ty.by3, Ty.sz24, Ty.sl24, Ty.zc24, Ty.by24, *]; rfl)
      | (with_reducible refine aw_then ?_) | (with_reducible refine aw_skip ?_) | (with_reducible refine aw_ret ?_) | (with_reducible refine aw_exit ?_) | (with_reducible refine aw_block ?_) | (with_reducible refine xr_reg (by decide +kernel) ?_)
      | (with_reducible refine xr_nil ?_) | (with_reducible refine k_norm ?_) | (with_reducible refine k_ret ?_) | (with_reducible refine k_exit ?_) | (with_reducible refine b_norm ?_) | (with_reducible refine b_ret ?_) | (with_reducible refine b_exit ?_) | (with_reducible refine b_past (by decide) ?_)
      | (refine xr_do (v := ?_) (h' := ?_) (by exact rfl) ?_ ?_; rotate_left 2)
      | (refine xr_st (v := ?_) (h' := ?_) (by exact rfl) ?_ ?_; rotate_left 2)
      | (refine aw_ift (by decide) ?_ ?_
         · simp only [ev, Zb, reduceIte, Nat.reduceEqDiff, *])
      | (refine aw_iff (by decide) ?_ ?_
         · simp only [ev, Zb, reduceIte, Nat.reduceEqDiff, *])
      | (refine aw_if (b := ?_) (by decide) ?_ (fun hb => ?_) (fun hb => ?_)
         rotate_left 1
         · simp only [ev, Zb, reduceIte, Nat.reduceEqDiff, *]; rfl)
      | (refine r_ret (vs := ?_) ?_ ?_
         rotate_left 1
         · simp only [resV, ev, Zb, reduceIte, Nat.reduceEqDiff, Zj, *]; rfl)
      )
    refine canon_one (k := 0) ?_ rfl (Z4 _) (.inl ⟨rfl, rfl⟩) (ints_af _)
    exact rfl
  · rw [if_neg h0] at hap
    simp only [Z7, Zc, Zd, Z6, Z3, Z2, Zf] at hap
    refine Z36 Try.func100 rfl Try.ntmps100 (by simp) (by dsimp only [Try.f100]) ?_
    repeat' (first
      | ((with_reducible refine eq_go ?_); simp only [stp, ev, Zb, Z2e, Z1z, Zk, Zl, reduceIte, Nat.reduceEqDiff, Zj, Zz, Zu, Z16, Z1a, Zm, Zp, Zo, Zd, Zx, Z2b, Z2x, Z1g, Z17, Zq, Zn, Zv, Z2p, Z2f, Z2o, Z2d, Z2g, Z1c, Z1b, Z2i, Z2n, Z2h, Z2j, Z2k, Z2l, Z2m, Z31, Z8, Z5, Z13, Zy, blt, lenV, Z10, Z3, Z2, Zf, Zg, Ze, Z1, Z0, Z14, Zw, Zh, Zr, Z33, Z15, Z7, Zc, Z6, Z3, Z2, Zf, Zi, Nat.reduceAdd, Nat.reduceMul, Nat.reduceLeDiff, Z11, Z12, Z1y, Z1h, Z2c, Z23, Z28, Z27, Z26, Z25, Z24, Z1m, Z1l, Z1k, Z1j, Z1i, Z1w, Z1v, Z1u, Z1t, Z1s, Z32, Z2y, Z2q, Z2r, Z2s, Z20, Z1q, Z1r, Z2z, Z2t, Z21, Z22, splice, Za, Z9, Z1, Z0, Z19, Zt, Zs, Z18, newB, vcs, Z30, Z2v, Z1x, Z29, Z1n, Z2u, Z1o, Z1f, Z1p, Z1d, Z1e, Ty.sz3, Ty.zc3, Ty.by3, Ty.sz24, Ty.sl24, Ty.zc24, Ty.by24, *]; rfl)
      | (with_reducible refine aw_then ?_) | (with_reducible refine aw_skip ?_) | (with_reducible refine aw_ret ?_) | (with_reducible refine aw_exit ?_) | (with_reducible refine aw_block ?_) | (with_reducible refine xr_reg (by decide +kernel) ?_)
      | (with_reducible refine xr_nil ?_) | (with_reducible refine k_norm ?_) | (with_reducible refine k_ret ?_) | (with_reducible refine k_exit ?_) | (with_reducible refine b_norm ?_) | (with_reducible refine b_ret ?_) | (with_reducible refine b_exit ?_) | (with_reducible refine b_past (by decide) ?_)
      | (refine xr_do (v := ?_) (h' := ?_) (by exact rfl) ?_ ?_; rotate_left 2)
      | (refine xr_st (v := ?_) (h' := ?_) (by exact rfl) ?_ ?_; rotate_left 2)
      | (refine aw_ift (by decide) ?_ ?_
         · simp only [ev, Zb, reduceIte, Nat.reduceEqDiff, *])
      | (refine aw_iff (by decide) ?_ ?_
         · simp only [ev, Zb, reduceIte, Nat.reduceEqDiff, *])
      | (refine aw_if (b := ?_) (by decide) ?_ (fun hb => ?_) (fun hb => ?_)
         rotate_left 1
         · simp only [ev, Zb, reduceIte, Nat.reduceEqDiff, *]; rfl)
      | (refine r_ret (vs := ?_) ?_ ?_
         rotate_left 1
         · simp only [resV, ev, Zb, reduceIte, Nat.reduceEqDiff, Zj, *]; rfl)
      )
    refine canon_one (k := 1) ?_ (ints_flen _) (Z4 _) (.inr rfl) (ints_af _)
    exact rfl

theorem cloneItems_ok (l : List Item) (a : Addr) (c : Nat) (h : Heap) (hs : Sl h (.slice (some a) l.length c) 6 (l.map Item.cells)) (hl : l.length ≤ 1048576) :
    ACalls Try.prog 0 133 #[.slice (some a) l.length c] h
    fun v h' => v = .slice (some ⟨h.length, 0, some 0⟩) l.length l.length ∧ h' = h ++ [⟨2, 6, (l.map Item.cells).flatten⟩] := by
  refine acalls_canon _ _ ?_
  have hbs := bsl_empty (h := h) Ty.sl56 Ty.zc77
  have hap := apS_build (i := h.length) Ty.sl56 Ty.zc77 Ty.by77 Ty.sz77 (by rw [get_at0]; rfl) rfl (hs.old [⟨2, 6, []⟩]) (Zv _) (by omega) (by omega)
  by_cases h0 : l.length = 0
  · rw [if_pos h0] at hap
    obtain rfl := List.length_eq_zero_iff.1 h0
    refine Z36 Try.func133 rfl Try.ntmps133 (by simp) (by dsimp only [Try.f133]) ?_
    repeat' (first
      | ((with_reducible refine eq_go ?_); simp only [stp, ev, Zb, Z2e, Z1z, Zk, Zl, reduceIte, Nat.reduceEqDiff, Zj, Zz, Zu, Z16, Z1a, Zm, Zp, Zo, Zd, Zx, Z2b, Z2x, Z1g, Z17, Zq, Zn, Zv, Z2p, Z2f, Z2o, Z2d, Z2g, Z1c, Z1b, Z2i, Z2n, Z2h, Z2j, Z2k, Z2l, Z2m, Z31, Z8, Z5, Z13, Zy, blt, lenV, Z10, Z3, Z2, Zf, Zg, Ze, Z1, Z0, Z14, Zw, Zh, Zr, Z33, Z15, Z7, Zc, Z6, Z3, Z2, Zf, Zi, Nat.reduceAdd, Nat.reduceMul, Nat.reduceLeDiff, Z11, Z12, Z1y, Z1h, Z2c, Z23, Z28, Z27, Z26, Z25, Z24, Z1m, Z1l, Z1k, Z1j, Z1i, Z1w, Z1v, Z1u, Z1t, Z1s, Z32, Z2y, Z2q, Z2r, Z2s, Z20, Z1q, Z1r, Z2z, Z2t, Z21, Z22, splice, Za, Z9, Z1, Z0, Z19, Zt, Zs, Z18, newB, vcs, Z30, Z2v, Z1x, Z29, Z1n, Z2u, Z1o, Z1f, Z1p, Z1d, Z1e, Ty.sz3, Ty.zc3, Ty.by3, Ty.sz56, Ty.sl56, Ty.zc56, Ty.by56, Ty.sz77, Ty.zc77, Ty.by77, *]; rfl)
      | (with_reducible refine aw_then ?_) | (with_reducible refine aw_skip ?_) | (with_reducible refine aw_ret ?_) | (with_reducible refine aw_exit ?_) | (with_reducible refine aw_block ?_) | (with_reducible refine xr_reg (by decide +kernel) ?_)
      | (with_reducible refine xr_nil ?_) | (with_reducible refine k_norm ?_) | (with_reducible refine k_ret ?_) | (with_reducible refine k_exit ?_) | (with_reducible refine b_norm ?_) | (with_reducible refine b_ret ?_) | (with_reducible refine b_exit ?_) | (with_reducible refine b_past (by decide) ?_)
      | (refine xr_do (v := ?_) (h' := ?_) (by exact rfl) ?_ ?_; rotate_left 2)
      | (refine xr_st (v := ?_) (h' := ?_) (by exact rfl) ?_ ?_; rotate_left 2)
      | (refine aw_ift (by decide) ?_ ?_
         · simp only [ev, Zb, reduceIte, Nat.reduceEqDiff, *])
      | (refine aw_iff (by decide) ?_ ?_
         · simp only [ev, Zb, reduceIte, Nat.reduceEqDiff, *])
      | (refine aw_if (b := ?_) (by decide) ?_ (fun hb => ?_) (fun hb => ?_)
         rotate_left 1
         · simp only [ev, Zb, reduceIte, Nat.reduceEqDiff, *]; rfl)
      | (refine r_ret (vs := ?_) ?_ ?_
         rotate_left 1
         · simp only [resV, ev, Zb, reduceIte, Nat.reduceEqDiff, Zj, *]; rfl)
      )
    refine canon_one (k := 0) ?_ rfl (Z4 _) (.inl ⟨rfl, rfl⟩) (items_af _)
    exact rfl
  · rw [if_neg h0] at hap
    simp only [Z7, Zc, Zd, Z6, Z3, Z2, Zf] at hap
    refine Z36 Try.func133 rfl Try.ntmps133 (by simp) (by dsimp only [Try.f133]) ?_
    repeat' (first
      | ((with_reducible refine eq_go ?_); simp only [stp, ev, Zb, Z2e, Z1z, Zk, Zl, reduceIte, Nat.reduceEqDiff, Zj, Zz, Zu, Z16, Z1a, Zm, Zp, Zo, Zd, Zx, Z2b, Z2x, Z1g, Z17, Zq, Zn, Zv, Z2p, Z2f, Z2o, Z2d, Z2g, Z1c, Z1b, Z2i, Z2n, Z2h, Z2j, Z2k, Z2l, Z2m, Z31, Z8, Z5, Z13, Zy, blt, lenV, Z10, Z3, Z2, Zf, Zg, Ze, Z1, Z0, Z14, Zw, Zh, Zr, Z33, Z15, Z7, Zc, Z6, Z3, Z2, Zf, Zi, Nat.reduceAdd, Nat.reduceMul, Nat.reduceLeDiff, Z11, Z12, Z1y, Z1h, Z2c, Z23, Z28, Z27, Z26, Z25, Z24, Z1m, Z1l, Z1k, Z1j, Z1i, Z1w, Z1v, Z1u, Z1t, Z1s, Z32, Z2y, Z2q, Z2r, Z2s, Z20, Z1q, Z1r, Z2z, Z2t, Z21, Z22, splice, Za, Z9, Z1, Z0, Z19, Zt, Zs, Z18, newB, vcs, Z30, Z2v, Z1x, Z29, Z1n, Z2u, Z1o, Z1f, Z1p, Z1d, Z1e, Ty.sz3, Ty.zc3, Ty.by3, Ty.sz56, Ty.sl56, Ty.zc56, Ty.by56, Ty.sz77, Ty.zc77, Ty.by77, *]; rfl)
      | (with_reducible refine aw_then ?_) | (with_reducible refine aw_skip ?_) | (with_reducible refine aw_ret ?_) | (with_reducible refine aw_exit ?_) | (with_reducible refine aw_block ?_) | (with_reducible refine xr_reg (by decide +kernel) ?_)
      | (with_reducible refine xr_nil ?_) | (with_reducible refine k_norm ?_) | (with_reducible refine k_ret ?_) | (with_reducible refine k_exit ?_) | (with_reducible refine b_norm ?_) | (with_reducible refine b_ret ?_) | (with_reducible refine b_exit ?_) | (with_reducible refine b_past (by decide) ?_)
      | (refine xr_do (v := ?_) (h' := ?_) (by exact rfl) ?_ ?_; rotate_left 2)
      | (refine xr_st (v := ?_) (h' := ?_) (by exact rfl) ?_ ?_; rotate_left 2)
      | (refine aw_ift (by decide) ?_ ?_
         · simp only [ev, Zb, reduceIte, Nat.reduceEqDiff, *])
      | (refine aw_iff (by decide) ?_ ?_
         · simp only [ev, Zb, reduceIte, Nat.reduceEqDiff, *])
      | (refine aw_if (b := ?_) (by decide) ?_ (fun hb => ?_) (fun hb => ?_)
         rotate_left 1
         · simp only [ev, Zb, reduceIte, Nat.reduceEqDiff, *]; rfl)
      | (refine r_ret (vs := ?_) ?_ ?_
         rotate_left 1
         · simp only [resV, ev, Zb, reduceIte, Nat.reduceEqDiff, Zj, *]; rfl)
      )
    refine canon_one (k := 1) ?_ (items_flen _) (Z4 _) (.inr rfl) (items_af _)
    exact rfl
end Go.Proofs.Ytiddnhhjlipebaa.Am
