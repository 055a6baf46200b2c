/- Walk of an act on a copied desk, in the reference. Conditions: none. -/
import Derived.Test.YtiddnhhjlipebaaK3
import Derived.Test.YtiddnhhjlipebaaV6
namespace Go.Proofs.Ytiddnhhjlipebaa.Am
open Go Go.Proofs
set_option linter.unusedVariables false
set_option linter.unusedSimpArgs false
set_option maxRecDepth 100000
set_option maxHeartbeats 8000000

theorem set_mid0 (p l : List Value) (v : Value) : (p ++ l).set p.length v = p ++ l.set 0 v := set_mid p l 0 v
theorem desk_keep1 {h L X : Heap} {B B' : Blk} {now' : Int} {vp : Value} {items' : List Item} {k : Nat} {sp : Option Nat} (hk : k = h.length ∨ h.length + (L.length + 1) ≤ k)
    (hb : (h ++ B' :: (L ++ X))[k]? = some ⟨2, 6, cellsL items'⟩) (hsp : sp = none ∨ sp = some 0) (hids : IdsP (fun id => id < h.length + (L.length + 1)) vp) :
    ∃ ks, Inj ks ∧ ks.length = [(⟨2, 6, cellsL items'⟩ : Blk)].length ∧ (h ++ B :: L).length ≤ (h ++ B' :: (L ++ X)).length ∧ OldOk (h ++ B :: L) (h ++ B' :: (L ++ X)) (h ++ ⟨0, 0, []⟩ :: L) ks ∧
      NewOk [⟨2, 6, cellsL items'⟩] (h ++ B' :: (L ++ X)) ks ∧
      RW (h ++ B :: L).length (h ++ B' :: (L ++ X)) ks (.agg #[.int .i64 now', vp, .slice (some ⟨h.length + (L.length + 1), 0, some 0⟩) items'.length items'.length])
        (.agg #[.int .i64 now', vp, .slice (some ⟨k, 0, sp⟩) items'.length items'.length]) := by
  have hn : (h ++ B :: L).length = h.length + (L.length + 1) := by simp
  refine ⟨[k], Inj.one k, rfl, by simp, OldOk.kill (fun x hx => by simp at hx; subst hx; exact hk), ?_, ?_⟩
  · intro i b hi
    obtain rfl : i = 0 := by have := (List.getElem?_eq_some_iff.1 hi).1; simp at this; omega
    simp at hi; subst hi
    exact ⟨rfl, cellsL_af _, k, rfl, hb⟩
  · rw [hn]
    refine RWl.agg (l := [_, _, _]) (l' := [_, _, _]) ⟨.plain _ rfl, .old _ hids, ?_, trivial⟩
    exact .sl 0 k _ _ 6 sp _ rfl hb (cellsL_len _) (Z4 _) (by rcases hsp with q | q <;> simp [q])

/-- The item behind an act, as the reference writes it. -/
def doS (now : Int) (x : Item) (a : DAct) : Item :=
  if a.kind = 2 then { x with state := 2, who := a.who, till := now + 10 }
  else if a.kind = 3 then { x with state := 3, till := 0 }
  else if a.kind = 4 then { x with state := 4, till := 0 }
  else if a.kind = 5 then { x with state := 1, who := -1, till := 0 }
  else if a.kind = 6 then { x with who := a.dst, till := now + 10 }
  else { x with state := 5, who := -1, till := 0 }
theorem doS_eq {now : Int} {x : Item} {a : DAct} (hk : 2 ≤ a.kind ∧ a.kind ≤ 7) (hs : stateM a.kind x.state = true) (ht : x.state = 3 → x.till = 0) : doS now x a = doI now x a := by
  obtain ⟨kind, item, who, dst, cas, task, role, many⟩ := a
  obtain ⟨xc, xt, xr, xs, xw, xl⟩ := x
  simp only at hk hs ht
  have : kind = 2 ∨ kind = 3 ∨ kind = 4 ∨ kind = 5 ∨ kind = 6 ∨ kind = 7 := by omega
  rcases this with rfl | rfl | rfl | rfl | rfl | rfl <;> simp_all [doS, doI, toM, stateM]

/-- The items behind an act that may be done. -/
def doItems (now : Int) (items : List Item) (a : DAct) : List Item :=
  if a.kind = 1 then items ++ [freeI a] else if a.kind = 8 then items.map (tickI (now + a.many)) else items.set a.item.toNat (doS now (items.getD a.item.toNat Item.nil) a)
def doNow (now : Int) (a : DAct) : Int := if a.kind = 1 then now else if a.kind = 8 then now + a.many else now

theorem l16Do_blk (now : Int) (items : List Item) (a : DAct) (vp : Value) (h L : Heap) (hids : IdsP (fun id => id < h.length + (L.length + 1)) vp) (hf : flat vp = true) (hn : 0 ≤ now ∧ now ≤ 10000) (hm : 0 ≤ a.many ∧ a.many ≤ 100) (hil : items.length ≤ 1048576)
    (hin : a.kind = 1 ∨ a.kind = 8 ∨ inRange items a) :
    ACalls Try.prog 0 131 #[.agg #[.int .i64 now, vp, .slice (some ⟨h.length, 0, some 0⟩) items.length items.length], .agg a.cells.toArray] (h ++ ⟨2, 6, cellsL items⟩ :: L)
    fun v h' => v = .agg #[.int .i64 (doNow now a), vp, .slice (some ⟨h.length + (L.length + 1), 0, some 0⟩) (doItems now items a).length (doItems now items a).length] ∧
      h' = h ++ ⟨0, 0, []⟩ :: L ++ [⟨2, 6, cellsL (doItems now items a)⟩] := by
  refine acalls_keep _ _ _ (by simp) ?_
  have hw : IntKind.i64.wrap (now + a.many) = now + a.many := wrap_id (by omega)
  have hw10 : IntKind.i64.wrap (now + 10) = now + 10 := wrap_id (by omega)
  by_cases hk1 : a.kind = 1
  · have hk1' : decide (a.kind = 1) = true := decide_eq_true hk1
    simp only [doNow, doItems, if_pos hk1]
    have hbs : bsl Try.prog 56 (h ++ ⟨2, 6, cellsL items⟩ :: (L ++ [⟨2, 1, [.int .i64 now, vp, .slice (some ⟨h.length, 0, some 0⟩) items.length items.length]⟩, ⟨2, 1, a.cells⟩, ⟨2, 1, [.int .i64 0, .slice none 0 0, .slice none 0 0]⟩, ⟨2, 1, (freeI a).cells⟩])) 1 [(0, .agg (freeI a).cells.toArray)] = _ :=
      bsl_agg Ty.sl56 Ty.zc77 rfl rfl (by decide) rfl
    have hlen : (items ++ [freeI a]).length = items.length + 1 := by simp
    have hcl : cellsL (items ++ [freeI a]) = cellsL items ++ (freeI a).cells := by rw [cellsL_append]; simp [cellsL]
    rw [hlen]
    have hap1 := apS_full (P := Try.prog) (H := h ++ ⟨2, 6, cellsL items⟩ :: (L ++ [⟨2, 1, [.int .i64 now, vp, .slice (some ⟨h.length, 0, some 0⟩) items.length items.length]⟩, ⟨2, 1, a.cells⟩, ⟨2, 1, [.int .i64 0, .slice none 0 0, .slice none 0 0]⟩, ⟨2, 1, (freeI a).cells⟩, ⟨2, 6, (freeI a).cells⟩]))
      (id1 := h.length) (id2 := h.length + (L.length + 5)) (sp := none) (n := items.length) (m := 1) Ty.sl56 Ty.zc77 Ty.by77 (cs := cellsL items) (xs := (freeI a).cells) (by simp) (by rw [get_at, Z0, get_at]; rfl) (cellsL_len _) rfl (by decide) (by omega) (by omega)
    simp only [freeI, Item.cells, Z7, Zc, Zd, Z6, Z3, Z2, Zf, Zh, Nat.reduceAdd, Z1h, Z9] at hbs hap1
    clear hk1 hin
    refine Z36 Try.func131 rfl Try.ntmps131 (by simp) (by dsimp only [Try.f131]) ?_
    repeat' (first
      | ((with_reducible refine eq_go ?_); simp only [stp, ev, Zb, Z2e, Z1z, Zk, Zl, reduceIte, Nat.reduceEqDiff, Zj, Zz, Zu, Z16, Z1a, Zm, Zp, Zo, Zd, Zx, Z2b, Z2x, Z1g, Z17, Zq, Zn, Zv, Z2p, Z2f, Z2o, Z2d, Z2g, Z1c, Z1b, Z2i, Z2n, Z2h, Z2j, Z2k, Z2l, Z2m, Z31, Z8, Z5, Z13, Zy, bld, fillL, vcs, splice, Ze, Z1, Z0, Z35, ldv, stv, vcs, fldA, idxA, blt, lenV, Z10, Z3, Z2, Zf, Zg, Ze, Z1, Z0, Z14, Zw, Zh, Zr, Z33, Z15, Z7, Zc, Z6, Z3, Z2, Zf, Zi, Nat.reduceAdd, Nat.reduceMul, Nat.reduceLeDiff, Z11, Z12, Z1y, Z1h, Z2c, Z23, Z28, Z27, Z26, Z25, Z24, Z1m, Z1l, Z1k, Z1j, Z1i, Z1w, Z1v, Z1u, Z1t, Z1s, Z32, Z2y, Z2q, Z2r, Z2s, Z20, Z1q, Z1r, Z2z, Z2t, Z21, Z22, splice, Za, Z9, Z1, Z0, Z19, Zt, Zs, Z18, newB, vcs, Z30, Z2v, Z1x, Z29, Z1n, Z2u, Z1o, Z1f, Z1p, Z1d, Z1e, Ty.ld3, Ty.sz3, Ty.zc3, Ty.by3, Ty.ld24, Ty.sz24, Ty.sl24, Ty.zc24, Ty.by24, Ty.ld56, Ty.sz56, Ty.sl56, Ty.zc56, Ty.by56, Ty.ld58, Ty.sz58, Ty.zc58, Ty.by58, Ty.pl58, Ty.fl58_0, Ty.fl58_1, Ty.fl58_2, Ty.ld77, Ty.sz77, Ty.zc77, Ty.by77, Ty.pl77, Ty.fl77_0, Ty.fl77_1, Ty.fl77_2, Ty.fl77_3, Ty.fl77_4, Ty.fl77_5, Ty.ld80, Ty.sz80, Ty.zc80, Ty.by80, Ty.pl80, Ty.fl80_0, Ty.fl80_1, Ty.fl80_2, Ty.fl80_3, Ty.fl80_4, Ty.fl80_5, Ty.fl80_6, Ty.fl80_7, DAct.cells_length, DAct.cells_flat, DAct.cells_take, DAct.get0, DAct.get4, DAct.get5, DAct.get6, *]; rfl)
      | (with_reducible refine aw_then ?_) | (with_reducible refine aw_skip ?_) | (with_reducible refine aw_ret ?_) | (with_reducible refine aw_exit ?_) | (with_reducible refine aw_block ?_) | (with_reducible refine xr_reg (by decide +kernel) ?_)
      | (with_reducible refine xr_nil ?_) | (with_reducible refine k_norm ?_) | (with_reducible refine k_ret ?_) | (with_reducible refine k_exit ?_) | (with_reducible refine b_norm ?_) | (with_reducible refine b_ret ?_) | (with_reducible refine b_exit ?_) | (with_reducible refine b_past (by decide) ?_)
      | (refine xr_do (v := ?_) (h' := ?_) (by exact rfl) ?_ ?_; rotate_left 2)
      | (refine xr_st (v := ?_) (h' := ?_) (by exact rfl) ?_ ?_; rotate_left 2)
      | (refine xr_gdo (v := ?_) (h' := ?_) (by exact rfl) (by exact rfl) ?_ ?_ ?_
         rotate_left 2
         · simp only [ev, Zb, reduceIte, Nat.reduceEqDiff, Z8, Z5, *])
      | (refine xr_gst (v := ?_) (h' := ?_) (by exact rfl) (by exact rfl) ?_ ?_ ?_
         rotate_left 2
         · simp only [ev, Zb, reduceIte, Nat.reduceEqDiff, Z8, Z5, *])
      | (refine xr_goff (by exact rfl) ?_ ?_
         · simp only [ev, Zb, reduceIte, Nat.reduceEqDiff, Z8, Z5, *])
      | (refine xr_gsoff (by exact rfl) ?_ ?_
         · simp only [ev, Zb, reduceIte, Nat.reduceEqDiff, Z8, Z5, *])
      | (refine xr_gund (by exact rfl) ?_ ?_
         · simp only [ev, Zb, reduceIte, Nat.reduceEqDiff, Z8, Z5, *])
      | (refine xr_gsund (by exact rfl) ?_ ?_
         · simp only [ev, Zb, reduceIte, Nat.reduceEqDiff, Z8, Z5, *])
      | (refine xr_gif (b := ?_) (by exact rfl) ?_ (fun hb => ?_) (fun hb => ?_)
         rotate_left 1
         · simp only [ev, Zb, reduceIte, Nat.reduceEqDiff, Z8, Z5, *]; rfl)
      | (refine aw_ift (by decide) ?_ ?_
         · simp only [ev, Zb, reduceIte, Nat.reduceEqDiff, *])
      | (refine aw_iff (by decide) ?_ ?_
         · simp only [ev, Zb, reduceIte, Nat.reduceEqDiff, *])
      | (refine aw_if (b := ?_) (by decide) ?_ (fun hb => ?_) (fun hb => ?_)
         rotate_left 1
         · simp only [ev, Zb, reduceIte, Nat.reduceEqDiff, *]; rfl)
      | (refine r_ret (vs := ?_) ?_ ?_
         rotate_left 1
         · simp only [resV, oneOf, stp, ev, Zb, Z2e, Z1z, Zk, Zl, reduceIte, Nat.reduceEqDiff, Zj, Zz, Zu, Z16, Z1a, Zm, Zp, Zo, Zd, Zx, Z2b, Z2x, Z1g, Z17, Zq, Zn, Zv, Z2p, Z2f, Z2o, Z2d, Z2g, Z1c, Z1b, Z2i, Z2n, Z2h, Z2j, Z2k, Z2l, Z2m, Z31, Z8, Z5, Z13, Zy, bld, fillL, vcs, splice, Ze, Z1, Z0, Z35, ldv, stv, vcs, fldA, idxA, blt, lenV, Z10, Z3, Z2, Zf, Zg, Ze, Z1, Z0, Z14, Zw, Zh, Zr, Z33, Z15, Z7, Zc, Z6, Z3, Z2, Zf, Zi, Nat.reduceAdd, Nat.reduceMul, Nat.reduceLeDiff, Z11, Z12, Z1y, Z1h, Z2c, Z23, Z28, Z27, Z26, Z25, Z24, Z1m, Z1l, Z1k, Z1j, Z1i, Z1w, Z1v, Z1u, Z1t, Z1s, Z32, Z2y, Z2q, Z2r, Z2s, Z20, Z1q, Z1r, Z2z, Z2t, Z21, Z22, splice, Za, Z9, Z1, Z0, Z19, Zt, Zs, Z18, newB, vcs, Z30, Z2v, Z1x, Z29, Z1n, Z2u, Z1o, Z1f, Z1p, Z1d, Z1e, Ty.ld3, Ty.sz3, Ty.zc3, Ty.by3, Ty.ld24, Ty.sz24, Ty.sl24, Ty.zc24, Ty.by24, Ty.ld56, Ty.sz56, Ty.sl56, Ty.zc56, Ty.by56, Ty.ld58, Ty.sz58, Ty.zc58, Ty.by58, Ty.pl58, Ty.fl58_0, Ty.fl58_1, Ty.fl58_2, Ty.ld77, Ty.sz77, Ty.zc77, Ty.by77, Ty.pl77, Ty.fl77_0, Ty.fl77_1, Ty.fl77_2, Ty.fl77_3, Ty.fl77_4, Ty.fl77_5, Ty.ld80, Ty.sz80, Ty.zc80, Ty.by80, Ty.pl80, Ty.fl80_0, Ty.fl80_1, Ty.fl80_2, Ty.fl80_3, Ty.fl80_4, Ty.fl80_5, Ty.fl80_6, Ty.fl80_7, DAct.cells_length, DAct.cells_flat, DAct.cells_take, DAct.get0, DAct.get4, DAct.get5, DAct.get6, *]; rfl)
      )
    rw [← hlen]
    refine desk_keep1 (k := h.length + (L.length + 6)) (.inr (by omega)) ?_ (.inr rfl) hids
    rw [get_at, Z0, get_at, hcl]; rfl
  have hk1' : decide (a.kind = 1) = false := decide_eq_false hk1
  by_cases hk8 : a.kind = 8
  · have hk8' : decide (a.kind = 8) = true := decide_eq_true hk8
    simp only [doNow, doItems, if_neg hk1, if_pos hk8]
    clear hk1 hk8 hin
    have hml : (items.map (tickI (now + a.many))).length = items.length := by simp
    refine Z36 Try.func131 rfl Try.ntmps131 (by simp) (by dsimp only [Try.f131]) ?_
    repeat' (first
      | ((with_reducible refine eq_go ?_); simp only [stp, ev, Zb, Z2e, Z1z, Zk, Zl, reduceIte, Nat.reduceEqDiff, Zj, Zz, Zu, Z16, Z1a, Zm, Zp, Zo, Zd, Zx, Z2b, Z2x, Z1g, Z17, Zq, Zn, Zv, Z2p, Z2f, Z2o, Z2d, Z2g, Z1c, Z1b, Z2i, Z2n, Z2h, Z2j, Z2k, Z2l, Z2m, Z31, Z8, Z5, Z13, Zy, bld, fillL, vcs, splice, Ze, Z1, Z0, Z35, ldv, stv, vcs, fldA, idxA, blt, lenV, Z10, Z3, Z2, Zf, Zg, Ze, Z1, Z0, Z14, Zw, Zh, Zr, Z33, Z15, Z7, Zc, Z6, Z3, Z2, Zf, Zi, Nat.reduceAdd, Nat.reduceMul, Nat.reduceLeDiff, Z11, Z12, Z1y, Z1h, Z2c, Z23, Z28, Z27, Z26, Z25, Z24, Z1m, Z1l, Z1k, Z1j, Z1i, Z1w, Z1v, Z1u, Z1t, Z1s, Z32, Z2y, Z2q, Z2r, Z2s, Z20, Z1q, Z1r, Z2z, Z2t, Z21, Z22, splice, Za, Z9, Z1, Z0, Z19, Zt, Zs, Z18, newB, vcs, Z30, Z2v, Z1x, Z29, Z1n, Z2u, Z1o, Z1f, Z1p, Z1d, Z1e, Ty.ld3, Ty.sz3, Ty.zc3, Ty.by3, Ty.ld24, Ty.sz24, Ty.sl24, Ty.zc24, Ty.by24, Ty.ld56, Ty.sz56, Ty.sl56, Ty.zc56, Ty.by56, Ty.ld58, Ty.sz58, Ty.zc58, Ty.by58, Ty.pl58, Ty.fl58_0, Ty.fl58_1, Ty.fl58_2, Ty.ld77, Ty.sz77, Ty.zc77, Ty.by77, Ty.pl77, Ty.fl77_0, Ty.fl77_1, Ty.fl77_2, Ty.fl77_3, Ty.fl77_4, Ty.fl77_5, Ty.ld80, Ty.sz80, Ty.zc80, Ty.by80, Ty.pl80, Ty.fl80_0, Ty.fl80_1, Ty.fl80_2, Ty.fl80_3, Ty.fl80_4, Ty.fl80_5, Ty.fl80_6, Ty.fl80_7, DAct.cells_length, DAct.cells_flat, DAct.cells_take, DAct.get0, DAct.get7, *]; rfl)
      | (with_reducible refine aw_then ?_) | (with_reducible refine aw_skip ?_) | (with_reducible refine aw_ret ?_) | (with_reducible refine aw_exit ?_) | (with_reducible refine aw_block ?_) | (with_reducible refine xr_reg (by decide +kernel) ?_)
      | (with_reducible refine xr_nil ?_) | (with_reducible refine k_norm ?_) | (with_reducible refine k_ret ?_) | (with_reducible refine k_exit ?_) | (with_reducible refine b_norm ?_) | (with_reducible refine b_ret ?_) | (with_reducible refine b_exit ?_) | (with_reducible refine b_past (by decide) ?_)
      | (refine xr_do (v := ?_) (h' := ?_) (by exact rfl) ?_ ?_; rotate_left 2)
      | (refine xr_st (v := ?_) (h' := ?_) (by exact rfl) ?_ ?_; rotate_left 2)
      | (refine xr_gdo (v := ?_) (h' := ?_) (by exact rfl) (by exact rfl) ?_ ?_ ?_
         rotate_left 2
         · simp only [ev, Zb, reduceIte, Nat.reduceEqDiff, Z8, Z5, *])
      | (refine xr_gst (v := ?_) (h' := ?_) (by exact rfl) (by exact rfl) ?_ ?_ ?_
         rotate_left 2
         · simp only [ev, Zb, reduceIte, Nat.reduceEqDiff, Z8, Z5, *])
      | (refine xr_goff (by exact rfl) ?_ ?_
         · simp only [ev, Zb, reduceIte, Nat.reduceEqDiff, Z8, Z5, *])
      | (refine xr_gsoff (by exact rfl) ?_ ?_
         · simp only [ev, Zb, reduceIte, Nat.reduceEqDiff, Z8, Z5, *])
      | (refine xr_gund (by exact rfl) ?_ ?_
         · simp only [ev, Zb, reduceIte, Nat.reduceEqDiff, Z8, Z5, *])
      | (refine xr_gsund (by exact rfl) ?_ ?_
         · simp only [ev, Zb, reduceIte, Nat.reduceEqDiff, Z8, Z5, *])
      | (refine xr_gif (b := ?_) (by exact rfl) ?_ (fun hb => ?_) (fun hb => ?_)
         rotate_left 1
         · simp only [ev, Zb, reduceIte, Nat.reduceEqDiff, Z8, Z5, *]; rfl)
      | (refine aw_ift (by decide) ?_ ?_
         · simp only [ev, Zb, reduceIte, Nat.reduceEqDiff, *])
      | (refine aw_iff (by decide) ?_ ?_
         · simp only [ev, Zb, reduceIte, Nat.reduceEqDiff, *])
      | (refine aw_if (b := ?_) (by decide) ?_ (fun hb => ?_) (fun hb => ?_)
         rotate_left 1
         · simp only [ev, Zb, reduceIte, Nat.reduceEqDiff, *]; rfl)
      | (refine r_ret (vs := ?_) ?_ ?_
         rotate_left 1
         · simp only [resV, oneOf, stp, ev, Zb, Z2e, Z1z, Zk, Zl, reduceIte, Nat.reduceEqDiff, Zj, Zz, Zu, Z16, Z1a, Zm, Zp, Zo, Zd, Zx, Z2b, Z2x, Z1g, Z17, Zq, Zn, Zv, Z2p, Z2f, Z2o, Z2d, Z2g, Z1c, Z1b, Z2i, Z2n, Z2h, Z2j, Z2k, Z2l, Z2m, Z31, Z8, Z5, Z13, Zy, bld, fillL, vcs, splice, Ze, Z1, Z0, Z35, ldv, stv, vcs, fldA, idxA, blt, lenV, Z10, Z3, Z2, Zf, Zg, Ze, Z1, Z0, Z14, Zw, Zh, Zr, Z33, Z15, Z7, Zc, Z6, Z3, Z2, Zf, Zi, Nat.reduceAdd, Nat.reduceMul, Nat.reduceLeDiff, Z11, Z12, Z1y, Z1h, Z2c, Z23, Z28, Z27, Z26, Z25, Z24, Z1m, Z1l, Z1k, Z1j, Z1i, Z1w, Z1v, Z1u, Z1t, Z1s, Z32, Z2y, Z2q, Z2r, Z2s, Z20, Z1q, Z1r, Z2z, Z2t, Z21, Z22, splice, Za, Z9, Z1, Z0, Z19, Zt, Zs, Z18, newB, vcs, Z30, Z2v, Z1x, Z29, Z1n, Z2u, Z1o, Z1f, Z1p, Z1d, Z1e, Ty.ld3, Ty.sz3, Ty.zc3, Ty.by3, Ty.ld24, Ty.sz24, Ty.sl24, Ty.zc24, Ty.by24, Ty.ld56, Ty.sz56, Ty.sl56, Ty.zc56, Ty.by56, Ty.ld58, Ty.sz58, Ty.zc58, Ty.by58, Ty.pl58, Ty.fl58_0, Ty.fl58_1, Ty.fl58_2, Ty.ld77, Ty.sz77, Ty.zc77, Ty.by77, Ty.pl77, Ty.fl77_0, Ty.fl77_1, Ty.fl77_2, Ty.fl77_3, Ty.fl77_4, Ty.fl77_5, Ty.ld80, Ty.sz80, Ty.zc80, Ty.by80, Ty.pl80, Ty.fl80_0, Ty.fl80_1, Ty.fl80_2, Ty.fl80_3, Ty.fl80_4, Ty.fl80_5, Ty.fl80_6, Ty.fl80_7, DAct.cells_length, DAct.cells_flat, DAct.cells_take, DAct.get0, DAct.get7, *]; rfl)
      )
    refine aw_for [2, 3, 4, 39, 40] (fun k T h' => ∃ X, h' = h ++ ⟨2, 6, cellsL (tickK (now + a.many) items k)⟩ :: (L ++ ⟨2, 1, [.int .i64 (now + a.many), vp, .slice (some ⟨h.length, 0, some 0⟩) items.length items.length]⟩ :: ⟨2, 1, a.cells⟩ :: ⟨2, 1, [.int .i64 0, .slice none 0 0, .slice none 0 0]⟩ :: X) ∧ T 41 = .int .i64 (k : Nat))
      items.length (k0 := 0) (Nat.zero_le _) ⟨[⟨2, 1, [.int .i64 0, .int .i64 0, .int .i64 0, .int .i64 1, .int .i64 (-1), .int .i64 0]⟩], ?_, rfl⟩ ?_
    · rw [tickK_zero]
    rintro k T h' hk hR ⟨X, rfl, h22⟩
    simp only [Z37, Z38, Z39, implies_true, and_true, stp, ev, Zb, Z2e, Z1z, Zk, Zl, reduceIte, Nat.reduceEqDiff, Zj, Zz, Zu, Z16, Z1a, Zm, Zp, Zo, Zd, Zx, Z2b, Z2x, Z1g, Z17, Zq, Zn, Zv, Z2p, Z2f, Z2o, Z2d, Z2g, Z1c, Z1b, Z2i, Z2n, Z2h, Z2j, Z2k, Z2l, Z2m, Z31, Z8, Z5, Z13, Zy] at hR
    rcases Nat.lt_or_ge k items.length with hkn | hkn
    · have h1 : (k : Int) < items.length := by omega
      obtain ⟨pre, post, hpl, e1, e2⟩ := tickK_mid (now + a.many) hkn
      generalize hx : items[k] = x at e1 e2
      rw [e1]
      replace hpl := hpl.symm
      obtain ⟨xc, xt, xr, xs, xw, xl⟩ := x
      simp only [tickI, Item.cells, Zc, Zd] at e2 ⊢
      clear e1 hx
      by_cases hcd : xs = 2 ∧ xl ≤ now + a.many
      · simp only [if_pos hcd] at e2
        have d1 : decide (xs = 2) = true := decide_eq_true hcd.1
        have d2 : decide (xl ≤ now + a.many) = true := decide_eq_true hcd.2
        clear hcd
        repeat' (first
          | ((with_reducible refine eq_go ?_); simp only [stp, ev, Zb, Z2e, Z1z, Zk, Zl, reduceIte, Nat.reduceEqDiff, Zj, Zz, Zu, Z16, Z1a, Zm, Zp, Zo, Zd, Zx, Z2b, Z2x, Z1g, Z17, Zq, Zn, Zv, Z2p, Z2f, Z2o, Z2d, Z2g, Z1c, Z1b, Z2i, Z2n, Z2h, Z2j, Z2k, Z2l, Z2m, Z31, Z8, Z5, Z13, Zy, bld, fillL, vcs, splice, Ze, Z1, Z0, Z35, ldv, stv, vcs, fldA, idxA, blt, lenV, Z10, Z3, Z2, Zf, Zg, Ze, Z1, Z0, Z14, Zw, Zh, Zr, Z33, Z15, Z7, Zc, Z6, Z3, Z2, Zf, Zi, Nat.reduceAdd, Nat.reduceMul, Nat.reduceLeDiff, Z11, Z12, Z1y, Z1h, Z2c, Z23, Z28, Z27, Z26, Z25, Z24, Z1m, Z1l, Z1k, Z1j, Z1i, Z1w, Z1v, Z1u, Z1t, Z1s, Z32, Z2y, Z2q, Z2r, Z2s, Z20, Z1q, Z1r, Z2z, Z2t, Z21, Z22, splice, Za, Z9, Z1, Z0, Z19, Zt, Zs, Z18, newB, vcs, Z30, Z2v, Z1x, Z29, Z1n, Z2u, Z1o, Z1f, Z1p, Z1d, Z1e, Ty.ld3, Ty.sz3, Ty.zc3, Ty.by3, Ty.ld24, Ty.sz24, Ty.sl24, Ty.zc24, Ty.by24, Ty.ld56, Ty.sz56, Ty.sl56, Ty.zc56, Ty.by56, Ty.ld58, Ty.sz58, Ty.zc58, Ty.by58, Ty.pl58, Ty.fl58_0, Ty.fl58_1, Ty.fl58_2, Ty.ld77, Ty.sz77, Ty.zc77, Ty.by77, Ty.pl77, Ty.fl77_0, Ty.fl77_1, Ty.fl77_2, Ty.fl77_3, Ty.fl77_4, Ty.fl77_5, Ty.ld80, Ty.sz80, Ty.zc80, Ty.by80, Ty.pl80, Ty.fl80_0, Ty.fl80_1, Ty.fl80_2, Ty.fl80_3, Ty.fl80_4, Ty.fl80_5, Ty.fl80_6, Ty.fl80_7, get_mid, get_mid0, splice_pre, splice_pre0, set_mid, set_mid0, drop_mid, Nat.add_le_add_iff_left, Nat.le_add_left, *]; rfl)
          | (with_reducible refine aw_then ?_) | (with_reducible refine aw_skip ?_) | (with_reducible refine aw_ret ?_) | (with_reducible refine aw_exit ?_) | (with_reducible refine aw_block ?_) | (with_reducible refine xr_reg (by decide +kernel) ?_)
          | (with_reducible refine xr_nil ?_) | (with_reducible refine k_norm ?_) | (with_reducible refine k_ret ?_) | (with_reducible refine k_exit ?_) | (with_reducible refine b_norm ?_) | (with_reducible refine b_ret ?_) | (with_reducible refine b_exit ?_) | (with_reducible refine b_past (by decide) ?_)
          | (refine xr_do (v := ?_) (h' := ?_) (by exact rfl) ?_ ?_; rotate_left 2)
          | (refine xr_st (v := ?_) (h' := ?_) (by exact rfl) ?_ ?_; rotate_left 2)
          | (refine xr_gdo (v := ?_) (h' := ?_) (by exact rfl) (by exact rfl) ?_ ?_ ?_
             rotate_left 2
             · simp only [ev, Zb, reduceIte, Nat.reduceEqDiff, Z8, Z5, *])
          | (refine xr_gst (v := ?_) (h' := ?_) (by exact rfl) (by exact rfl) ?_ ?_ ?_
             rotate_left 2
             · simp only [ev, Zb, reduceIte, Nat.reduceEqDiff, Z8, Z5, *])
          | (refine xr_goff (by exact rfl) ?_ ?_
             · simp only [ev, Zb, reduceIte, Nat.reduceEqDiff, Z8, Z5, *])
          | (refine xr_gsoff (by exact rfl) ?_ ?_
             · simp only [ev, Zb, reduceIte, Nat.reduceEqDiff, Z8, Z5, *])
          | (refine xr_gund (by exact rfl) ?_ ?_
             · simp only [ev, Zb, reduceIte, Nat.reduceEqDiff, Z8, Z5, *])
          | (refine xr_gsund (by exact rfl) ?_ ?_
             · simp only [ev, Zb, reduceIte, Nat.reduceEqDiff, Z8, Z5, *])
          | (refine xr_gif (b := ?_) (by exact rfl) ?_ (fun hb => ?_) (fun hb => ?_)
             rotate_left 1
             · simp only [ev, Zb, reduceIte, Nat.reduceEqDiff, Z8, Z5, *]; rfl)
          | (refine aw_ift (by decide) ?_ ?_
             · simp only [ev, Zb, reduceIte, Nat.reduceEqDiff, *])
          | (refine aw_iff (by decide) ?_ ?_
             · simp only [ev, Zb, reduceIte, Nat.reduceEqDiff, *])
          | (refine aw_if (b := ?_) (by decide) ?_ (fun hb => ?_) (fun hb => ?_)
             rotate_left 1
             · simp only [ev, Zb, reduceIte, Nat.reduceEqDiff, *]; rfl)
          | (refine r_ret (vs := ?_) ?_ ?_
             rotate_left 1
             · simp only [resV, oneOf, stp, ev, Zb, Z2e, Z1z, Zk, Zl, reduceIte, Nat.reduceEqDiff, Zj, Zz, Zu, Z16, Z1a, Zm, Zp, Zo, Zd, Zx, Z2b, Z2x, Z1g, Z17, Zq, Zn, Zv, Z2p, Z2f, Z2o, Z2d, Z2g, Z1c, Z1b, Z2i, Z2n, Z2h, Z2j, Z2k, Z2l, Z2m, Z31, Z8, Z5, Z13, Zy, bld, fillL, vcs, splice, Ze, Z1, Z0, Z35, ldv, stv, vcs, fldA, idxA, blt, lenV, Z10, Z3, Z2, Zf, Zg, Ze, Z1, Z0, Z14, Zw, Zh, Zr, Z33, Z15, Z7, Zc, Z6, Z3, Z2, Zf, Zi, Nat.reduceAdd, Nat.reduceMul, Nat.reduceLeDiff, Z11, Z12, Z1y, Z1h, Z2c, Z23, Z28, Z27, Z26, Z25, Z24, Z1m, Z1l, Z1k, Z1j, Z1i, Z1w, Z1v, Z1u, Z1t, Z1s, Z32, Z2y, Z2q, Z2r, Z2s, Z20, Z1q, Z1r, Z2z, Z2t, Z21, Z22, splice, Za, Z9, Z1, Z0, Z19, Zt, Zs, Z18, newB, vcs, Z30, Z2v, Z1x, Z29, Z1n, Z2u, Z1o, Z1f, Z1p, Z1d, Z1e, Ty.ld3, Ty.sz3, Ty.zc3, Ty.by3, Ty.ld24, Ty.sz24, Ty.sl24, Ty.zc24, Ty.by24, Ty.ld56, Ty.sz56, Ty.sl56, Ty.zc56, Ty.by56, Ty.ld58, Ty.sz58, Ty.zc58, Ty.by58, Ty.pl58, Ty.fl58_0, Ty.fl58_1, Ty.fl58_2, Ty.ld77, Ty.sz77, Ty.zc77, Ty.by77, Ty.pl77, Ty.fl77_0, Ty.fl77_1, Ty.fl77_2, Ty.fl77_3, Ty.fl77_4, Ty.fl77_5, Ty.ld80, Ty.sz80, Ty.zc80, Ty.by80, Ty.pl80, Ty.fl80_0, Ty.fl80_1, Ty.fl80_2, Ty.fl80_3, Ty.fl80_4, Ty.fl80_5, Ty.fl80_6, Ty.fl80_7, get_mid, get_mid0, splice_pre, splice_pre0, set_mid, set_mid0, drop_mid, Nat.add_le_add_iff_left, Nat.le_add_left, *]; rfl)
          )
        refine ⟨by first | assumption | omega, ?_, ?_⟩
        · simp only [Z37, Z38, Z39, implies_true, and_true, Z2b, stp, ev, Zb, Z2e, Z1z, Zk, Zl, reduceIte, Nat.reduceEqDiff, Zj, Zz, Zu, Z16, Z1a, Zm, Zp, Zo, Zd, Zx, Z2b, Z2x, Z1g, Z17, Zq, Zn, Zv, Z2p, Z2f, Z2o, Z2d, Z2g, Z1c, Z1b, Z2i, Z2n, Z2h, Z2j, Z2k, Z2l, Z2m, Z31, Z8, Z5, Z13, Zy, *]
        refine ⟨_, by rw [e2], ?_⟩
        simp only [Zb, reduceIte, Nat.reduceEqDiff]
        rw [wrap_id (by omega)]; rfl
      · simp only [if_neg hcd] at e2
        rcases Bool.eq_false_or_eq_true (decide (xs = 2)) with d1 | d1
        · have d2 : decide (xl ≤ now + a.many) = false := decide_eq_false fun q => hcd ⟨of_decide_eq_true d1, q⟩
          clear hcd
          repeat' (first
            | ((with_reducible refine eq_go ?_); simp only [stp, ev, Zb, Z2e, Z1z, Zk, Zl, reduceIte, Nat.reduceEqDiff, Zj, Zz, Zu, Z16, Z1a, Zm, Zp, Zo, Zd, Zx, Z2b, Z2x, Z1g, Z17, Zq, Zn, Zv, Z2p, Z2f, Z2o, Z2d, Z2g, Z1c, Z1b, Z2i, Z2n, Z2h, Z2j, Z2k, Z2l, Z2m, Z31, Z8, Z5, Z13, Zy, bld, fillL, vcs, splice, Ze, Z1, Z0, Z35, ldv, stv, vcs, fldA, idxA, blt, lenV, Z10, Z3, Z2, Zf, Zg, Ze, Z1, Z0, Z14, Zw, Zh, Zr, Z33, Z15, Z7, Zc, Z6, Z3, Z2, Zf, Zi, Nat.reduceAdd, Nat.reduceMul, Nat.reduceLeDiff, Z11, Z12, Z1y, Z1h, Z2c, Z23, Z28, Z27, Z26, Z25, Z24, Z1m, Z1l, Z1k, Z1j, Z1i, Z1w, Z1v, Z1u, Z1t, Z1s, Z32, Z2y, Z2q, Z2r, Z2s, Z20, Z1q, Z1r, Z2z, Z2t, Z21, Z22, splice, Za, Z9, Z1, Z0, Z19, Zt, Zs, Z18, newB, vcs, Z30, Z2v, Z1x, Z29, Z1n, Z2u, Z1o, Z1f, Z1p, Z1d, Z1e, Ty.ld3, Ty.sz3, Ty.zc3, Ty.by3, Ty.ld24, Ty.sz24, Ty.sl24, Ty.zc24, Ty.by24, Ty.ld56, Ty.sz56, Ty.sl56, Ty.zc56, Ty.by56, Ty.ld58, Ty.sz58, Ty.zc58, Ty.by58, Ty.pl58, Ty.fl58_0, Ty.fl58_1, Ty.fl58_2, Ty.ld77, Ty.sz77, Ty.zc77, Ty.by77, Ty.pl77, Ty.fl77_0, Ty.fl77_1, Ty.fl77_2, Ty.fl77_3, Ty.fl77_4, Ty.fl77_5, Ty.ld80, Ty.sz80, Ty.zc80, Ty.by80, Ty.pl80, Ty.fl80_0, Ty.fl80_1, Ty.fl80_2, Ty.fl80_3, Ty.fl80_4, Ty.fl80_5, Ty.fl80_6, Ty.fl80_7, get_mid, get_mid0, splice_pre, splice_pre0, set_mid, set_mid0, drop_mid, Nat.add_le_add_iff_left, Nat.le_add_left, *]; rfl)
            | (with_reducible refine aw_then ?_) | (with_reducible refine aw_skip ?_) | (with_reducible refine aw_ret ?_) | (with_reducible refine aw_exit ?_) | (with_reducible refine aw_block ?_) | (with_reducible refine xr_reg (by decide +kernel) ?_)
            | (with_reducible refine xr_nil ?_) | (with_reducible refine k_norm ?_) | (with_reducible refine k_ret ?_) | (with_reducible refine k_exit ?_) | (with_reducible refine b_norm ?_) | (with_reducible refine b_ret ?_) | (with_reducible refine b_exit ?_) | (with_reducible refine b_past (by decide) ?_)
            | (refine xr_do (v := ?_) (h' := ?_) (by exact rfl) ?_ ?_; rotate_left 2)
            | (refine xr_st (v := ?_) (h' := ?_) (by exact rfl) ?_ ?_; rotate_left 2)
            | (refine xr_gdo (v := ?_) (h' := ?_) (by exact rfl) (by exact rfl) ?_ ?_ ?_
               rotate_left 2
               · simp only [ev, Zb, reduceIte, Nat.reduceEqDiff, Z8, Z5, *])
            | (refine xr_gst (v := ?_) (h' := ?_) (by exact rfl) (by exact rfl) ?_ ?_ ?_
               rotate_left 2
               · simp only [ev, Zb, reduceIte, Nat.reduceEqDiff, Z8, Z5, *])
            | (refine xr_goff (by exact rfl) ?_ ?_
               · simp only [ev, Zb, reduceIte, Nat.reduceEqDiff, Z8, Z5, *])
            | (refine xr_gsoff (by exact rfl) ?_ ?_
               · simp only [ev, Zb, reduceIte, Nat.reduceEqDiff, Z8, Z5, *])
            | (refine xr_gund (by exact rfl) ?_ ?_
               · simp only [ev, Zb, reduceIte, Nat.reduceEqDiff, Z8, Z5, *])
            | (refine xr_gsund (by exact rfl) ?_ ?_
               · simp only [ev, Zb, reduceIte, Nat.reduceEqDiff, Z8, Z5, *])
            | (refine xr_gif (b := ?_) (by exact rfl) ?_ (fun hb => ?_) (fun hb => ?_)
               rotate_left 1
               · simp only [ev, Zb, reduceIte, Nat.reduceEqDiff, Z8, Z5, *]; rfl)
            | (refine aw_ift (by decide) ?_ ?_
               · simp only [ev, Zb, reduceIte, Nat.reduceEqDiff, *])
            | (refine aw_iff (by decide) ?_ ?_
               · simp only [ev, Zb, reduceIte, Nat.reduceEqDiff, *])
            | (refine aw_if (b := ?_) (by decide) ?_ (fun hb => ?_) (fun hb => ?_)
               rotate_left 1
               · simp only [ev, Zb, reduceIte, Nat.reduceEqDiff, *]; rfl)
            | (refine r_ret (vs := ?_) ?_ ?_
               rotate_left 1
               · simp only [resV, oneOf, stp, ev, Zb, Z2e, Z1z, Zk, Zl, reduceIte, Nat.reduceEqDiff, Zj, Zz, Zu, Z16, Z1a, Zm, Zp, Zo, Zd, Zx, Z2b, Z2x, Z1g, Z17, Zq, Zn, Zv, Z2p, Z2f, Z2o, Z2d, Z2g, Z1c, Z1b, Z2i, Z2n, Z2h, Z2j, Z2k, Z2l, Z2m, Z31, Z8, Z5, Z13, Zy, bld, fillL, vcs, splice, Ze, Z1, Z0, Z35, ldv, stv, vcs, fldA, idxA, blt, lenV, Z10, Z3, Z2, Zf, Zg, Ze, Z1, Z0, Z14, Zw, Zh, Zr, Z33, Z15, Z7, Zc, Z6, Z3, Z2, Zf, Zi, Nat.reduceAdd, Nat.reduceMul, Nat.reduceLeDiff, Z11, Z12, Z1y, Z1h, Z2c, Z23, Z28, Z27, Z26, Z25, Z24, Z1m, Z1l, Z1k, Z1j, Z1i, Z1w, Z1v, Z1u, Z1t, Z1s, Z32, Z2y, Z2q, Z2r, Z2s, Z20, Z1q, Z1r, Z2z, Z2t, Z21, Z22, splice, Za, Z9, Z1, Z0, Z19, Zt, Zs, Z18, newB, vcs, Z30, Z2v, Z1x, Z29, Z1n, Z2u, Z1o, Z1f, Z1p, Z1d, Z1e, Ty.ld3, Ty.sz3, Ty.zc3, Ty.by3, Ty.ld24, Ty.sz24, Ty.sl24, Ty.zc24, Ty.by24, Ty.ld56, Ty.sz56, Ty.sl56, Ty.zc56, Ty.by56, Ty.ld58, Ty.sz58, Ty.zc58, Ty.by58, Ty.pl58, Ty.fl58_0, Ty.fl58_1, Ty.fl58_2, Ty.ld77, Ty.sz77, Ty.zc77, Ty.by77, Ty.pl77, Ty.fl77_0, Ty.fl77_1, Ty.fl77_2, Ty.fl77_3, Ty.fl77_4, Ty.fl77_5, Ty.ld80, Ty.sz80, Ty.zc80, Ty.by80, Ty.pl80, Ty.fl80_0, Ty.fl80_1, Ty.fl80_2, Ty.fl80_3, Ty.fl80_4, Ty.fl80_5, Ty.fl80_6, Ty.fl80_7, get_mid, get_mid0, splice_pre, splice_pre0, set_mid, set_mid0, drop_mid, Nat.add_le_add_iff_left, Nat.le_add_left, *]; rfl)
            )
          refine ⟨by first | assumption | omega, ?_, ?_⟩
          · simp only [Z37, Z38, Z39, implies_true, and_true, Z2b, stp, ev, Zb, Z2e, Z1z, Zk, Zl, reduceIte, Nat.reduceEqDiff, Zj, Zz, Zu, Z16, Z1a, Zm, Zp, Zo, Zd, Zx, Z2b, Z2x, Z1g, Z17, Zq, Zn, Zv, Z2p, Z2f, Z2o, Z2d, Z2g, Z1c, Z1b, Z2i, Z2n, Z2h, Z2j, Z2k, Z2l, Z2m, Z31, Z8, Z5, Z13, Zy, *]
          refine ⟨_, by rw [e2], ?_⟩
          simp only [Zb, reduceIte, Nat.reduceEqDiff]
          rw [wrap_id (by omega)]; rfl
        · clear hcd
          repeat' (first
            | ((with_reducible refine eq_go ?_); simp only [stp, ev, Zb, Z2e, Z1z, Zk, Zl, reduceIte, Nat.reduceEqDiff, Zj, Zz, Zu, Z16, Z1a, Zm, Zp, Zo, Zd, Zx, Z2b, Z2x, Z1g, Z17, Zq, Zn, Zv, Z2p, Z2f, Z2o, Z2d, Z2g, Z1c, Z1b, Z2i, Z2n, Z2h, Z2j, Z2k, Z2l, Z2m, Z31, Z8, Z5, Z13, Zy, bld, fillL, vcs, splice, Ze, Z1, Z0, Z35, ldv, stv, vcs, fldA, idxA, blt, lenV, Z10, Z3, Z2, Zf, Zg, Ze, Z1, Z0, Z14, Zw, Zh, Zr, Z33, Z15, Z7, Zc, Z6, Z3, Z2, Zf, Zi, Nat.reduceAdd, Nat.reduceMul, Nat.reduceLeDiff, Z11, Z12, Z1y, Z1h, Z2c, Z23, Z28, Z27, Z26, Z25, Z24, Z1m, Z1l, Z1k, Z1j, Z1i, Z1w, Z1v, Z1u, Z1t, Z1s, Z32, Z2y, Z2q, Z2r, Z2s, Z20, Z1q, Z1r, Z2z, Z2t, Z21, Z22, splice, Za, Z9, Z1, Z0, Z19, Zt, Zs, Z18, newB, vcs, Z30, Z2v, Z1x, Z29, Z1n, Z2u, Z1o, Z1f, Z1p, Z1d, Z1e, Ty.ld3, Ty.sz3, Ty.zc3, Ty.by3, Ty.ld24, Ty.sz24, Ty.sl24, Ty.zc24, Ty.by24, Ty.ld56, Ty.sz56, Ty.sl56, Ty.zc56, Ty.by56, Ty.ld58, Ty.sz58, Ty.zc58, Ty.by58, Ty.pl58, Ty.fl58_0, Ty.fl58_1, Ty.fl58_2, Ty.ld77, Ty.sz77, Ty.zc77, Ty.by77, Ty.pl77, Ty.fl77_0, Ty.fl77_1, Ty.fl77_2, Ty.fl77_3, Ty.fl77_4, Ty.fl77_5, Ty.ld80, Ty.sz80, Ty.zc80, Ty.by80, Ty.pl80, Ty.fl80_0, Ty.fl80_1, Ty.fl80_2, Ty.fl80_3, Ty.fl80_4, Ty.fl80_5, Ty.fl80_6, Ty.fl80_7, get_mid, get_mid0, splice_pre, splice_pre0, set_mid, set_mid0, drop_mid, Nat.add_le_add_iff_left, Nat.le_add_left, *]; rfl)
            | (with_reducible refine aw_then ?_) | (with_reducible refine aw_skip ?_) | (with_reducible refine aw_ret ?_) | (with_reducible refine aw_exit ?_) | (with_reducible refine aw_block ?_) | (with_reducible refine xr_reg (by decide +kernel) ?_)
            | (with_reducible refine xr_nil ?_) | (with_reducible refine k_norm ?_) | (with_reducible refine k_ret ?_) | (with_reducible refine k_exit ?_) | (with_reducible refine b_norm ?_) | (with_reducible refine b_ret ?_) | (with_reducible refine b_exit ?_) | (with_reducible refine b_past (by decide) ?_)
            | (refine xr_do (v := ?_) (h' := ?_) (by exact rfl) ?_ ?_; rotate_left 2)
            | (refine xr_st (v := ?_) (h' := ?_) (by exact rfl) ?_ ?_; rotate_left 2)
            | (refine xr_gdo (v := ?_) (h' := ?_) (by exact rfl) (by exact rfl) ?_ ?_ ?_
               rotate_left 2
               · simp only [ev, Zb, reduceIte, Nat.reduceEqDiff, Z8, Z5, *])
            | (refine xr_gst (v := ?_) (h' := ?_) (by exact rfl) (by exact rfl) ?_ ?_ ?_
               rotate_left 2
               · simp only [ev, Zb, reduceIte, Nat.reduceEqDiff, Z8, Z5, *])
            | (refine xr_goff (by exact rfl) ?_ ?_
               · simp only [ev, Zb, reduceIte, Nat.reduceEqDiff, Z8, Z5, *])
            | (refine xr_gsoff (by exact rfl) ?_ ?_
               · simp only [ev, Zb, reduceIte, Nat.reduceEqDiff, Z8, Z5, *])
            | (refine xr_gund (by exact rfl) ?_ ?_
               · simp only [ev, Zb, reduceIte, Nat.reduceEqDiff, Z8, Z5, *])
            | (refine xr_gsund (by exact rfl) ?_ ?_
               · simp only [ev, Zb, reduceIte, Nat.reduceEqDiff, Z8, Z5, *])
            | (refine xr_gif (b := ?_) (by exact rfl) ?_ (fun hb => ?_) (fun hb => ?_)
               rotate_left 1
               · simp only [ev, Zb, reduceIte, Nat.reduceEqDiff, Z8, Z5, *]; rfl)
            | (refine aw_ift (by decide) ?_ ?_
               · simp only [ev, Zb, reduceIte, Nat.reduceEqDiff, *])
            | (refine aw_iff (by decide) ?_ ?_
               · simp only [ev, Zb, reduceIte, Nat.reduceEqDiff, *])
            | (refine aw_if (b := ?_) (by decide) ?_ (fun hb => ?_) (fun hb => ?_)
               rotate_left 1
               · simp only [ev, Zb, reduceIte, Nat.reduceEqDiff, *]; rfl)
            | (refine r_ret (vs := ?_) ?_ ?_
               rotate_left 1
               · simp only [resV, oneOf, stp, ev, Zb, Z2e, Z1z, Zk, Zl, reduceIte, Nat.reduceEqDiff, Zj, Zz, Zu, Z16, Z1a, Zm, Zp, Zo, Zd, Zx, Z2b, Z2x, Z1g, Z17, Zq, Zn, Zv, Z2p, Z2f, Z2o, Z2d, Z2g, Z1c, Z1b, Z2i, Z2n, Z2h, Z2j, Z2k, Z2l, Z2m, Z31, Z8, Z5, Z13, Zy, bld, fillL, vcs, splice, Ze, Z1, Z0, Z35, ldv, stv, vcs, fldA, idxA, blt, lenV, Z10, Z3, Z2, Zf, Zg, Ze, Z1, Z0, Z14, Zw, Zh, Zr, Z33, Z15, Z7, Zc, Z6, Z3, Z2, Zf, Zi, Nat.reduceAdd, Nat.reduceMul, Nat.reduceLeDiff, Z11, Z12, Z1y, Z1h, Z2c, Z23, Z28, Z27, Z26, Z25, Z24, Z1m, Z1l, Z1k, Z1j, Z1i, Z1w, Z1v, Z1u, Z1t, Z1s, Z32, Z2y, Z2q, Z2r, Z2s, Z20, Z1q, Z1r, Z2z, Z2t, Z21, Z22, splice, Za, Z9, Z1, Z0, Z19, Zt, Zs, Z18, newB, vcs, Z30, Z2v, Z1x, Z29, Z1n, Z2u, Z1o, Z1f, Z1p, Z1d, Z1e, Ty.ld3, Ty.sz3, Ty.zc3, Ty.by3, Ty.ld24, Ty.sz24, Ty.sl24, Ty.zc24, Ty.by24, Ty.ld56, Ty.sz56, Ty.sl56, Ty.zc56, Ty.by56, Ty.ld58, Ty.sz58, Ty.zc58, Ty.by58, Ty.pl58, Ty.fl58_0, Ty.fl58_1, Ty.fl58_2, Ty.ld77, Ty.sz77, Ty.zc77, Ty.by77, Ty.pl77, Ty.fl77_0, Ty.fl77_1, Ty.fl77_2, Ty.fl77_3, Ty.fl77_4, Ty.fl77_5, Ty.ld80, Ty.sz80, Ty.zc80, Ty.by80, Ty.pl80, Ty.fl80_0, Ty.fl80_1, Ty.fl80_2, Ty.fl80_3, Ty.fl80_4, Ty.fl80_5, Ty.fl80_6, Ty.fl80_7, get_mid, get_mid0, splice_pre, splice_pre0, set_mid, set_mid0, drop_mid, Nat.add_le_add_iff_left, Nat.le_add_left, *]; rfl)
            )
          refine ⟨by first | assumption | omega, ?_, ?_⟩
          · simp only [Z37, Z38, Z39, implies_true, and_true, Z2b, stp, ev, Zb, Z2e, Z1z, Zk, Zl, reduceIte, Nat.reduceEqDiff, Zj, Zz, Zu, Z16, Z1a, Zm, Zp, Zo, Zd, Zx, Z2b, Z2x, Z1g, Z17, Zq, Zn, Zv, Z2p, Z2f, Z2o, Z2d, Z2g, Z1c, Z1b, Z2i, Z2n, Z2h, Z2j, Z2k, Z2l, Z2m, Z31, Z8, Z5, Z13, Zy, *]
          refine ⟨_, by rw [e2], ?_⟩
          simp only [Zb, reduceIte, Nat.reduceEqDiff]
          rw [wrap_id (by omega)]; rfl
    · have h1 : ¬ (k : Int) < items.length := by omega
      rw [tickK_all _ hkn]
      repeat' (first
        | ((with_reducible refine eq_go ?_); simp only [stp, ev, Zb, Z2e, Z1z, Zk, Zl, reduceIte, Nat.reduceEqDiff, Zj, Zz, Zu, Z16, Z1a, Zm, Zp, Zo, Zd, Zx, Z2b, Z2x, Z1g, Z17, Zq, Zn, Zv, Z2p, Z2f, Z2o, Z2d, Z2g, Z1c, Z1b, Z2i, Z2n, Z2h, Z2j, Z2k, Z2l, Z2m, Z31, Z8, Z5, Z13, Zy, bld, fillL, vcs, splice, Ze, Z1, Z0, Z35, ldv, stv, vcs, fldA, idxA, blt, lenV, Z10, Z3, Z2, Zf, Zg, Ze, Z1, Z0, Z14, Zw, Zh, Zr, Z33, Z15, Z7, Zc, Z6, Z3, Z2, Zf, Zi, Nat.reduceAdd, Nat.reduceMul, Nat.reduceLeDiff, Z11, Z12, Z1y, Z1h, Z2c, Z23, Z28, Z27, Z26, Z25, Z24, Z1m, Z1l, Z1k, Z1j, Z1i, Z1w, Z1v, Z1u, Z1t, Z1s, Z32, Z2y, Z2q, Z2r, Z2s, Z20, Z1q, Z1r, Z2z, Z2t, Z21, Z22, splice, Za, Z9, Z1, Z0, Z19, Zt, Zs, Z18, newB, vcs, Z30, Z2v, Z1x, Z29, Z1n, Z2u, Z1o, Z1f, Z1p, Z1d, Z1e, Ty.ld3, Ty.sz3, Ty.zc3, Ty.by3, Ty.ld24, Ty.sz24, Ty.sl24, Ty.zc24, Ty.by24, Ty.ld56, Ty.sz56, Ty.sl56, Ty.zc56, Ty.by56, Ty.ld58, Ty.sz58, Ty.zc58, Ty.by58, Ty.pl58, Ty.fl58_0, Ty.fl58_1, Ty.fl58_2, Ty.ld77, Ty.sz77, Ty.zc77, Ty.by77, Ty.pl77, Ty.fl77_0, Ty.fl77_1, Ty.fl77_2, Ty.fl77_3, Ty.fl77_4, Ty.fl77_5, Ty.ld80, Ty.sz80, Ty.zc80, Ty.by80, Ty.pl80, Ty.fl80_0, Ty.fl80_1, Ty.fl80_2, Ty.fl80_3, Ty.fl80_4, Ty.fl80_5, Ty.fl80_6, Ty.fl80_7, *]; rfl)
        | (with_reducible refine aw_then ?_) | (with_reducible refine aw_skip ?_) | (with_reducible refine aw_ret ?_) | (with_reducible refine aw_exit ?_) | (with_reducible refine aw_block ?_) | (with_reducible refine xr_reg (by decide +kernel) ?_)
        | (with_reducible refine xr_nil ?_) | (with_reducible refine k_norm ?_) | (with_reducible refine k_ret ?_) | (with_reducible refine k_exit ?_) | (with_reducible refine b_norm ?_) | (with_reducible refine b_ret ?_) | (with_reducible refine b_exit ?_) | (with_reducible refine b_past (by decide) ?_)
        | (refine xr_do (v := ?_) (h' := ?_) (by exact rfl) ?_ ?_; rotate_left 2)
        | (refine xr_st (v := ?_) (h' := ?_) (by exact rfl) ?_ ?_; rotate_left 2)
        | (refine xr_gdo (v := ?_) (h' := ?_) (by exact rfl) (by exact rfl) ?_ ?_ ?_
           rotate_left 2
           · simp only [ev, Zb, reduceIte, Nat.reduceEqDiff, Z8, Z5, *])
        | (refine xr_gst (v := ?_) (h' := ?_) (by exact rfl) (by exact rfl) ?_ ?_ ?_
           rotate_left 2
           · simp only [ev, Zb, reduceIte, Nat.reduceEqDiff, Z8, Z5, *])
        | (refine xr_goff (by exact rfl) ?_ ?_
           · simp only [ev, Zb, reduceIte, Nat.reduceEqDiff, Z8, Z5, *])
        | (refine xr_gsoff (by exact rfl) ?_ ?_
           · simp only [ev, Zb, reduceIte, Nat.reduceEqDiff, Z8, Z5, *])
        | (refine xr_gund (by exact rfl) ?_ ?_
           · simp only [ev, Zb, reduceIte, Nat.reduceEqDiff, Z8, Z5, *])
        | (refine xr_gsund (by exact rfl) ?_ ?_
           · simp only [ev, Zb, reduceIte, Nat.reduceEqDiff, Z8, Z5, *])
        | (refine xr_gif (b := ?_) (by exact rfl) ?_ (fun hb => ?_) (fun hb => ?_)
           rotate_left 1
           · simp only [ev, Zb, reduceIte, Nat.reduceEqDiff, Z8, Z5, *]; rfl)
        | (refine aw_ift (by decide) ?_ ?_
           · simp only [ev, Zb, reduceIte, Nat.reduceEqDiff, *])
        | (refine aw_iff (by decide) ?_ ?_
           · simp only [ev, Zb, reduceIte, Nat.reduceEqDiff, *])
        | (refine aw_if (b := ?_) (by decide) ?_ (fun hb => ?_) (fun hb => ?_)
           rotate_left 1
           · simp only [ev, Zb, reduceIte, Nat.reduceEqDiff, *]; rfl)
        | (refine r_ret (vs := ?_) ?_ ?_
           rotate_left 1
           · simp only [resV, oneOf, stp, ev, Zb, Z2e, Z1z, Zk, Zl, reduceIte, Nat.reduceEqDiff, Zj, Zz, Zu, Z16, Z1a, Zm, Zp, Zo, Zd, Zx, Z2b, Z2x, Z1g, Z17, Zq, Zn, Zv, Z2p, Z2f, Z2o, Z2d, Z2g, Z1c, Z1b, Z2i, Z2n, Z2h, Z2j, Z2k, Z2l, Z2m, Z31, Z8, Z5, Z13, Zy, bld, fillL, vcs, splice, Ze, Z1, Z0, Z35, ldv, stv, vcs, fldA, idxA, blt, lenV, Z10, Z3, Z2, Zf, Zg, Ze, Z1, Z0, Z14, Zw, Zh, Zr, Z33, Z15, Z7, Zc, Z6, Z3, Z2, Zf, Zi, Nat.reduceAdd, Nat.reduceMul, Nat.reduceLeDiff, Z11, Z12, Z1y, Z1h, Z2c, Z23, Z28, Z27, Z26, Z25, Z24, Z1m, Z1l, Z1k, Z1j, Z1i, Z1w, Z1v, Z1u, Z1t, Z1s, Z32, Z2y, Z2q, Z2r, Z2s, Z20, Z1q, Z1r, Z2z, Z2t, Z21, Z22, splice, Za, Z9, Z1, Z0, Z19, Zt, Zs, Z18, newB, vcs, Z30, Z2v, Z1x, Z29, Z1n, Z2u, Z1o, Z1f, Z1p, Z1d, Z1e, Ty.ld3, Ty.sz3, Ty.zc3, Ty.by3, Ty.ld24, Ty.sz24, Ty.sl24, Ty.zc24, Ty.by24, Ty.ld56, Ty.sz56, Ty.sl56, Ty.zc56, Ty.by56, Ty.ld58, Ty.sz58, Ty.zc58, Ty.by58, Ty.pl58, Ty.fl58_0, Ty.fl58_1, Ty.fl58_2, Ty.ld77, Ty.sz77, Ty.zc77, Ty.by77, Ty.pl77, Ty.fl77_0, Ty.fl77_1, Ty.fl77_2, Ty.fl77_3, Ty.fl77_4, Ty.fl77_5, Ty.ld80, Ty.sz80, Ty.zc80, Ty.by80, Ty.pl80, Ty.fl80_0, Ty.fl80_1, Ty.fl80_2, Ty.fl80_3, Ty.fl80_4, Ty.fl80_5, Ty.fl80_6, Ty.fl80_7, *]; rfl)
        )
      rw [← hml]
      refine desk_keep1 (.inl rfl) ?_ (.inr rfl) hids; simp
  have hk8' : decide (a.kind = 8) = false := decide_eq_false hk8
  simp only [doNow, doItems, if_neg hk1, if_neg hk8]
  obtain ⟨hi0, hi1⟩ : inRange items a := by rcases hin with q | q | q <;> first | exact absurd q hk1 | exact absurd q hk8 | exact q
  have hi2 : a.item < (items.length : Int) := by omega
  have hi3 : a.item.toNat < items.length := by omega
  have hmid := cellsL_mid hi3
  have hset := cellsL_set hi3 (doS now items[a.item.toNat] a)
  have hpl : a.item.toNat * 6 = (cellsL (items.take a.item.toNat)).length := by rw [cellsL_len, List.length_take, Nat.min_eq_left (by omega)]
  have hgd : items.getD a.item.toNat Item.nil = items[a.item.toNat] := by rw [List.getD_eq_getElem?_getD, List.getElem?_eq_getElem hi3]; rfl
  have hil2 : (items.set a.item.toNat (doS now items[a.item.toNat] a)).length = items.length := by simp
  rw [hgd, hil2]
  generalize items[a.item.toNat] = x at *
  generalize hpre : cellsL (items.take a.item.toNat) = pre at *
  generalize cellsL (items.drop (a.item.toNat + 1)) = post at *
  generalize hI : items.set a.item.toNat (doS now x a) = I at *
  rw [hmid]
  clear hmid hgd hpre hI hi3 hk1 hk8 hi1 hin
  obtain ⟨xc, xt, xr, xs, xw, xl⟩ := x
  simp only [doS, Item.cells, Zc, Zd] at hset ⊢
  refine Z36 Try.func131 rfl Try.ntmps131 (by simp) (by dsimp only [Try.f131]) ?_
  repeat' (first
    | ((with_reducible refine eq_go ?_); simp only [stp, ev, Zb, Z2e, Z1z, Zk, Zl, reduceIte, Nat.reduceEqDiff, Zj, Zz, Zu, Z16, Z1a, Zm, Zp, Zo, Zd, Zx, Z2b, Z2x, Z1g, Z17, Zq, Zn, Zv, Z2p, Z2f, Z2o, Z2d, Z2g, Z1c, Z1b, Z2i, Z2n, Z2h, Z2j, Z2k, Z2l, Z2m, Z31, Z8, Z5, Z13, Zy, bld, fillL, vcs, splice, Ze, Z1, Z0, Z35, ldv, stv, vcs, fldA, idxA, blt, lenV, Z10, Z3, Z2, Zf, Zg, Ze, Z1, Z0, Z14, Zw, Zh, Zr, Z33, Z15, Z7, Zc, Z6, Z3, Z2, Zf, Zi, Nat.reduceAdd, Nat.reduceMul, Nat.reduceLeDiff, Z11, Z12, Z1y, Z1h, Z2c, Z23, Z28, Z27, Z26, Z25, Z24, Z1m, Z1l, Z1k, Z1j, Z1i, Z1w, Z1v, Z1u, Z1t, Z1s, Z32, Z2y, Z2q, Z2r, Z2s, Z20, Z1q, Z1r, Z2z, Z2t, Z21, Z22, splice, Za, Z9, Z1, Z0, Z19, Zt, Zs, Z18, newB, vcs, Z30, Z2v, Z1x, Z29, Z1n, Z2u, Z1o, Z1f, Z1p, Z1d, Z1e, Ty.ld3, Ty.sz3, Ty.zc3, Ty.by3, Ty.ld24, Ty.sz24, Ty.sl24, Ty.zc24, Ty.by24, Ty.ld56, Ty.sz56, Ty.sl56, Ty.zc56, Ty.by56, Ty.ld58, Ty.sz58, Ty.zc58, Ty.by58, Ty.pl58, Ty.fl58_0, Ty.fl58_1, Ty.fl58_2, Ty.ld77, Ty.sz77, Ty.zc77, Ty.by77, Ty.pl77, Ty.fl77_0, Ty.fl77_1, Ty.fl77_2, Ty.fl77_3, Ty.fl77_4, Ty.fl77_5, Ty.ld80, Ty.sz80, Ty.zc80, Ty.by80, Ty.pl80, Ty.fl80_0, Ty.fl80_1, Ty.fl80_2, Ty.fl80_3, Ty.fl80_4, Ty.fl80_5, Ty.fl80_6, Ty.fl80_7, DAct.cells_length, DAct.cells_flat, DAct.cells_take, DAct.get0, DAct.get1, DAct.get2, DAct.get3, get_mid, get_mid0, splice_pre, splice_pre0, set_mid, set_mid0, drop_mid, Nat.add_le_add_iff_left, Nat.le_add_left, *]; rfl)
    | (with_reducible refine aw_then ?_) | (with_reducible refine aw_skip ?_) | (with_reducible refine aw_ret ?_) | (with_reducible refine aw_exit ?_) | (with_reducible refine aw_block ?_) | (with_reducible refine xr_reg (by decide +kernel) ?_)
    | (with_reducible refine xr_nil ?_) | (with_reducible refine k_norm ?_) | (with_reducible refine k_ret ?_) | (with_reducible refine k_exit ?_) | (with_reducible refine b_norm ?_) | (with_reducible refine b_ret ?_) | (with_reducible refine b_exit ?_) | (with_reducible refine b_past (by decide) ?_)
    | (refine xr_do (v := ?_) (h' := ?_) (by exact rfl) ?_ ?_; rotate_left 2)
    | (refine xr_st (v := ?_) (h' := ?_) (by exact rfl) ?_ ?_; rotate_left 2)
    | (refine xr_gdo (v := ?_) (h' := ?_) (by exact rfl) (by exact rfl) ?_ ?_ ?_
       rotate_left 2
       · simp only [ev, Zb, reduceIte, Nat.reduceEqDiff, Z8, Z5, *])
    | (refine xr_gst (v := ?_) (h' := ?_) (by exact rfl) (by exact rfl) ?_ ?_ ?_
       rotate_left 2
       · simp only [ev, Zb, reduceIte, Nat.reduceEqDiff, Z8, Z5, *])
    | (refine xr_goff (by exact rfl) ?_ ?_
       · simp only [ev, Zb, reduceIte, Nat.reduceEqDiff, Z8, Z5, *])
    | (refine xr_gsoff (by exact rfl) ?_ ?_
       · simp only [ev, Zb, reduceIte, Nat.reduceEqDiff, Z8, Z5, *])
    | (refine xr_gund (by exact rfl) ?_ ?_
       · simp only [ev, Zb, reduceIte, Nat.reduceEqDiff, Z8, Z5, *])
    | (refine xr_gsund (by exact rfl) ?_ ?_
       · simp only [ev, Zb, reduceIte, Nat.reduceEqDiff, Z8, Z5, *])
    | (refine xr_gif (b := ?_) (by exact rfl) ?_ (fun hb => ?_) (fun hb => ?_)
       rotate_left 1
       · simp only [ev, Zb, reduceIte, Nat.reduceEqDiff, Z8, Z5, *]; rfl)
    | (refine aw_ift (by decide) ?_ ?_
       · simp only [ev, Zb, reduceIte, Nat.reduceEqDiff, *])
    | (refine aw_iff (by decide) ?_ ?_
       · simp only [ev, Zb, reduceIte, Nat.reduceEqDiff, *])
    | (refine aw_if (b := ?_) (by decide) ?_ (fun hb => ?_) (fun hb => ?_)
       rotate_left 1
       · simp only [ev, Zb, reduceIte, Nat.reduceEqDiff, *]; rfl)
    | (refine r_ret (vs := ?_) ?_ ?_
       rotate_left 1
       · simp only [resV, oneOf, stp, ev, Zb, Z2e, Z1z, Zk, Zl, reduceIte, Nat.reduceEqDiff, Zj, Zz, Zu, Z16, Z1a, Zm, Zp, Zo, Zd, Zx, Z2b, Z2x, Z1g, Z17, Zq, Zn, Zv, Z2p, Z2f, Z2o, Z2d, Z2g, Z1c, Z1b, Z2i, Z2n, Z2h, Z2j, Z2k, Z2l, Z2m, Z31, Z8, Z5, Z13, Zy, bld, fillL, vcs, splice, Ze, Z1, Z0, Z35, ldv, stv, vcs, fldA, idxA, blt, lenV, Z10, Z3, Z2, Zf, Zg, Ze, Z1, Z0, Z14, Zw, Zh, Zr, Z33, Z15, Z7, Zc, Z6, Z3, Z2, Zf, Zi, Nat.reduceAdd, Nat.reduceMul, Nat.reduceLeDiff, Z11, Z12, Z1y, Z1h, Z2c, Z23, Z28, Z27, Z26, Z25, Z24, Z1m, Z1l, Z1k, Z1j, Z1i, Z1w, Z1v, Z1u, Z1t, Z1s, Z32, Z2y, Z2q, Z2r, Z2s, Z20, Z1q, Z1r, Z2z, Z2t, Z21, Z22, splice, Za, Z9, Z1, Z0, Z19, Zt, Zs, Z18, newB, vcs, Z30, Z2v, Z1x, Z29, Z1n, Z2u, Z1o, Z1f, Z1p, Z1d, Z1e, Ty.ld3, Ty.sz3, Ty.zc3, Ty.by3, Ty.ld24, Ty.sz24, Ty.sl24, Ty.zc24, Ty.by24, Ty.ld56, Ty.sz56, Ty.sl56, Ty.zc56, Ty.by56, Ty.ld58, Ty.sz58, Ty.zc58, Ty.by58, Ty.pl58, Ty.fl58_0, Ty.fl58_1, Ty.fl58_2, Ty.ld77, Ty.sz77, Ty.zc77, Ty.by77, Ty.pl77, Ty.fl77_0, Ty.fl77_1, Ty.fl77_2, Ty.fl77_3, Ty.fl77_4, Ty.fl77_5, Ty.ld80, Ty.sz80, Ty.zc80, Ty.by80, Ty.pl80, Ty.fl80_0, Ty.fl80_1, Ty.fl80_2, Ty.fl80_3, Ty.fl80_4, Ty.fl80_5, Ty.fl80_6, Ty.fl80_7, DAct.cells_length, DAct.cells_flat, DAct.cells_take, DAct.get0, DAct.get1, DAct.get2, DAct.get3, get_mid, get_mid0, splice_pre, splice_pre0, set_mid, set_mid0, drop_mid, Nat.add_le_add_iff_left, Nat.le_add_left, *]; rfl)
    )
  all_goals rw [← hil2]
  all_goals refine desk_keep1 (.inl rfl) ?_ (.inr rfl) hids
  all_goals rw [get_at0, hset]
  all_goals simp only [decide_eq_true_eq, decide_eq_false_iff_not] at *
  all_goals simp_all
end Go.Proofs.Ytiddnhhjlipebaa.Am
namespace Go.Proofs.Ytiddnhhjlipebaa.Am
open Go Go.Proofs
set_option linter.unusedVariables false
set_option linter.unusedSimpArgs false
set_option maxRecDepth 100000
set_option maxHeartbeats 8000000

theorem codeI_range (people : List Int) (x : Item) (a : DAct) : codeI people x a = 0 ∨ codeI people x a = 2 ∨ codeI people x a = 3 ∨ codeI people x a = 4 := by
  unfold codeI; split <;> (try split) <;> (try split) <;> (try split) <;> simp
theorem form_kind {a : DAct} (h : formM a = true) : 1 ≤ a.kind ∧ a.kind ≤ 8 := by
  unfold formM at h
  split at h <;> (try split at h) <;> (try split at h) <;> (try split at h) <;> (try split at h) <;> first | omega | simp at h
theorem codeI_state {people : List Int} {x : Item} {a : DAct} (h : codeI people x a = 0) : stateM a.kind x.state = true := by
  unfold codeI at h
  split at h
  · simp at h
  · rename_i q; simpa using q
theorem deskOk_item {now : Int} {people : List Int} {items : List Item} (h : deskOk now people items = true) {x : Item} (hx : x ∈ items) : itemOk now people x = true := by
  simp only [deskOk, Bool.and_eq_true, List.all_eq_true] at h
  exact h.2.2.2.2 x hx
theorem deskOk_now {now : Int} {people : List Int} {items : List Item} (h : deskOk now people items = true) : 0 ≤ now ∧ now ≤ 10000 := by
  simp only [deskOk, Bool.and_eq_true, decide_eq_true_eq] at h; exact h.1
theorem deskOk_items {now : Int} {people : List Int} {items : List Item} (h : deskOk now people items = true) : items.length ≤ 40 := by
  simp only [deskOk, Bool.and_eq_true, decide_eq_true_eq] at h; omega
theorem itemOk_role {now : Int} {people : List Int} {x : Item} (h : itemOk now people x = true) : 0 ≤ x.role ∧ x.role ≤ 3 := by
  simp only [itemOk, Bool.and_eq_true, decide_eq_true_eq] at h; omega
theorem itemOk_till {now : Int} {people : List Int} {x : Item} (h : itemOk now people x = true) : x.state = 3 → x.till = 0 := by
  intro q
  simp only [itemOk, q, Bool.and_eq_true, decide_eq_true_eq] at h
  simp at h; omega
theorem step_pos {now : Int} {people : List Int} {items : List Item} {a : DAct} (h : stepCode now people items a ≠ 0) : stepItems now people items a = items ∧ stepNow now a = now := by
  unfold stepCode at h
  unfold stepItems stepNow
  by_cases h1 : formM a = false
  · simp [h1]
  · simp only [if_neg h1] at h ⊢
    by_cases h2 : a.kind = 1
    · simp only [if_pos h2] at h ⊢
      have h8 : ¬ a.kind = 8 := by omega
      by_cases h3 : items.length = 40
      · simp [h3, h8]
      · simp [h3] at h
    · simp only [if_neg h2] at h ⊢
      by_cases h8 : a.kind = 8
      · simp only [if_pos h8] at h ⊢
        by_cases h9 : 10000 < now + a.many
        · simp [h9]
        · simp [h9] at h
      · simp only [if_neg h8] at h ⊢
        by_cases hr : inRange items a
        · simp only [if_pos hr] at h ⊢
          refine ⟨?_, trivial⟩
          have hi3 : a.item.toNat < items.length := by obtain ⟨q1, q2⟩ := hr; omega
          simp only [nextI, if_neg h]
          rw [List.getD_eq_getElem?_getD, List.getElem?_eq_getElem hi3]
          simp
        · simp [hr]
theorem step_zero {now : Int} {people : List Int} {items : List Item} {a : DAct} (hg : deskOk now people items = true) (h : stepCode now people items a = 0) :
    stepItems now people items a = doItems now items a ∧ stepNow now a = doNow now a ∧ (a.kind = 1 ∨ a.kind = 8 ∨ inRange items a) ∧ 0 ≤ a.many ∧ a.many ≤ 100 := by
  unfold stepCode at h
  unfold stepItems stepNow doItems doNow
  by_cases h1 : formM a = false
  · simp [h1] at h
  · have hfm : formM a = true := by simpa using h1
    have hk := form_kind hfm
    have hm : 0 ≤ a.many ∧ a.many ≤ 100 := by
      by_cases h8 : a.kind = 8
      · exact form_many hfm h8
      · have : a.many = 0 := by
          unfold formM at hfm
          split at hfm <;> (try split at hfm) <;> (try split at hfm) <;> (try split at hfm) <;> (try split at hfm) <;> simp at hfm <;> omega
        omega
    simp only [if_neg h1] at h ⊢
    by_cases h2 : a.kind = 1
    · simp only [if_pos h2] at h ⊢
      have h8 : ¬ a.kind = 8 := by omega
      by_cases h3 : items.length = 40
      · simp [h3] at h
      · simp [h3, h8, h2, hm]
    · simp only [if_neg h2] at h ⊢
      by_cases h8 : a.kind = 8
      · simp only [if_pos h8] at h ⊢
        by_cases h9 : 10000 < now + a.many
        · simp [h9] at h
        · simp [h9, h8, hm]
      · simp only [if_neg h8] at h ⊢
        by_cases hr : inRange items a
        · simp only [if_pos hr] at h ⊢
          have hi3 : a.item.toNat < items.length := by obtain ⟨q1, q2⟩ := hr; omega
          have hgd : items.getD a.item.toNat Item.nil = items[a.item.toNat] := by rw [List.getD_eq_getElem?_getD, List.getElem?_eq_getElem hi3]; rfl
          have hio := deskOk_item hg (List.getElem_mem hi3)
          rw [hgd] at h ⊢
          rw [nextI, if_pos h, doS_eq (by omega) (codeI_state h) (itemOk_till hio)]
          exact ⟨rfl, trivial, .inr (.inr hr), hm⟩
        · simp [hr] at h
theorem ids_af {A : Nat → Prop} {x : Value} (h : af x = true) : IdsP A x := ((VRel.of_af (n := 0) (m := fun _ => ⟨0, 0, 0, 0⟩) h).ids).mono fun id q => absurd q (Nat.not_lt_zero _)

theorem stepV_keep {h L : Heap} {now code : Int} {people : List Int} {items : List Item} {k1 k2 : Nat} (h1 : L[k1]? = some ⟨2, 1, (ints people).flatten⟩) (h2 : L[k2]? = some ⟨2, 6, cellsL items⟩) (hne : k1 ≠ k2) :
    ∃ (L' : Heap) (ks : List Nat), h ++ L = h ++ L' ∧ Inj ks ∧ ks.length = [(⟨2, 1, (ints people).flatten⟩ : Blk), ⟨2, 6, cellsL items⟩].length ∧ BsOk [⟨2, 1, (ints people).flatten⟩, ⟨2, 6, cellsL items⟩] L' ks ∧
      RV h.length L' ks (.tuple #[.agg #[.int .i64 now, .slice (some ⟨h.length, 0, some 0⟩) people.length people.length, .slice (some ⟨h.length + 1, 0, some 0⟩) items.length items.length], .int .i64 code])
        (.tuple #[.agg #[.int .i64 now, .slice (some ⟨h.length + k1, 0, some 0⟩) people.length people.length, .slice (some ⟨h.length + k2, 0, some 0⟩) items.length items.length], .int .i64 code]) :=
  ⟨L, [k1, k2], rfl, Inj.two hne, rfl, BsOk.cons rfl (ints_af _) h1 (BsOk.cons rfl (cellsL_af _) h2 (BsOk.nil _ _)),
    RVl.tuple (l := [_, _]) (l' := [_, _]) ⟨RVl.agg (l := [_, _, _]) (l' := [_, _, _]) ⟨.plain _ rfl, .sl 0 k1 _ _ 1 _ _ rfl h1 (ints_flen _) (Z4 _) (.inr rfl), .sl 1 k2 _ _ 6 _ _ rfl h2 (cellsL_len _) (Z4 _) (.inr rfl), trivial⟩, .plain _ rfl, trivial⟩⟩

theorem clw_same {h A : Heap} {B B' C : Blk} {n : Nat} (hn : A.length = n := by rfl) : ∀ id, id < (h ++ (A ++ [B])).length → id ∉ [h.length + n] → (h ++ (A ++ [B', C]))[id]? = (h ++ (A ++ [B]))[id]? := by
  intro id hid hne
  have hne' : id ≠ h.length + A.length := fun q => hne (by rw [hn] at q; simp [q])
  simp only [Z6, Z3, Z2] at hid
  have e : ∀ X : Heap, (h ++ (A ++ X))[id]? = (h ++ A)[id]? := fun X => by
    rw [← Z7, List.getElem?_append_left (by rw [Z6]; omega)]
  rw [e, e]
theorem clw_e {h A : Heap} {cs : List Value} {e n : Nat} (hn : A.length = n := by rfl) : ∀ id, id ∈ [h.length + n] → ∃ b : Blk, (h ++ (A ++ [⟨2, e, cs⟩]))[id]? = some b ∧ b.k ≠ 0 := by
  intro id hid
  simp only [List.mem_cons, Z38, or_false] at hid
  subst hid
  refine ⟨⟨2, e, cs⟩, ?_, by simp⟩
  rw [get_at, ← hn, List.getElem?_append_right (Z4 _), Nat.sub_self]; rfl

theorem l16Step_ok (now : Int) (people : List Int) (items : List Item) (a : DAct) (ap : Addr) (c : Nat) (vi : Value) (h : Heap) (hp : Sl h (.slice (some ap) people.length c) 1 (ints people)) (hi : Sl h vi 6 (items.map Item.cells))
    (hg : deskOk now people items = true) (hvb : ∀ i, bid vi = some i → i < h.length) :
    ACalls Try.prog 0 110 #[.agg #[.int .i64 now, .slice (some ap) people.length c, vi], .agg a.cells.toArray] h
    fun v h' => v = .tuple #[.agg #[.int .i64 (stepNow now a), .slice (some ⟨h.length, 0, some 0⟩) people.length people.length, .slice (some ⟨h.length + 1, 0, some 0⟩) (stepItems now people items a).length (stepItems now people items a).length], .int .i64 (stepCode now people items a)] ∧
      h' = h ++ [⟨2, 1, (ints people).flatten⟩, ⟨2, 6, cellsL (stepItems now people items a)⟩] := by
  refine acalls_canon _ _ ?_
  have hl6 := deskOk_people hg
  have hl40 := deskOk_items hg
  have hn := deskOk_now hg
  have hr : ∀ x ∈ items, 0 ≤ x.role ∧ x.role ≤ 3 := fun x hx => itemOk_role (deskOk_item hg hx)
  have hf2 := hi.flat
  obtain ⟨b2, c2, rfl, hc2, _⟩ := id hi
  simp only [Zv] at hi hc2 hvb hf2 ⊢
  have hown := l16Own_ok now people items ap c (.slice b2 items.length c2) (h ++ [⟨2, 1, [.int .i64 now, .slice (some ap) people.length c, .slice b2 items.length c2]⟩, ⟨2, 1, a.cells⟩, ⟨2, 1, [.int .i64 0, .slice none 0 0, .slice none 0 0]⟩]) (hp.old _) (hi.old _) (by omega) (by omega) (fun i q => by have := hvb i q; rw [Z6]; omega)
  simp only [Z7, Zc, Zd, Z6, Z3, Z2, Zf, Zh, Nat.reduceAdd] at hown
  have hwm : ∀ m : Int, 0 ≤ m ∧ m ≤ 100 → IntKind.i64.wrap (now + m) = now + m := fun m hm => wrap_id (by omega)
  by_cases hc : stepCode now people items a = 0
  · obtain ⟨e1, e2, e3, e4⟩ := step_zero hg hc
    have hdo := l16Do_blk now items a (.slice (some ⟨h.length + 3, 0, some 0⟩) people.length people.length) (h ++ [⟨2, 1, [.int .i64 now, .slice (some ap) people.length c, .slice b2 items.length c2]⟩, ⟨2, 1, a.cells⟩, ⟨2, 1, [.int .i64 0, .slice none 0 0, .slice none 0 0]⟩, ⟨2, 1, (ints people).flatten⟩]) [] (.slice _ _ _ (by simp)) rfl hn e4 (by omega) e3
    simp only [Z7, Zc, Zd, Z6, Z3, Z2, Zf, Zi, Zh, Nat.reduceAdd] at hdo
    have hw := hwm _ e4
    have hz0 : decide ((0 : Int) < 0) = false := rfl
    rw [e1, e2, hc]
    clear e1 e2 e3 e4 hwm hown
    have key : formM a = true ∧ ((decide (a.kind = 1) = true ∧ decide ((items.length : Int) = 40) = false) ∨ (decide (a.kind = 1) = false ∧ decide (a.kind = 8) = true ∧ decide (10000 < now + a.many) = false) ∨
        (decide (a.kind = 1) = false ∧ decide (a.kind = 8) = false ∧ (2 ≤ a.kind ∧ a.kind ≤ 7) ∧ (if inRange items a then codeI people (items.getD a.item.toNat Item.nil) a else 2) = 0)) := by
      unfold stepCode at hc
      rcases Bool.eq_false_or_eq_true (formM a) with hfm | hfm
      · have hkr := form_kind hfm
        simp only [hfm, Bool.true_eq_false, if_false] at hc
        refine ⟨hfm, ?_⟩
        by_cases hk1 : a.kind = 1
        · refine .inl ⟨decide_eq_true hk1, decide_eq_false fun q => ?_⟩
          have : items.length = 40 := by omega
          simp [hk1, this] at hc
        · simp only [if_neg hk1] at hc
          by_cases hk8 : a.kind = 8
          · exact .inr (.inl ⟨decide_eq_false hk1, decide_eq_true hk8, decide_eq_false fun q => by simp [hk8, q] at hc⟩)
          · simp only [if_neg hk8] at hc
            exact .inr (.inr ⟨decide_eq_false hk1, decide_eq_false hk8, by omega, hc⟩)
      · simp [hfm] at hc
    clear hc hg
    obtain ⟨hfm, ⟨hk1', h40'⟩ | ⟨hk1', hk8', hov⟩ | ⟨hk1', hk8', hkr2, hcI⟩⟩ := key
    all_goals
      refine Z36 Try.func110 rfl Try.ntmps110 (by simp) (by dsimp only [Try.f110]) ?_
      repeat' (first
        | ((with_reducible refine eq_go ?_); simp only [stp, ev, Zb, Z2e, Z1z, Zk, Zl, reduceIte, Nat.reduceEqDiff, Zj, Zz, Zu, Z16, Z1a, Zm, Zp, Zo, Zd, Zx, Z2b, Z2x, Z1g, Z17, Zq, Zn, Zv, Z2p, Z2f, Z2o, Z2d, Z2g, Z1c, Z1b, Z2i, Z2n, Z2h, Z2j, Z2k, Z2l, Z2m, Z31, Z8, Z5, Z13, Zy, ldv, stv, vcs, fldA, blt, lenV, Z10, Z3, Z2, Zf, Zg, Ze, Z1, Z0, Z14, Zw, Zh, Zr, Z33, Z15, Z7, Zc, Z6, Z3, Z2, Zf, Zi, Nat.reduceAdd, Nat.reduceMul, Nat.reduceLeDiff, Z11, Z12, Z1y, Z1h, Z2c, Z23, Z28, Z27, Z26, Z25, Z24, Z1m, Z1l, Z1k, Z1j, Z1i, Z1w, Z1v, Z1u, Z1t, Z1s, Z32, Z2y, Z2q, Z2r, Z2s, Z20, Z1q, Z1r, Z2z, Z2t, Z21, Z22, splice, Za, Z9, Z1, Z0, Z19, Zt, Zs, Z18, newB, vcs, Z30, Z2v, Z1x, Z29, Z1n, Z2u, Z1o, Z1f, Z1p, Z1d, Z1e, Ty.ld3, Ty.sz3, Ty.zc3, Ty.by3, Ty.ld24, Ty.sz24, Ty.sl24, Ty.zc24, Ty.by24, Ty.ld56, Ty.sz56, Ty.sl56, Ty.zc56, Ty.by56, Ty.ld58, Ty.sz58, Ty.zc58, Ty.by58, Ty.fl58_0, Ty.fl58_1, Ty.fl58_2, Ty.ld77, Ty.sz77, Ty.zc77, Ty.by77, Ty.fl77_0, Ty.fl77_1, Ty.fl77_2, Ty.fl77_3, Ty.fl77_4, Ty.fl77_5, Ty.ld80, Ty.sz80, Ty.zc80, Ty.by80, Ty.fl80_0, Ty.fl80_1, Ty.fl80_2, Ty.fl80_3, Ty.fl80_4, Ty.fl80_5, Ty.fl80_6, Ty.fl80_7, DAct.cells_length, DAct.cells_flat, DAct.cells_take, DAct.get0, DAct.get7, Z35, *]; rfl)
        | (with_reducible refine aw_then ?_) | (with_reducible refine aw_skip ?_) | (with_reducible refine aw_ret ?_) | (with_reducible refine aw_exit ?_) | (with_reducible refine aw_block ?_) | (with_reducible refine xr_reg (by decide +kernel) ?_)
        | (with_reducible refine xr_nil ?_) | (with_reducible refine k_norm ?_) | (with_reducible refine k_ret ?_) | (with_reducible refine k_exit ?_) | (with_reducible refine b_norm ?_) | (with_reducible refine b_ret ?_) | (with_reducible refine b_exit ?_) | (with_reducible refine b_past (by decide) ?_)
        | (with_reducible refine xd_nil ?_)
        | (refine xr_cl (f := ?_) (fs := ?_) (cs := ?_) (args := ?_) (K := ?_) ?_ ?_ ?_ ?_ ?_
           rotate_left 5
           · simp only [ev]; rfl
           first
           | (· with_reducible exact Ty.ok128
              rotate_left 2
              refine Z2a 128 ?_
              rotate_right 2)
           | (· with_reducible exact Ty.ok129
              rotate_left 2
              refine Z2a 129 ?_
              rotate_right 2)
           | (· with_reducible exact Ty.ok130
              rotate_left 2
              refine Z2a 130 ?_
              rotate_right 2)
           )
        | (refine xd_clnew (f := ?_) (fs := ?_) (cs := ?_) (args := ?_) (v := ?_) (L := ?_) ?_ ?_ ?_ ?_ ?_ ?_
           rotate_left 6
           · simp only [ev]; rfl
           · first | with_reducible exact Ty.ok130
           rotate_left 1
           · decide +kernel
           rotate_right 1)
        | (refine xd_cl (f := ?_) (fs := ?_) (cs := ?_) (args := ?_) (v := ?_) ?_ ?_ ?_ ?_ ?_ ?_
           rotate_left 5
           · simp only [ev]; rfl
           · first | with_reducible exact Ty.ok128 | with_reducible exact Ty.ok129
           rotate_left 1
           · decide +kernel
           rotate_right 1)
        | (refine xr_do (v := ?_) (h' := ?_) (by exact rfl) ?_ ?_; rotate_left 2)
        | (refine xr_st (v := ?_) (h' := ?_) (by exact rfl) ?_ ?_; rotate_left 2)
        | (refine xe_reg (ms := [0, 1, 0, 7, 15, 31]) Ty.mx (by decide +kernel) (by decide +kernel) [[],[],[],[h.length + 4],[h.length + 2],[]] ?_)
        | (with_reducible refine xe_nil ?_)
        | (refine xe_do (v := ?_) (ids := []) (by exact rfl) (by decide +kernel) (by exact rfl) (by exact rfl) ?_ ?_; rotate_left 1)
        | (refine xe_st (v := ?_) (a := ?_) (h' := ?_) (ids := []) (by decide +kernel) (by exact rfl) ?_ ?_ ?_ ?_ ?_
           rotate_left 3
           · simp only [stp, ev, Zb, Z2e, Z1z, Zk, Zl, reduceIte, Nat.reduceEqDiff, Zj, Zz, Zu, Z16, Z1a, Zm, Zp, Zo, Zd, Zx, Z2b, Z2x, Z1g, Z17, Zq, Zn, Zv, Z2p, Z2f, Z2o, Z2d, Z2g, Z1c, Z1b, Z2i, Z2n, Z2h, Z2j, Z2k, Z2l, Z2m, Z31, Z8, Z5, Z13, Zy, ldv, stv, vcs, fldA, blt, lenV, Z10, Z3, Z2, Zf, Zg, Ze, Z1, Z0, Z14, Zw, Zh, Zr, Z33, Z15, Z7, Zc, Z6, Z3, Z2, Zf, Zi, Nat.reduceAdd, Nat.reduceMul, Nat.reduceLeDiff, Z11, Z12, Z1y, Z1h, Z2c, Z23, Z28, Z27, Z26, Z25, Z24, Z1m, Z1l, Z1k, Z1j, Z1i, Z1w, Z1v, Z1u, Z1t, Z1s, Z32, Z2y, Z2q, Z2r, Z2s, Z20, Z1q, Z1r, Z2z, Z2t, Z21, Z22, splice, Za, Z9, Z1, Z0, Z19, Zt, Zs, Z18, newB, vcs, Z30, Z2v, Z1x, Z29, Z1n, Z2u, Z1o, Z1f, Z1p, Z1d, Z1e, Ty.ld3, Ty.sz3, Ty.zc3, Ty.by3, Ty.ld24, Ty.sz24, Ty.sl24, Ty.zc24, Ty.by24, Ty.ld56, Ty.sz56, Ty.sl56, Ty.zc56, Ty.by56, Ty.ld58, Ty.sz58, Ty.zc58, Ty.by58, Ty.fl58_0, Ty.fl58_1, Ty.fl58_2, Ty.ld77, Ty.sz77, Ty.zc77, Ty.by77, Ty.fl77_0, Ty.fl77_1, Ty.fl77_2, Ty.fl77_3, Ty.fl77_4, Ty.fl77_5, Ty.ld80, Ty.sz80, Ty.zc80, Ty.by80, Ty.fl80_0, Ty.fl80_1, Ty.fl80_2, Ty.fl80_3, Ty.fl80_4, Ty.fl80_5, Ty.fl80_6, Ty.fl80_7, DAct.cells_length, DAct.cells_flat, DAct.cells_take, DAct.get0, DAct.get7, Z35, *]; rfl
           · exact rfl
           · simp
           skip)
        | (refine xe_alloc (z := ?_) ?_ ?_ (by exact rfl) ?_
           rotate_left 1
           · first | exact Ty.zc3 | exact Ty.zc56 | exact Ty.zc58 | exact Ty.zc80
           · decide)
        | (refine xe_pure (ids := []) (f := ?_) (fs := ?_) (cs := ?_) (args := ?_) (v := ?_) ?_ ?_ ?_ (by decide +kernel) (by exact rfl) (by exact rfl) ?_ ?_
           rotate_left 5
           · simp only [ev]; rfl
           · first | with_reducible exact Ty.ok128 | with_reducible exact Ty.ok129
           · simp only [stp, ev, Zb, Z2e, Z1z, Zk, Zl, reduceIte, Nat.reduceEqDiff, Zj, Zz, Zu, Z16, Z1a, Zm, Zp, Zo, Zd, Zx, Z2b, Z2x, Z1g, Z17, Zq, Zn, Zv, Z2p, Z2f, Z2o, Z2d, Z2g, Z1c, Z1b, Z2i, Z2n, Z2h, Z2j, Z2k, Z2l, Z2m, Z31, Z8, Z5, Z13, Zy, ldv, stv, vcs, fldA, blt, lenV, Z10, Z3, Z2, Zf, Zg, Ze, Z1, Z0, Z14, Zw, Zh, Zr, Z33, Z15, Z7, Zc, Z6, Z3, Z2, Zf, Zi, Nat.reduceAdd, Nat.reduceMul, Nat.reduceLeDiff, Z11, Z12, Z1y, Z1h, Z2c, Z23, Z28, Z27, Z26, Z25, Z24, Z1m, Z1l, Z1k, Z1j, Z1i, Z1w, Z1v, Z1u, Z1t, Z1s, Z32, Z2y, Z2q, Z2r, Z2s, Z20, Z1q, Z1r, Z2z, Z2t, Z21, Z22, splice, Za, Z9, Z1, Z0, Z19, Zt, Zs, Z18, newB, vcs, Z30, Z2v, Z1x, Z29, Z1n, Z2u, Z1o, Z1f, Z1p, Z1d, Z1e, Ty.ld3, Ty.sz3, Ty.zc3, Ty.by3, Ty.ld24, Ty.sz24, Ty.sl24, Ty.zc24, Ty.by24, Ty.ld56, Ty.sz56, Ty.sl56, Ty.zc56, Ty.by56, Ty.ld58, Ty.sz58, Ty.zc58, Ty.by58, Ty.fl58_0, Ty.fl58_1, Ty.fl58_2, Ty.ld77, Ty.sz77, Ty.zc77, Ty.by77, Ty.fl77_0, Ty.fl77_1, Ty.fl77_2, Ty.fl77_3, Ty.fl77_4, Ty.fl77_5, Ty.ld80, Ty.sz80, Ty.zc80, Ty.by80, Ty.fl80_0, Ty.fl80_1, Ty.fl80_2, Ty.fl80_3, Ty.fl80_4, Ty.fl80_5, Ty.fl80_6, Ty.fl80_7, DAct.cells_length, DAct.cells_flat, DAct.cells_take, DAct.get0, DAct.get7, Z35, *]; rfl
           · first
             | (with_reducible refine l16Form_ok _ _
                )
             | (with_reducible refine l16Code_ok _ people items _ _ _ _ ?_ ?_ ?_ ?_ ?_ ?_
                · first | assumption | exact Sl.old (by assumption) _ | ((try (simp only [deskV, deskL, Z11, Z12, Z1y, Z1h, Za, Z9, Z7, Zc, Zd, Z6, Z3, Z2, Zf, Zi, Nat.reduceAdd, Zh])); first | exact Sl.old (by assumption) _ | exact sl_nilints | exact sl_nilitems | (refine sl_ints (Z4 _) ?_; exact rfl) | (refine sl_items (Z4 _) ?_; exact rfl) | (refine sl_ints0 (Z4 _) ?_; exact rfl) | (refine sl_items0 (Z4 _) ?_; exact rfl))
                · first | assumption | exact Sl.old (by assumption) _ | ((try (simp only [deskV, deskL, Z11, Z12, Z1y, Z1h, Za, Z9, Z7, Zc, Zd, Z6, Z3, Z2, Zf, Zi, Nat.reduceAdd, Zh])); first | exact Sl.old (by assumption) _ | exact sl_nilints | exact sl_nilitems | (refine sl_ints (Z4 _) ?_; exact rfl) | (refine sl_items (Z4 _) ?_; exact rfl) | (refine sl_ints0 (Z4 _) ?_; exact rfl) | (refine sl_items0 (Z4 _) ?_; exact rfl))
                · assumption
                · omega
                · assumption
                · assumption
                )
           skip)
        | (refine xe_cl (f := ?_) (fs := ?_) (cs := ?_) (args := ?_) (v := ?_) (ids := []) (L := ?_) (a := true) ?_ ?_ ?_ (by decide +kernel) (by exact rfl) (by exact rfl) (fun q => by cases q) ?_ ?_
           rotate_left 6
           · simp only [ev]; rfl
           · first | with_reducible exact Ty.ok130
           · simp only [stp, ev, Zb, Z2e, Z1z, Zk, Zl, reduceIte, Nat.reduceEqDiff, Zj, Zz, Zu, Z16, Z1a, Zm, Zp, Zo, Zd, Zx, Z2b, Z2x, Z1g, Z17, Zq, Zn, Zv, Z2p, Z2f, Z2o, Z2d, Z2g, Z1c, Z1b, Z2i, Z2n, Z2h, Z2j, Z2k, Z2l, Z2m, Z31, Z8, Z5, Z13, Zy, ldv, stv, vcs, fldA, blt, lenV, Z10, Z3, Z2, Zf, Zg, Ze, Z1, Z0, Z14, Zw, Zh, Zr, Z33, Z15, Z7, Zc, Z6, Z3, Z2, Zf, Zi, Nat.reduceAdd, Nat.reduceMul, Nat.reduceLeDiff, Z11, Z12, Z1y, Z1h, Z2c, Z23, Z28, Z27, Z26, Z25, Z24, Z1m, Z1l, Z1k, Z1j, Z1i, Z1w, Z1v, Z1u, Z1t, Z1s, Z32, Z2y, Z2q, Z2r, Z2s, Z20, Z1q, Z1r, Z2z, Z2t, Z21, Z22, splice, Za, Z9, Z1, Z0, Z19, Zt, Zs, Z18, newB, vcs, Z30, Z2v, Z1x, Z29, Z1n, Z2u, Z1o, Z1f, Z1p, Z1d, Z1e, Ty.ld3, Ty.sz3, Ty.zc3, Ty.by3, Ty.ld24, Ty.sz24, Ty.sl24, Ty.zc24, Ty.by24, Ty.ld56, Ty.sz56, Ty.sl56, Ty.zc56, Ty.by56, Ty.ld58, Ty.sz58, Ty.zc58, Ty.by58, Ty.fl58_0, Ty.fl58_1, Ty.fl58_2, Ty.ld77, Ty.sz77, Ty.zc77, Ty.by77, Ty.fl77_0, Ty.fl77_1, Ty.fl77_2, Ty.fl77_3, Ty.fl77_4, Ty.fl77_5, Ty.ld80, Ty.sz80, Ty.zc80, Ty.by80, Ty.fl80_0, Ty.fl80_1, Ty.fl80_2, Ty.fl80_3, Ty.fl80_4, Ty.fl80_5, Ty.fl80_6, Ty.fl80_7, DAct.cells_length, DAct.cells_flat, DAct.cells_take, DAct.get0, DAct.get7, Z35, *]; rfl
           · simp only [Z2c]
             first
             | (with_reducible refine l16Own_ok _ _ items _ _ _ _ ?_ ?_ ?_ ?_ ?_
                · first | assumption | exact Sl.old (by assumption) _ | ((try (simp only [deskV, deskL, Z11, Z12, Z1y, Z1h, Za, Z9, Z7, Zc, Zd, Z6, Z3, Z2, Zf, Zi, Nat.reduceAdd, Zh])); first | exact Sl.old (by assumption) _ | exact sl_nilints | exact sl_nilitems | (refine sl_ints (Z4 _) ?_; exact rfl) | (refine sl_items (Z4 _) ?_; exact rfl) | (refine sl_ints0 (Z4 _) ?_; exact rfl) | (refine sl_items0 (Z4 _) ?_; exact rfl))
                · first | assumption | exact Sl.old (by assumption) _ | ((try (simp only [deskV, deskL, Z11, Z12, Z1y, Z1h, Za, Z9, Z7, Zc, Zd, Z6, Z3, Z2, Zf, Zi, Nat.reduceAdd, Zh])); first | exact Sl.old (by assumption) _ | exact sl_nilints | exact sl_nilitems | (refine sl_ints (Z4 _) ?_; exact rfl) | (refine sl_items (Z4 _) ?_; exact rfl) | (refine sl_ints0 (Z4 _) ?_; exact rfl) | (refine sl_items0 (Z4 _) ?_; exact rfl))
                · omega
                · omega
                · (intro i q; have hz := hvb i q; simp only [Z6, Z3, Z2]; omega)
                )
           skip)
        | (refine xe_free (X := ?_) (Y := ?_) (ids := []) (v := ?_) (by exact rfl) (by exact rfl) ?_ (by exact rfl) ?_ ?_ ?_
           rotate_left 2
           · exact rfl
           · (try simp only [outL_cons, outL_nil]); simp only [Z2c, stp, ev, Zb, Z2e, Z1z, Zk, Zl, reduceIte, Nat.reduceEqDiff, Zj, Zz, Zu, Z16, Z1a, Zm, Zp, Zo, Zd, Zx, Z2b, Z2x, Z1g, Z17, Zq, Zn, Zv, Z2p, Z2f, Z2o, Z2d, Z2g, Z1c, Z1b, Z2i, Z2n, Z2h, Z2j, Z2k, Z2l, Z2m, Z31, Z8, Z5, Z13, Zy, ldv, stv, vcs, fldA, blt, lenV, Z10, Z3, Z2, Zf, Zg, Ze, Z1, Z0, Z14, Zw, Zh, Zr, Z33, Z15, Z7, Zc, Z6, Z3, Z2, Zf, Zi, Nat.reduceAdd, Nat.reduceMul, Nat.reduceLeDiff, Z11, Z12, Z1y, Z1h, Z2c, Z23, Z28, Z27, Z26, Z25, Z24, Z1m, Z1l, Z1k, Z1j, Z1i, Z1w, Z1v, Z1u, Z1t, Z1s, Z32, Z2y, Z2q, Z2r, Z2s, Z20, Z1q, Z1r, Z2z, Z2t, Z21, Z22, splice, Za, Z9, Z1, Z0, Z19, Zt, Zs, Z18, newB, vcs, Z30, Z2v, Z1x, Z29, Z1n, Z2u, Z1o, Z1f, Z1p, Z1d, Z1e, Ty.ld3, Ty.sz3, Ty.zc3, Ty.by3, Ty.ld24, Ty.sz24, Ty.sl24, Ty.zc24, Ty.by24, Ty.ld56, Ty.sz56, Ty.sl56, Ty.zc56, Ty.by56, Ty.ld58, Ty.sz58, Ty.zc58, Ty.by58, Ty.fl58_0, Ty.fl58_1, Ty.fl58_2, Ty.ld77, Ty.sz77, Ty.zc77, Ty.by77, Ty.fl77_0, Ty.fl77_1, Ty.fl77_2, Ty.fl77_3, Ty.fl77_4, Ty.fl77_5, Ty.ld80, Ty.sz80, Ty.zc80, Ty.by80, Ty.fl80_0, Ty.fl80_1, Ty.fl80_2, Ty.fl80_3, Ty.fl80_4, Ty.fl80_5, Ty.fl80_6, Ty.fl80_7, DAct.cells_length, DAct.cells_flat, DAct.cells_take, DAct.get0, DAct.get7, Z35, *]; rfl
           · (exact ids_af (DAct.af _))
           skip)
        | (refine xe_free (X := ?_) (Y := ?_) (ids := []) (v := ?_) (by exact rfl) (by exact rfl) ?_ (by exact rfl) ?_ ?_ ?_
           rotate_left 2
           · exact Z7 _ _ _
           · (try simp only [outL_cons, outL_nil]); simp only [Z2c, stp, ev, Zb, Z2e, Z1z, Zk, Zl, reduceIte, Nat.reduceEqDiff, Zj, Zz, Zu, Z16, Z1a, Zm, Zp, Zo, Zd, Zx, Z2b, Z2x, Z1g, Z17, Zq, Zn, Zv, Z2p, Z2f, Z2o, Z2d, Z2g, Z1c, Z1b, Z2i, Z2n, Z2h, Z2j, Z2k, Z2l, Z2m, Z31, Z8, Z5, Z13, Zy, ldv, stv, vcs, fldA, blt, lenV, Z10, Z3, Z2, Zf, Zg, Ze, Z1, Z0, Z14, Zw, Zh, Zr, Z33, Z15, Z7, Zc, Z6, Z3, Z2, Zf, Zi, Nat.reduceAdd, Nat.reduceMul, Nat.reduceLeDiff, Z11, Z12, Z1y, Z1h, Z2c, Z23, Z28, Z27, Z26, Z25, Z24, Z1m, Z1l, Z1k, Z1j, Z1i, Z1w, Z1v, Z1u, Z1t, Z1s, Z32, Z2y, Z2q, Z2r, Z2s, Z20, Z1q, Z1r, Z2z, Z2t, Z21, Z22, splice, Za, Z9, Z1, Z0, Z19, Zt, Zs, Z18, newB, vcs, Z30, Z2v, Z1x, Z29, Z1n, Z2u, Z1o, Z1f, Z1p, Z1d, Z1e, Ty.ld3, Ty.sz3, Ty.zc3, Ty.by3, Ty.ld24, Ty.sz24, Ty.sl24, Ty.zc24, Ty.by24, Ty.ld56, Ty.sz56, Ty.sl56, Ty.zc56, Ty.by56, Ty.ld58, Ty.sz58, Ty.zc58, Ty.by58, Ty.fl58_0, Ty.fl58_1, Ty.fl58_2, Ty.ld77, Ty.sz77, Ty.zc77, Ty.by77, Ty.fl77_0, Ty.fl77_1, Ty.fl77_2, Ty.fl77_3, Ty.fl77_4, Ty.fl77_5, Ty.ld80, Ty.sz80, Ty.zc80, Ty.by80, Ty.fl80_0, Ty.fl80_1, Ty.fl80_2, Ty.fl80_3, Ty.fl80_4, Ty.fl80_5, Ty.fl80_6, Ty.fl80_7, DAct.cells_length, DAct.cells_flat, DAct.cells_take, DAct.get0, DAct.get7, Z35, *]; rfl
           · (exact ids_af (DAct.af _))
           skip)
        | (refine xe_free (X := ?_) (Y := ?_) (ids := []) (v := ?_) (by exact rfl) (by exact rfl) ?_ (by exact rfl) ?_ ?_ ?_
           rotate_left 2
           · exact (Z7 _ _ _).symm
           · (try simp only [outL_cons, outL_nil]); simp only [Z2c, stp, ev, Zb, Z2e, Z1z, Zk, Zl, reduceIte, Nat.reduceEqDiff, Zj, Zz, Zu, Z16, Z1a, Zm, Zp, Zo, Zd, Zx, Z2b, Z2x, Z1g, Z17, Zq, Zn, Zv, Z2p, Z2f, Z2o, Z2d, Z2g, Z1c, Z1b, Z2i, Z2n, Z2h, Z2j, Z2k, Z2l, Z2m, Z31, Z8, Z5, Z13, Zy, ldv, stv, vcs, fldA, blt, lenV, Z10, Z3, Z2, Zf, Zg, Ze, Z1, Z0, Z14, Zw, Zh, Zr, Z33, Z15, Z7, Zc, Z6, Z3, Z2, Zf, Zi, Nat.reduceAdd, Nat.reduceMul, Nat.reduceLeDiff, Z11, Z12, Z1y, Z1h, Z2c, Z23, Z28, Z27, Z26, Z25, Z24, Z1m, Z1l, Z1k, Z1j, Z1i, Z1w, Z1v, Z1u, Z1t, Z1s, Z32, Z2y, Z2q, Z2r, Z2s, Z20, Z1q, Z1r, Z2z, Z2t, Z21, Z22, splice, Za, Z9, Z1, Z0, Z19, Zt, Zs, Z18, newB, vcs, Z30, Z2v, Z1x, Z29, Z1n, Z2u, Z1o, Z1f, Z1p, Z1d, Z1e, Ty.ld3, Ty.sz3, Ty.zc3, Ty.by3, Ty.ld24, Ty.sz24, Ty.sl24, Ty.zc24, Ty.by24, Ty.ld56, Ty.sz56, Ty.sl56, Ty.zc56, Ty.by56, Ty.ld58, Ty.sz58, Ty.zc58, Ty.by58, Ty.fl58_0, Ty.fl58_1, Ty.fl58_2, Ty.ld77, Ty.sz77, Ty.zc77, Ty.by77, Ty.fl77_0, Ty.fl77_1, Ty.fl77_2, Ty.fl77_3, Ty.fl77_4, Ty.fl77_5, Ty.ld80, Ty.sz80, Ty.zc80, Ty.by80, Ty.fl80_0, Ty.fl80_1, Ty.fl80_2, Ty.fl80_3, Ty.fl80_4, Ty.fl80_5, Ty.fl80_6, Ty.fl80_7, DAct.cells_length, DAct.cells_flat, DAct.cells_take, DAct.get0, DAct.get7, Z35, *]; rfl
           · (exact ids_af (DAct.af _))
           skip)
        | (refine xd_do (v := ?_) (by exact rfl) (by decide +kernel) ?_ ?_; rotate_left 1)
        | (refine aw_ift (by decide) ?_ ?_
           · simp only [ev, Zb, reduceIte, Nat.reduceEqDiff, *])
        | (refine aw_iff (by decide) ?_ ?_
           · simp only [ev, Zb, reduceIte, Nat.reduceEqDiff, *])
        | (refine aw_if (b := ?_) (by decide) ?_ (fun hb => ?_) (fun hb => ?_)
           rotate_left 1
           · simp only [ev, Zb, reduceIte, Nat.reduceEqDiff, *]; rfl)
        | (refine r_ret (vs := ?_) ?_ ?_
           rotate_left 1
           · simp only [resV, oneOf, stp, ev, Zb, Z2e, Z1z, Zk, Zl, reduceIte, Nat.reduceEqDiff, Zj, Zz, Zu, Z16, Z1a, Zm, Zp, Zo, Zd, Zx, Z2b, Z2x, Z1g, Z17, Zq, Zn, Zv, Z2p, Z2f, Z2o, Z2d, Z2g, Z1c, Z1b, Z2i, Z2n, Z2h, Z2j, Z2k, Z2l, Z2m, Z31, Z8, Z5, Z13, Zy, ldv, stv, vcs, fldA, blt, lenV, Z10, Z3, Z2, Zf, Zg, Ze, Z1, Z0, Z14, Zw, Zh, Zr, Z33, Z15, Z7, Zc, Z6, Z3, Z2, Zf, Zi, Nat.reduceAdd, Nat.reduceMul, Nat.reduceLeDiff, Z11, Z12, Z1y, Z1h, Z2c, Z23, Z28, Z27, Z26, Z25, Z24, Z1m, Z1l, Z1k, Z1j, Z1i, Z1w, Z1v, Z1u, Z1t, Z1s, Z32, Z2y, Z2q, Z2r, Z2s, Z20, Z1q, Z1r, Z2z, Z2t, Z21, Z22, splice, Za, Z9, Z1, Z0, Z19, Zt, Zs, Z18, newB, vcs, Z30, Z2v, Z1x, Z29, Z1n, Z2u, Z1o, Z1f, Z1p, Z1d, Z1e, Ty.ld3, Ty.sz3, Ty.zc3, Ty.by3, Ty.ld24, Ty.sz24, Ty.sl24, Ty.zc24, Ty.by24, Ty.ld56, Ty.sz56, Ty.sl56, Ty.zc56, Ty.by56, Ty.ld58, Ty.sz58, Ty.zc58, Ty.by58, Ty.fl58_0, Ty.fl58_1, Ty.fl58_2, Ty.ld77, Ty.sz77, Ty.zc77, Ty.by77, Ty.fl77_0, Ty.fl77_1, Ty.fl77_2, Ty.fl77_3, Ty.fl77_4, Ty.fl77_5, Ty.ld80, Ty.sz80, Ty.zc80, Ty.by80, Ty.fl80_0, Ty.fl80_1, Ty.fl80_2, Ty.fl80_3, Ty.fl80_4, Ty.fl80_5, Ty.fl80_6, Ty.fl80_7, DAct.cells_length, DAct.cells_flat, DAct.cells_take, DAct.get0, DAct.get7, Z35, *]; rfl)
        | (with_reducible exact l16Form_ok _ _)
        | (with_reducible refine l16Code_ok _ people items _ _ _ _ ?_ ?_ ?_ ?_ ?_ ?_
           · first | assumption | exact Sl.old (by assumption) _ | ((try (simp only [deskV, deskL, Z11, Z12, Z1y, Z1h, Za, Z9, Z7, Zc, Zd, Z6, Z3, Z2, Zf, Zi, Nat.reduceAdd, Zh])); first | exact Sl.old (by assumption) _ | exact sl_nilints | exact sl_nilitems | (refine sl_ints (Z4 _) ?_; exact rfl) | (refine sl_items (Z4 _) ?_; exact rfl) | (refine sl_ints0 (Z4 _) ?_; exact rfl) | (refine sl_items0 (Z4 _) ?_; exact rfl))
           · first | assumption | exact Sl.old (by assumption) _ | ((try (simp only [deskV, deskL, Z11, Z12, Z1y, Z1h, Za, Z9, Z7, Zc, Zd, Z6, Z3, Z2, Zf, Zi, Nat.reduceAdd, Zh])); first | exact Sl.old (by assumption) _ | exact sl_nilints | exact sl_nilitems | (refine sl_ints (Z4 _) ?_; exact rfl) | (refine sl_items (Z4 _) ?_; exact rfl) | (refine sl_ints0 (Z4 _) ?_; exact rfl) | (refine sl_items0 (Z4 _) ?_; exact rfl))
           · assumption
           · first | omega | (simp only [Z2]; omega)
           · assumption
           · assumption
           )
        | (with_reducible refine l16Own_ok _ _ items _ _ _ _ ?_ ?_ ?_ ?_ ?_
           · first | assumption | exact Sl.old (by assumption) _ | ((try (simp only [deskV, deskL, Z11, Z12, Z1y, Z1h, Za, Z9, Z7, Zc, Zd, Z6, Z3, Z2, Zf, Zi, Nat.reduceAdd, Zh])); first | exact Sl.old (by assumption) _ | exact sl_nilints | exact sl_nilitems | (refine sl_ints (Z4 _) ?_; exact rfl) | (refine sl_items (Z4 _) ?_; exact rfl) | (refine sl_ints0 (Z4 _) ?_; exact rfl) | (refine sl_items0 (Z4 _) ?_; exact rfl))
           · first | assumption | exact Sl.old (by assumption) _ | ((try (simp only [deskV, deskL, Z11, Z12, Z1y, Z1h, Za, Z9, Z7, Zc, Zd, Z6, Z3, Z2, Zf, Zi, Nat.reduceAdd, Zh])); first | exact Sl.old (by assumption) _ | exact sl_nilints | exact sl_nilitems | (refine sl_ints (Z4 _) ?_; exact rfl) | (refine sl_items (Z4 _) ?_; exact rfl) | (refine sl_ints0 (Z4 _) ?_; exact rfl) | (refine sl_items0 (Z4 _) ?_; exact rfl))
           · first | omega | (simp only [Z2]; omega)
           · first | omega | (simp only [Z2]; omega)
           · (intro i q; have hz := hvb i q; simp only [Z6, Z3, Z2]; omega)
           )
        | ((with_reducible refine Z2w (n := 128) ?_); rintro _ _ ⟨rfl, hh⟩; replace hh := hh.symm; subst hh)
        | ((with_reducible refine Z2w (n := 129) ?_); rintro _ _ ⟨rfl, hh⟩; replace hh := hh.symm; subst hh)
        | ((with_reducible refine Z2w (n := 130) ?_); rintro _ _ ⟨rfl, hh⟩; replace hh := hh.symm; subst hh)
        )
      refine xe_clw (f := 131) (fs := #[]) (cs := #[]) (args := ?_) (v := .agg #[.int .i64 (doNow now a), .slice (some ⟨h.length + 3, 0, some 0⟩) people.length people.length, .slice (some ⟨h.length + 5, 0, some 0⟩) (doItems now items a).length (doItems now items a).length]) (a := true) (E := [h.length + 4])
        (h' := h ++ [⟨2, 1, [.int .i64 now, .slice (some ap) people.length c, .slice b2 items.length c2]⟩, ⟨2, 1, a.cells⟩, ⟨2, 1, [.int .i64 0, .slice none 0 0, .slice none 0 0]⟩, ⟨2, 1, (ints people).flatten⟩, ⟨0, 0, []⟩, ⟨2, 6, cellsL (doItems now items a)⟩]) ?_ Ty.ok131 ?_ (by decide +kernel) (by exact rfl) (by exact rfl) ?_ (by simp) (by simp) ?_ ?_ ?_
      rotate_left 1
      · simp only [ev]
      · simp only [stp, ev, Zb, Z2e, Z1z, Zk, Zl, reduceIte, Nat.reduceEqDiff, Zj, Zz, Zu, Z16, Z1a, Zm, Zp, Zo, Zd, Zx, Z2b, Z2x, Z1g, Z17, Zq, Zn, Zv, Z2p, Z2f, Z2o, Z2d, Z2g, Z1c, Z1b, Z2i, Z2n, Z2h, Z2j, Z2k, Z2l, Z2m, Z31, Z8, Z5, Z13, Zy, ldv, stv, vcs, fldA, blt, lenV, Z10, Z3, Z2, Zf, Zg, Ze, Z1, Z0, Z14, Zw, Zh, Zr, Z33, Z15, Z7, Zc, Z6, Z3, Z2, Zf, Zi, Nat.reduceAdd, Nat.reduceMul, Nat.reduceLeDiff, Z11, Z12, Z1y, Z1h, Z2c, Z23, Z28, Z27, Z26, Z25, Z24, Z1m, Z1l, Z1k, Z1j, Z1i, Z1w, Z1v, Z1u, Z1t, Z1s, Z32, Z2y, Z2q, Z2r, Z2s, Z20, Z1q, Z1r, Z2z, Z2t, Z21, Z22, splice, Za, Z9, Z1, Z0, Z19, Zt, Zs, Z18, newB, vcs, Z30, Z2v, Z1x, Z29, Z1n, Z2u, Z1o, Z1f, Z1p, Z1d, Z1e, Ty.ld3, Ty.sz3, Ty.zc3, Ty.by3, Ty.ld24, Ty.sz24, Ty.sl24, Ty.zc24, Ty.by24, Ty.ld56, Ty.sz56, Ty.sl56, Ty.zc56, Ty.by56, Ty.ld58, Ty.sz58, Ty.zc58, Ty.by58, Ty.fl58_0, Ty.fl58_1, Ty.fl58_2, Ty.ld77, Ty.sz77, Ty.zc77, Ty.by77, Ty.fl77_0, Ty.fl77_1, Ty.fl77_2, Ty.fl77_3, Ty.fl77_4, Ty.fl77_5, Ty.ld80, Ty.sz80, Ty.zc80, Ty.by80, Ty.fl80_0, Ty.fl80_1, Ty.fl80_2, Ty.fl80_3, Ty.fl80_4, Ty.fl80_5, Ty.fl80_6, Ty.fl80_7, *]; rfl
      · simp only [Z7, Zc, Zd]; exact hdo
      · simpa only [Z7, Zc, Zd] using clw_same (h := h) (A := [⟨2, 1, [.int .i64 now, .slice (some ap) people.length c, .slice b2 items.length c2]⟩, ⟨2, 1, a.cells⟩, ⟨2, 1, [.int .i64 0, .slice none 0 0, .slice none 0 0]⟩, ⟨2, 1, (ints people).flatten⟩]) (B := ⟨2, 6, cellsL items⟩) (B' := ⟨0, 0, []⟩) (C := ⟨2, 6, cellsL (doItems now items a)⟩) (n := 4)
      · simpa only [Z7, Zc, Zd] using clw_e (h := h) (A := [⟨2, 1, [.int .i64 now, .slice (some ap) people.length c, .slice b2 items.length c2]⟩, ⟨2, 1, a.cells⟩, ⟨2, 1, [.int .i64 0, .slice none 0 0, .slice none 0 0]⟩, ⟨2, 1, (ints people).flatten⟩]) (cs := cellsL items) (e := 6) (n := 4)
      repeat' (first
        | ((with_reducible refine eq_go ?_); simp only [stp, ev, Zb, Z2e, Z1z, Zk, Zl, reduceIte, Nat.reduceEqDiff, Zj, Zz, Zu, Z16, Z1a, Zm, Zp, Zo, Zd, Zx, Z2b, Z2x, Z1g, Z17, Zq, Zn, Zv, Z2p, Z2f, Z2o, Z2d, Z2g, Z1c, Z1b, Z2i, Z2n, Z2h, Z2j, Z2k, Z2l, Z2m, Z31, Z8, Z5, Z13, Zy, ldv, stv, vcs, fldA, blt, lenV, Z10, Z3, Z2, Zf, Zg, Ze, Z1, Z0, Z14, Zw, Zh, Zr, Z33, Z15, Z7, Zc, Z6, Z3, Z2, Zf, Zi, Nat.reduceAdd, Nat.reduceMul, Nat.reduceLeDiff, Z11, Z12, Z1y, Z1h, Z2c, Z23, Z28, Z27, Z26, Z25, Z24, Z1m, Z1l, Z1k, Z1j, Z1i, Z1w, Z1v, Z1u, Z1t, Z1s, Z32, Z2y, Z2q, Z2r, Z2s, Z20, Z1q, Z1r, Z2z, Z2t, Z21, Z22, splice, Za, Z9, Z1, Z0, Z19, Zt, Zs, Z18, newB, vcs, Z30, Z2v, Z1x, Z29, Z1n, Z2u, Z1o, Z1f, Z1p, Z1d, Z1e, Ty.ld3, Ty.sz3, Ty.zc3, Ty.by3, Ty.ld24, Ty.sz24, Ty.sl24, Ty.zc24, Ty.by24, Ty.ld56, Ty.sz56, Ty.sl56, Ty.zc56, Ty.by56, Ty.ld58, Ty.sz58, Ty.zc58, Ty.by58, Ty.fl58_0, Ty.fl58_1, Ty.fl58_2, Ty.ld77, Ty.sz77, Ty.zc77, Ty.by77, Ty.fl77_0, Ty.fl77_1, Ty.fl77_2, Ty.fl77_3, Ty.fl77_4, Ty.fl77_5, Ty.ld80, Ty.sz80, Ty.zc80, Ty.by80, Ty.fl80_0, Ty.fl80_1, Ty.fl80_2, Ty.fl80_3, Ty.fl80_4, Ty.fl80_5, Ty.fl80_6, Ty.fl80_7, DAct.cells_length, DAct.cells_flat, DAct.cells_take, DAct.get0, DAct.get7, *]; rfl)
        | (with_reducible refine aw_then ?_) | (with_reducible refine aw_skip ?_) | (with_reducible refine aw_ret ?_) | (with_reducible refine aw_exit ?_) | (with_reducible refine aw_block ?_) | (with_reducible refine xr_reg (by decide +kernel) ?_)
        | (with_reducible refine xr_nil ?_) | (with_reducible refine k_norm ?_) | (with_reducible refine k_ret ?_) | (with_reducible refine k_exit ?_) | (with_reducible refine b_norm ?_) | (with_reducible refine b_ret ?_) | (with_reducible refine b_exit ?_) | (with_reducible refine b_past (by decide) ?_)
        | (with_reducible refine xd_nil ?_)
        | (refine xr_cl (f := ?_) (fs := ?_) (cs := ?_) (args := ?_) (K := ?_) ?_ ?_ ?_ ?_ ?_
           rotate_left 5
           · simp only [ev]; rfl
           first
           | (· with_reducible exact Ty.ok128
              rotate_left 2
              refine Z2a 128 ?_
              rotate_right 2)
           | (· with_reducible exact Ty.ok129
              rotate_left 2
              refine Z2a 129 ?_
              rotate_right 2)
           | (· with_reducible exact Ty.ok130
              rotate_left 2
              refine Z2a 130 ?_
              rotate_right 2)
           )
        | (refine xd_clnew (f := ?_) (fs := ?_) (cs := ?_) (args := ?_) (v := ?_) (L := ?_) ?_ ?_ ?_ ?_ ?_ ?_
           rotate_left 6
           · simp only [ev]; rfl
           · first | with_reducible exact Ty.ok130
           rotate_left 1
           · decide +kernel
           rotate_right 1)
        | (refine xd_cl (f := ?_) (fs := ?_) (cs := ?_) (args := ?_) (v := ?_) ?_ ?_ ?_ ?_ ?_ ?_
           rotate_left 5
           · simp only [ev]; rfl
           · first | with_reducible exact Ty.ok128 | with_reducible exact Ty.ok129
           rotate_left 1
           · decide +kernel
           rotate_right 1)
        | (refine xr_do (v := ?_) (h' := ?_) (by exact rfl) ?_ ?_; rotate_left 2)
        | (refine xr_st (v := ?_) (h' := ?_) (by exact rfl) ?_ ?_; rotate_left 2)
        | (refine xe_reg (ms := [0, 1, 0, 7, 15, 31]) Ty.mx (by decide +kernel) (by decide +kernel) [[],[],[],[h.length + 4],[h.length + 2],[]] ?_)
        | (with_reducible refine xe_nil ?_)
        | (refine xe_do (v := ?_) (ids := []) (by exact rfl) (by decide +kernel) (by exact rfl) (by exact rfl) ?_ ?_; rotate_left 1)
        | (refine xe_st (v := ?_) (a := ?_) (h' := ?_) (ids := []) (by decide +kernel) (by exact rfl) ?_ ?_ ?_ ?_ ?_
           rotate_left 3
           · simp only [stp, ev, Zb, Z2e, Z1z, Zk, Zl, reduceIte, Nat.reduceEqDiff, Zj, Zz, Zu, Z16, Z1a, Zm, Zp, Zo, Zd, Zx, Z2b, Z2x, Z1g, Z17, Zq, Zn, Zv, Z2p, Z2f, Z2o, Z2d, Z2g, Z1c, Z1b, Z2i, Z2n, Z2h, Z2j, Z2k, Z2l, Z2m, Z31, Z8, Z5, Z13, Zy, ldv, stv, vcs, fldA, blt, lenV, Z10, Z3, Z2, Zf, Zg, Ze, Z1, Z0, Z14, Zw, Zh, Zr, Z33, Z15, Z7, Zc, Z6, Z3, Z2, Zf, Zi, Nat.reduceAdd, Nat.reduceMul, Nat.reduceLeDiff, Z11, Z12, Z1y, Z1h, Z2c, Z23, Z28, Z27, Z26, Z25, Z24, Z1m, Z1l, Z1k, Z1j, Z1i, Z1w, Z1v, Z1u, Z1t, Z1s, Z32, Z2y, Z2q, Z2r, Z2s, Z20, Z1q, Z1r, Z2z, Z2t, Z21, Z22, splice, Za, Z9, Z1, Z0, Z19, Zt, Zs, Z18, newB, vcs, Z30, Z2v, Z1x, Z29, Z1n, Z2u, Z1o, Z1f, Z1p, Z1d, Z1e, Ty.ld3, Ty.sz3, Ty.zc3, Ty.by3, Ty.ld24, Ty.sz24, Ty.sl24, Ty.zc24, Ty.by24, Ty.ld56, Ty.sz56, Ty.sl56, Ty.zc56, Ty.by56, Ty.ld58, Ty.sz58, Ty.zc58, Ty.by58, Ty.fl58_0, Ty.fl58_1, Ty.fl58_2, Ty.ld77, Ty.sz77, Ty.zc77, Ty.by77, Ty.fl77_0, Ty.fl77_1, Ty.fl77_2, Ty.fl77_3, Ty.fl77_4, Ty.fl77_5, Ty.ld80, Ty.sz80, Ty.zc80, Ty.by80, Ty.fl80_0, Ty.fl80_1, Ty.fl80_2, Ty.fl80_3, Ty.fl80_4, Ty.fl80_5, Ty.fl80_6, Ty.fl80_7, DAct.cells_length, DAct.cells_flat, DAct.cells_take, DAct.get0, DAct.get7, *]; rfl
           · exact rfl
           · simp
           skip)
        | (refine xe_alloc (z := ?_) ?_ ?_ (by exact rfl) ?_
           rotate_left 1
           · first | exact Ty.zc3 | exact Ty.zc56 | exact Ty.zc58 | exact Ty.zc80
           · decide)
        | (refine xe_pure (ids := []) (f := ?_) (fs := ?_) (cs := ?_) (args := ?_) (v := ?_) ?_ ?_ ?_ (by decide +kernel) (by exact rfl) (by exact rfl) ?_ ?_
           rotate_left 5
           · simp only [ev]; rfl
           · first | with_reducible exact Ty.ok128 | with_reducible exact Ty.ok129
           · simp only [stp, ev, Zb, Z2e, Z1z, Zk, Zl, reduceIte, Nat.reduceEqDiff, Zj, Zz, Zu, Z16, Z1a, Zm, Zp, Zo, Zd, Zx, Z2b, Z2x, Z1g, Z17, Zq, Zn, Zv, Z2p, Z2f, Z2o, Z2d, Z2g, Z1c, Z1b, Z2i, Z2n, Z2h, Z2j, Z2k, Z2l, Z2m, Z31, Z8, Z5, Z13, Zy, ldv, stv, vcs, fldA, blt, lenV, Z10, Z3, Z2, Zf, Zg, Ze, Z1, Z0, Z14, Zw, Zh, Zr, Z33, Z15, Z7, Zc, Z6, Z3, Z2, Zf, Zi, Nat.reduceAdd, Nat.reduceMul, Nat.reduceLeDiff, Z11, Z12, Z1y, Z1h, Z2c, Z23, Z28, Z27, Z26, Z25, Z24, Z1m, Z1l, Z1k, Z1j, Z1i, Z1w, Z1v, Z1u, Z1t, Z1s, Z32, Z2y, Z2q, Z2r, Z2s, Z20, Z1q, Z1r, Z2z, Z2t, Z21, Z22, splice, Za, Z9, Z1, Z0, Z19, Zt, Zs, Z18, newB, vcs, Z30, Z2v, Z1x, Z29, Z1n, Z2u, Z1o, Z1f, Z1p, Z1d, Z1e, Ty.ld3, Ty.sz3, Ty.zc3, Ty.by3, Ty.ld24, Ty.sz24, Ty.sl24, Ty.zc24, Ty.by24, Ty.ld56, Ty.sz56, Ty.sl56, Ty.zc56, Ty.by56, Ty.ld58, Ty.sz58, Ty.zc58, Ty.by58, Ty.fl58_0, Ty.fl58_1, Ty.fl58_2, Ty.ld77, Ty.sz77, Ty.zc77, Ty.by77, Ty.fl77_0, Ty.fl77_1, Ty.fl77_2, Ty.fl77_3, Ty.fl77_4, Ty.fl77_5, Ty.ld80, Ty.sz80, Ty.zc80, Ty.by80, Ty.fl80_0, Ty.fl80_1, Ty.fl80_2, Ty.fl80_3, Ty.fl80_4, Ty.fl80_5, Ty.fl80_6, Ty.fl80_7, DAct.cells_length, DAct.cells_flat, DAct.cells_take, DAct.get0, DAct.get7, *]; rfl
           · first
             | (with_reducible refine l16Form_ok _ _
                )
             | (with_reducible refine l16Code_ok _ people items _ _ _ _ ?_ ?_ ?_ ?_ ?_ ?_
                · first | assumption | exact Sl.old (by assumption) _ | ((try (simp only [deskV, deskL, Z11, Z12, Z1y, Z1h, Za, Z9, Z7, Zc, Zd, Z6, Z3, Z2, Zf, Zi, Nat.reduceAdd, Zh])); first | exact Sl.old (by assumption) _ | exact sl_nilints | exact sl_nilitems | (refine sl_ints (Z4 _) ?_; exact rfl) | (refine sl_items (Z4 _) ?_; exact rfl) | (refine sl_ints0 (Z4 _) ?_; exact rfl) | (refine sl_items0 (Z4 _) ?_; exact rfl))
                · first | assumption | exact Sl.old (by assumption) _ | ((try (simp only [deskV, deskL, Z11, Z12, Z1y, Z1h, Za, Z9, Z7, Zc, Zd, Z6, Z3, Z2, Zf, Zi, Nat.reduceAdd, Zh])); first | exact Sl.old (by assumption) _ | exact sl_nilints | exact sl_nilitems | (refine sl_ints (Z4 _) ?_; exact rfl) | (refine sl_items (Z4 _) ?_; exact rfl) | (refine sl_ints0 (Z4 _) ?_; exact rfl) | (refine sl_items0 (Z4 _) ?_; exact rfl))
                · assumption
                · omega
                · assumption
                · assumption
                )
           skip)
        | (refine xe_cl (f := ?_) (fs := ?_) (cs := ?_) (args := ?_) (v := ?_) (ids := []) (L := ?_) (a := true) ?_ ?_ ?_ (by decide +kernel) (by exact rfl) (by exact rfl) (fun q => by cases q) ?_ ?_
           rotate_left 6
           · simp only [ev]; rfl
           · first | with_reducible exact Ty.ok130
           · simp only [stp, ev, Zb, Z2e, Z1z, Zk, Zl, reduceIte, Nat.reduceEqDiff, Zj, Zz, Zu, Z16, Z1a, Zm, Zp, Zo, Zd, Zx, Z2b, Z2x, Z1g, Z17, Zq, Zn, Zv, Z2p, Z2f, Z2o, Z2d, Z2g, Z1c, Z1b, Z2i, Z2n, Z2h, Z2j, Z2k, Z2l, Z2m, Z31, Z8, Z5, Z13, Zy, ldv, stv, vcs, fldA, blt, lenV, Z10, Z3, Z2, Zf, Zg, Ze, Z1, Z0, Z14, Zw, Zh, Zr, Z33, Z15, Z7, Zc, Z6, Z3, Z2, Zf, Zi, Nat.reduceAdd, Nat.reduceMul, Nat.reduceLeDiff, Z11, Z12, Z1y, Z1h, Z2c, Z23, Z28, Z27, Z26, Z25, Z24, Z1m, Z1l, Z1k, Z1j, Z1i, Z1w, Z1v, Z1u, Z1t, Z1s, Z32, Z2y, Z2q, Z2r, Z2s, Z20, Z1q, Z1r, Z2z, Z2t, Z21, Z22, splice, Za, Z9, Z1, Z0, Z19, Zt, Zs, Z18, newB, vcs, Z30, Z2v, Z1x, Z29, Z1n, Z2u, Z1o, Z1f, Z1p, Z1d, Z1e, Ty.ld3, Ty.sz3, Ty.zc3, Ty.by3, Ty.ld24, Ty.sz24, Ty.sl24, Ty.zc24, Ty.by24, Ty.ld56, Ty.sz56, Ty.sl56, Ty.zc56, Ty.by56, Ty.ld58, Ty.sz58, Ty.zc58, Ty.by58, Ty.fl58_0, Ty.fl58_1, Ty.fl58_2, Ty.ld77, Ty.sz77, Ty.zc77, Ty.by77, Ty.fl77_0, Ty.fl77_1, Ty.fl77_2, Ty.fl77_3, Ty.fl77_4, Ty.fl77_5, Ty.ld80, Ty.sz80, Ty.zc80, Ty.by80, Ty.fl80_0, Ty.fl80_1, Ty.fl80_2, Ty.fl80_3, Ty.fl80_4, Ty.fl80_5, Ty.fl80_6, Ty.fl80_7, DAct.cells_length, DAct.cells_flat, DAct.cells_take, DAct.get0, DAct.get7, *]; rfl
           · simp only [Z2c]
             first
             | (with_reducible refine l16Own_ok _ _ items _ _ _ _ ?_ ?_ ?_ ?_ ?_
                · first | assumption | exact Sl.old (by assumption) _ | ((try (simp only [deskV, deskL, Z11, Z12, Z1y, Z1h, Za, Z9, Z7, Zc, Zd, Z6, Z3, Z2, Zf, Zi, Nat.reduceAdd, Zh])); first | exact Sl.old (by assumption) _ | exact sl_nilints | exact sl_nilitems | (refine sl_ints (Z4 _) ?_; exact rfl) | (refine sl_items (Z4 _) ?_; exact rfl) | (refine sl_ints0 (Z4 _) ?_; exact rfl) | (refine sl_items0 (Z4 _) ?_; exact rfl))
                · first | assumption | exact Sl.old (by assumption) _ | ((try (simp only [deskV, deskL, Z11, Z12, Z1y, Z1h, Za, Z9, Z7, Zc, Zd, Z6, Z3, Z2, Zf, Zi, Nat.reduceAdd, Zh])); first | exact Sl.old (by assumption) _ | exact sl_nilints | exact sl_nilitems | (refine sl_ints (Z4 _) ?_; exact rfl) | (refine sl_items (Z4 _) ?_; exact rfl) | (refine sl_ints0 (Z4 _) ?_; exact rfl) | (refine sl_items0 (Z4 _) ?_; exact rfl))
                · omega
                · omega
                · (intro i q; have hz := hvb i q; simp only [Z6, Z3, Z2]; omega)
                )
           skip)
        | (refine xd_do (v := ?_) (by exact rfl) (by decide +kernel) ?_ ?_; rotate_left 1)
        | (refine aw_ift (by decide) ?_ ?_
           · simp only [ev, Zb, reduceIte, Nat.reduceEqDiff, *])
        | (refine aw_iff (by decide) ?_ ?_
           · simp only [ev, Zb, reduceIte, Nat.reduceEqDiff, *])
        | (refine aw_if (b := ?_) (by decide) ?_ (fun hb => ?_) (fun hb => ?_)
           rotate_left 1
           · simp only [ev, Zb, reduceIte, Nat.reduceEqDiff, *]; rfl)
        | (refine r_ret (vs := ?_) ?_ ?_
           rotate_left 1
           · simp only [resV, oneOf, stp, ev, Zb, Z2e, Z1z, Zk, Zl, reduceIte, Nat.reduceEqDiff, Zj, Zz, Zu, Z16, Z1a, Zm, Zp, Zo, Zd, Zx, Z2b, Z2x, Z1g, Z17, Zq, Zn, Zv, Z2p, Z2f, Z2o, Z2d, Z2g, Z1c, Z1b, Z2i, Z2n, Z2h, Z2j, Z2k, Z2l, Z2m, Z31, Z8, Z5, Z13, Zy, ldv, stv, vcs, fldA, blt, lenV, Z10, Z3, Z2, Zf, Zg, Ze, Z1, Z0, Z14, Zw, Zh, Zr, Z33, Z15, Z7, Zc, Z6, Z3, Z2, Zf, Zi, Nat.reduceAdd, Nat.reduceMul, Nat.reduceLeDiff, Z11, Z12, Z1y, Z1h, Z2c, Z23, Z28, Z27, Z26, Z25, Z24, Z1m, Z1l, Z1k, Z1j, Z1i, Z1w, Z1v, Z1u, Z1t, Z1s, Z32, Z2y, Z2q, Z2r, Z2s, Z20, Z1q, Z1r, Z2z, Z2t, Z21, Z22, splice, Za, Z9, Z1, Z0, Z19, Zt, Zs, Z18, newB, vcs, Z30, Z2v, Z1x, Z29, Z1n, Z2u, Z1o, Z1f, Z1p, Z1d, Z1e, Ty.ld3, Ty.sz3, Ty.zc3, Ty.by3, Ty.ld24, Ty.sz24, Ty.sl24, Ty.zc24, Ty.by24, Ty.ld56, Ty.sz56, Ty.sl56, Ty.zc56, Ty.by56, Ty.ld58, Ty.sz58, Ty.zc58, Ty.by58, Ty.fl58_0, Ty.fl58_1, Ty.fl58_2, Ty.ld77, Ty.sz77, Ty.zc77, Ty.by77, Ty.fl77_0, Ty.fl77_1, Ty.fl77_2, Ty.fl77_3, Ty.fl77_4, Ty.fl77_5, Ty.ld80, Ty.sz80, Ty.zc80, Ty.by80, Ty.fl80_0, Ty.fl80_1, Ty.fl80_2, Ty.fl80_3, Ty.fl80_4, Ty.fl80_5, Ty.fl80_6, Ty.fl80_7, DAct.cells_length, DAct.cells_flat, DAct.cells_take, DAct.get0, DAct.get7, *]; rfl)
        | (with_reducible exact l16Form_ok _ _)
        | (with_reducible refine l16Code_ok _ people items _ _ _ _ ?_ ?_ ?_ ?_ ?_ ?_
           · first | assumption | exact Sl.old (by assumption) _ | ((try (simp only [deskV, deskL, Z11, Z12, Z1y, Z1h, Za, Z9, Z7, Zc, Zd, Z6, Z3, Z2, Zf, Zi, Nat.reduceAdd, Zh])); first | exact Sl.old (by assumption) _ | exact sl_nilints | exact sl_nilitems | (refine sl_ints (Z4 _) ?_; exact rfl) | (refine sl_items (Z4 _) ?_; exact rfl) | (refine sl_ints0 (Z4 _) ?_; exact rfl) | (refine sl_items0 (Z4 _) ?_; exact rfl))
           · first | assumption | exact Sl.old (by assumption) _ | ((try (simp only [deskV, deskL, Z11, Z12, Z1y, Z1h, Za, Z9, Z7, Zc, Zd, Z6, Z3, Z2, Zf, Zi, Nat.reduceAdd, Zh])); first | exact Sl.old (by assumption) _ | exact sl_nilints | exact sl_nilitems | (refine sl_ints (Z4 _) ?_; exact rfl) | (refine sl_items (Z4 _) ?_; exact rfl) | (refine sl_ints0 (Z4 _) ?_; exact rfl) | (refine sl_items0 (Z4 _) ?_; exact rfl))
           · assumption
           · first | omega | (simp only [Z2]; omega)
           · assumption
           · assumption
           )
        | (with_reducible refine l16Own_ok _ _ items _ _ _ _ ?_ ?_ ?_ ?_ ?_
           · first | assumption | exact Sl.old (by assumption) _ | ((try (simp only [deskV, deskL, Z11, Z12, Z1y, Z1h, Za, Z9, Z7, Zc, Zd, Z6, Z3, Z2, Zf, Zi, Nat.reduceAdd, Zh])); first | exact Sl.old (by assumption) _ | exact sl_nilints | exact sl_nilitems | (refine sl_ints (Z4 _) ?_; exact rfl) | (refine sl_items (Z4 _) ?_; exact rfl) | (refine sl_ints0 (Z4 _) ?_; exact rfl) | (refine sl_items0 (Z4 _) ?_; exact rfl))
           · first | assumption | exact Sl.old (by assumption) _ | ((try (simp only [deskV, deskL, Z11, Z12, Z1y, Z1h, Za, Z9, Z7, Zc, Zd, Z6, Z3, Z2, Zf, Zi, Nat.reduceAdd, Zh])); first | exact Sl.old (by assumption) _ | exact sl_nilints | exact sl_nilitems | (refine sl_ints (Z4 _) ?_; exact rfl) | (refine sl_items (Z4 _) ?_; exact rfl) | (refine sl_ints0 (Z4 _) ?_; exact rfl) | (refine sl_items0 (Z4 _) ?_; exact rfl))
           · first | omega | (simp only [Z2]; omega)
           · first | omega | (simp only [Z2]; omega)
           · (intro i q; have hz := hvb i q; simp only [Z6, Z3, Z2]; omega)
           )
        | ((with_reducible refine Z2w (n := 128) ?_); rintro _ _ ⟨rfl, hh⟩; replace hh := hh.symm; subst hh)
        | ((with_reducible refine Z2w (n := 129) ?_); rintro _ _ ⟨rfl, hh⟩; replace hh := hh.symm; subst hh)
        | ((with_reducible refine Z2w (n := 130) ?_); rintro _ _ ⟨rfl, hh⟩; replace hh := hh.symm; subst hh)
        )
      refine stepV_keep (k1 := 3) (k2 := 5) ?_ ?_ (by decide) <;> exact rfl
  · obtain ⟨e1, e2⟩ := step_pos hc
    rw [e1, e2]
    clear e1 e2 hown
    have hz5 : decide ((0 : Int) < 5) = true := rfl
    have hz1 : decide ((0 : Int) < 1) = true := rfl
    have key : (formM a = true ∧ ((decide (a.kind = 1) = true ∧ decide ((items.length : Int) = 40) = true ∧ stepCode now people items a = 5) ∨ (decide (a.kind = 1) = false ∧ decide (a.kind = 8) = true ∧ IntKind.i64.wrap (now + a.many) = now + a.many ∧ decide (10000 < now + a.many) = true ∧ stepCode now people items a = 5) ∨
        (decide (a.kind = 1) = false ∧ decide (a.kind = 8) = false ∧ (2 ≤ a.kind ∧ a.kind ≤ 7) ∧ decide (0 < (if inRange items a then codeI people (items.getD a.item.toNat Item.nil) a else 2)) = true ∧
          stepCode now people items a = (if inRange items a then codeI people (items.getD a.item.toNat Item.nil) a else 2)))) ∨ (formM a = false ∧ stepCode now people items a = 1) := by
      rcases Bool.eq_false_or_eq_true (formM a) with hfm | hfm
      · have hkr := form_kind hfm
        refine .inl ⟨hfm, ?_⟩
        by_cases hk1 : a.kind = 1
        · left
          by_cases h40 : items.length = 40
          · exact ⟨decide_eq_true hk1, decide_eq_true (by omega), by unfold stepCode; simp [hfm, hk1, h40]⟩
          · exact absurd (by unfold stepCode; simp [hfm, hk1, h40]) hc
        · right
          by_cases hk8 : a.kind = 8
          · left
            by_cases hov : 10000 < now + a.many
            · exact ⟨decide_eq_false hk1, decide_eq_true hk8, hwm _ (form_many hfm hk8), decide_eq_true hov, by unfold stepCode; simp [hfm, hk8, hov]⟩
            · exact absurd (by unfold stepCode; simp [hfm, hk8, hov]) hc
          · right
            have hsc : stepCode now people items a = (if inRange items a then codeI people (items.getD a.item.toNat Item.nil) a else 2) := by
              unfold stepCode
              simp [hfm, hk1, hk8]
            refine ⟨decide_eq_false hk1, decide_eq_false hk8, by omega, decide_eq_true ?_, hsc⟩
            rw [hsc] at hc
            have := codeI_range people (items.getD a.item.toNat Item.nil) a
            by_cases q : inRange items a
            · simp only [if_pos q] at hc ⊢; omega
            · simp only [if_neg q]; omega
      · exact .inr ⟨hfm, by unfold stepCode; simp [hfm]⟩
    clear hc hg hwm
    obtain ⟨hfm, ⟨hk1', h40', hsc⟩ | ⟨hk1', hk8', hw, hov', hsc⟩ | ⟨hk1', hk8', hkr2, hp0, hsc⟩⟩ | ⟨hfm, hsc⟩ := key
    all_goals
      rw [hsc]
      clear hsc
      refine Z36 Try.func110 rfl Try.ntmps110 (by simp) (by dsimp only [Try.f110]) ?_
      repeat' (first
        | ((with_reducible refine eq_go ?_); simp only [stp, ev, Zb, Z2e, Z1z, Zk, Zl, reduceIte, Nat.reduceEqDiff, Zj, Zz, Zu, Z16, Z1a, Zm, Zp, Zo, Zd, Zx, Z2b, Z2x, Z1g, Z17, Zq, Zn, Zv, Z2p, Z2f, Z2o, Z2d, Z2g, Z1c, Z1b, Z2i, Z2n, Z2h, Z2j, Z2k, Z2l, Z2m, Z31, Z8, Z5, Z13, Zy, ldv, stv, vcs, fldA, blt, lenV, Z10, Z3, Z2, Zf, Zg, Ze, Z1, Z0, Z14, Zw, Zh, Zr, Z33, Z15, Z7, Zc, Z6, Z3, Z2, Zf, Zi, Nat.reduceAdd, Nat.reduceMul, Nat.reduceLeDiff, Z11, Z12, Z1y, Z1h, Z2c, Z23, Z28, Z27, Z26, Z25, Z24, Z1m, Z1l, Z1k, Z1j, Z1i, Z1w, Z1v, Z1u, Z1t, Z1s, Z32, Z2y, Z2q, Z2r, Z2s, Z20, Z1q, Z1r, Z2z, Z2t, Z21, Z22, splice, Za, Z9, Z1, Z0, Z19, Zt, Zs, Z18, newB, vcs, Z30, Z2v, Z1x, Z29, Z1n, Z2u, Z1o, Z1f, Z1p, Z1d, Z1e, Ty.ld3, Ty.sz3, Ty.zc3, Ty.by3, Ty.ld24, Ty.sz24, Ty.sl24, Ty.zc24, Ty.by24, Ty.ld56, Ty.sz56, Ty.sl56, Ty.zc56, Ty.by56, Ty.ld58, Ty.sz58, Ty.zc58, Ty.by58, Ty.fl58_0, Ty.fl58_1, Ty.fl58_2, Ty.ld77, Ty.sz77, Ty.zc77, Ty.by77, Ty.fl77_0, Ty.fl77_1, Ty.fl77_2, Ty.fl77_3, Ty.fl77_4, Ty.fl77_5, Ty.ld80, Ty.sz80, Ty.zc80, Ty.by80, Ty.fl80_0, Ty.fl80_1, Ty.fl80_2, Ty.fl80_3, Ty.fl80_4, Ty.fl80_5, Ty.fl80_6, Ty.fl80_7, DAct.cells_length, DAct.cells_flat, DAct.cells_take, DAct.get0, DAct.get7, *]; rfl)
        | (with_reducible refine aw_then ?_) | (with_reducible refine aw_skip ?_) | (with_reducible refine aw_ret ?_) | (with_reducible refine aw_exit ?_) | (with_reducible refine aw_block ?_) | (with_reducible refine xr_reg (by decide +kernel) ?_)
        | (with_reducible refine xr_nil ?_) | (with_reducible refine k_norm ?_) | (with_reducible refine k_ret ?_) | (with_reducible refine k_exit ?_) | (with_reducible refine b_norm ?_) | (with_reducible refine b_ret ?_) | (with_reducible refine b_exit ?_) | (with_reducible refine b_past (by decide) ?_)
        | (with_reducible refine xd_nil ?_)
        | (refine xr_cl (f := ?_) (fs := ?_) (cs := ?_) (args := ?_) (K := ?_) ?_ ?_ ?_ ?_ ?_
           rotate_left 5
           · simp only [ev]; rfl
           first
           | (· with_reducible exact Ty.ok128
              rotate_left 2
              refine Z2a 128 ?_
              rotate_right 2)
           | (· with_reducible exact Ty.ok129
              rotate_left 2
              refine Z2a 129 ?_
              rotate_right 2)
           | (· with_reducible exact Ty.ok130
              rotate_left 2
              refine Z2a 130 ?_
              rotate_right 2)
           )
        | (refine xd_clnew (f := ?_) (fs := ?_) (cs := ?_) (args := ?_) (v := ?_) (L := ?_) ?_ ?_ ?_ ?_ ?_ ?_
           rotate_left 6
           · simp only [ev]; rfl
           · first | with_reducible exact Ty.ok130
           rotate_left 1
           · decide +kernel
           rotate_right 1)
        | (refine xd_cl (f := ?_) (fs := ?_) (cs := ?_) (args := ?_) (v := ?_) ?_ ?_ ?_ ?_ ?_ ?_
           rotate_left 5
           · simp only [ev]; rfl
           · first | with_reducible exact Ty.ok128 | with_reducible exact Ty.ok129
           rotate_left 1
           · decide +kernel
           rotate_right 1)
        | (refine xr_do (v := ?_) (h' := ?_) (by exact rfl) ?_ ?_; rotate_left 2)
        | (refine xr_st (v := ?_) (h' := ?_) (by exact rfl) ?_ ?_; rotate_left 2)
        | (refine xd_reg (ms := [0, 1, 0, 7, 15, 31]) Ty.mx (by decide +kernel) (by decide +kernel) ?_)
        | (refine xd_do (v := ?_) (by exact rfl) (by decide +kernel) ?_ ?_; rotate_left 1)
        | (refine aw_ift (by decide) ?_ ?_
           · simp only [ev, Zb, reduceIte, Nat.reduceEqDiff, *])
        | (refine aw_iff (by decide) ?_ ?_
           · simp only [ev, Zb, reduceIte, Nat.reduceEqDiff, *])
        | (refine aw_if (b := ?_) (by decide) ?_ (fun hb => ?_) (fun hb => ?_)
           rotate_left 1
           · simp only [ev, Zb, reduceIte, Nat.reduceEqDiff, *]; rfl)
        | (refine r_ret (vs := ?_) ?_ ?_
           rotate_left 1
           · simp only [resV, oneOf, stp, ev, Zb, Z2e, Z1z, Zk, Zl, reduceIte, Nat.reduceEqDiff, Zj, Zz, Zu, Z16, Z1a, Zm, Zp, Zo, Zd, Zx, Z2b, Z2x, Z1g, Z17, Zq, Zn, Zv, Z2p, Z2f, Z2o, Z2d, Z2g, Z1c, Z1b, Z2i, Z2n, Z2h, Z2j, Z2k, Z2l, Z2m, Z31, Z8, Z5, Z13, Zy, ldv, stv, vcs, fldA, blt, lenV, Z10, Z3, Z2, Zf, Zg, Ze, Z1, Z0, Z14, Zw, Zh, Zr, Z33, Z15, Z7, Zc, Z6, Z3, Z2, Zf, Zi, Nat.reduceAdd, Nat.reduceMul, Nat.reduceLeDiff, Z11, Z12, Z1y, Z1h, Z2c, Z23, Z28, Z27, Z26, Z25, Z24, Z1m, Z1l, Z1k, Z1j, Z1i, Z1w, Z1v, Z1u, Z1t, Z1s, Z32, Z2y, Z2q, Z2r, Z2s, Z20, Z1q, Z1r, Z2z, Z2t, Z21, Z22, splice, Za, Z9, Z1, Z0, Z19, Zt, Zs, Z18, newB, vcs, Z30, Z2v, Z1x, Z29, Z1n, Z2u, Z1o, Z1f, Z1p, Z1d, Z1e, Ty.ld3, Ty.sz3, Ty.zc3, Ty.by3, Ty.ld24, Ty.sz24, Ty.sl24, Ty.zc24, Ty.by24, Ty.ld56, Ty.sz56, Ty.sl56, Ty.zc56, Ty.by56, Ty.ld58, Ty.sz58, Ty.zc58, Ty.by58, Ty.fl58_0, Ty.fl58_1, Ty.fl58_2, Ty.ld77, Ty.sz77, Ty.zc77, Ty.by77, Ty.fl77_0, Ty.fl77_1, Ty.fl77_2, Ty.fl77_3, Ty.fl77_4, Ty.fl77_5, Ty.ld80, Ty.sz80, Ty.zc80, Ty.by80, Ty.fl80_0, Ty.fl80_1, Ty.fl80_2, Ty.fl80_3, Ty.fl80_4, Ty.fl80_5, Ty.fl80_6, Ty.fl80_7, DAct.cells_length, DAct.cells_flat, DAct.cells_take, DAct.get0, DAct.get7, *]; rfl)
        | (with_reducible exact l16Form_ok _ _)
        | (with_reducible refine l16Code_ok _ people items _ _ _ _ ?_ ?_ ?_ ?_ ?_ ?_
           · first | assumption | exact Sl.old (by assumption) _ | ((try (simp only [deskV, deskL, Z11, Z12, Z1y, Z1h, Za, Z9, Z7, Zc, Zd, Z6, Z3, Z2, Zf, Zi, Nat.reduceAdd, Zh])); first | exact Sl.old (by assumption) _ | exact sl_nilints | exact sl_nilitems | (refine sl_ints (Z4 _) ?_; exact rfl) | (refine sl_items (Z4 _) ?_; exact rfl) | (refine sl_ints0 (Z4 _) ?_; exact rfl) | (refine sl_items0 (Z4 _) ?_; exact rfl))
           · first | assumption | exact Sl.old (by assumption) _ | ((try (simp only [deskV, deskL, Z11, Z12, Z1y, Z1h, Za, Z9, Z7, Zc, Zd, Z6, Z3, Z2, Zf, Zi, Nat.reduceAdd, Zh])); first | exact Sl.old (by assumption) _ | exact sl_nilints | exact sl_nilitems | (refine sl_ints (Z4 _) ?_; exact rfl) | (refine sl_items (Z4 _) ?_; exact rfl) | (refine sl_ints0 (Z4 _) ?_; exact rfl) | (refine sl_items0 (Z4 _) ?_; exact rfl))
           · assumption
           · first | omega | (simp only [Z2]; omega)
           · assumption
           · assumption
           )
        | (with_reducible refine l16Own_ok _ _ items _ _ _ _ ?_ ?_ ?_ ?_ ?_
           · first | assumption | exact Sl.old (by assumption) _ | ((try (simp only [deskV, deskL, Z11, Z12, Z1y, Z1h, Za, Z9, Z7, Zc, Zd, Z6, Z3, Z2, Zf, Zi, Nat.reduceAdd, Zh])); first | exact Sl.old (by assumption) _ | exact sl_nilints | exact sl_nilitems | (refine sl_ints (Z4 _) ?_; exact rfl) | (refine sl_items (Z4 _) ?_; exact rfl) | (refine sl_ints0 (Z4 _) ?_; exact rfl) | (refine sl_items0 (Z4 _) ?_; exact rfl))
           · first | assumption | exact Sl.old (by assumption) _ | ((try (simp only [deskV, deskL, Z11, Z12, Z1y, Z1h, Za, Z9, Z7, Zc, Zd, Z6, Z3, Z2, Zf, Zi, Nat.reduceAdd, Zh])); first | exact Sl.old (by assumption) _ | exact sl_nilints | exact sl_nilitems | (refine sl_ints (Z4 _) ?_; exact rfl) | (refine sl_items (Z4 _) ?_; exact rfl) | (refine sl_ints0 (Z4 _) ?_; exact rfl) | (refine sl_items0 (Z4 _) ?_; exact rfl))
           · first | omega | (simp only [Z2]; omega)
           · first | omega | (simp only [Z2]; omega)
           · (intro i q; have hz := hvb i q; simp only [Z6, Z3, Z2]; omega)
           )
        | ((with_reducible refine Z2w (n := 128) ?_); rintro _ _ ⟨rfl, hh⟩; replace hh := hh.symm; subst hh)
        | ((with_reducible refine Z2w (n := 129) ?_); rintro _ _ ⟨rfl, hh⟩; replace hh := hh.symm; subst hh)
        | ((with_reducible refine Z2w (n := 130) ?_); rintro _ _ ⟨rfl, hh⟩; replace hh := hh.symm; subst hh)
        )
      refine stepV_keep (k1 := 3) (k2 := 4) ?_ ?_ (by decide) <;> exact rfl
end Go.Proofs.Ytiddnhhjlipebaa.Am
