/- Walks of the form of a desk's act, in the program and in the reference. Conditions: none. -/
import Derived.Test.YtiddnhhjlipebaaK3
import Derived.Test.YtiddnhhjlipebaaV1
namespace Go.Proofs.Ytiddnhhjlipebaa.Am
open Go Go.Proofs Go.RowKit
set_option linter.unusedVariables false
set_option linter.unusedSimpArgs false
set_option maxRecDepth 100000
set_option maxHeartbeats 8000000

structure DAct where
  kind : Int
  item : Int
  who : Int
  dst : Int
  cas : Int
  task : Int
  role : Int
  many : Int
deriving DecidableEq
def DAct.cells (x : DAct) : List Value := [.int .i64 x.kind, .int .i64 x.item, .int .i64 x.who, .int .i64 x.dst, .int .i64 x.cas, .int .i64 x.task, .int .i64 x.role, .int .i64 x.many]
def DAct.zero : DAct := ⟨0, 0, 0, 0, 0, 0, 0, 0⟩
theorem DAct.cells_length (x : DAct) : x.cells.length = 8 := rfl
theorem DAct.cells_flat (x : DAct) : x.cells.all flat = true := rfl
theorem DAct.cells_take (x : DAct) : x.cells.take 8 = x.cells := rfl
theorem DAct.cells_splice (x : DAct) (q0 q1 q2 q3 q4 q5 q6 q7 : Value) : splice [q0, q1, q2, q3, q4, q5, q6, q7] 0 x.cells = x.cells := rfl
theorem DAct.cells_splice2 (x y : DAct) : splice x.cells 0 y.cells = y.cells := rfl
theorem DAct.get0 (x : DAct) : x.cells[0]? = some (.int .i64 x.kind) := rfl
theorem DAct.get1 (x : DAct) : x.cells[1]? = some (.int .i64 x.item) := rfl
theorem DAct.get2 (x : DAct) : x.cells[2]? = some (.int .i64 x.who) := rfl
theorem DAct.get3 (x : DAct) : x.cells[3]? = some (.int .i64 x.dst) := rfl
theorem DAct.get4 (x : DAct) : x.cells[4]? = some (.int .i64 x.cas) := rfl
theorem DAct.get5 (x : DAct) : x.cells[5]? = some (.int .i64 x.task) := rfl
theorem DAct.get6 (x : DAct) : x.cells[6]? = some (.int .i64 x.role) := rfl
theorem DAct.get7 (x : DAct) : x.cells[7]? = some (.int .i64 x.many) := rfl
theorem DAct.af (x : DAct) : Am.af (.agg x.cells.toArray) = true := by simp [Am.af, af1, DAct.cells]
theorem DAct.plain (x : DAct) : x.cells.length = 8 ∧ ∀ u ∈ x.cells, Am.af u = true ∧ flat u = true := by
  refine ⟨rfl, fun u hu => ?_⟩
  simp only [DAct.cells, List.mem_cons, Z38, or_false] at hu
  rcases hu with rfl | rfl | rfl | rfl | rfl | rfl | rfl | rfl <;> exact ⟨rfl, rfl⟩
theorem DAct.rv (n : Nat) (L : Heap) (ks : List Nat) (x : DAct) : RV n L ks (.agg x.cells.toArray) (.agg x.cells.toArray) :=
  RVl.agg (l := x.cells) (l' := x.cells) ⟨.plain _ rfl, .plain _ rfl, .plain _ rfl, .plain _ rfl, .plain _ rfl, .plain _ rfl, .plain _ rfl, .plain _ rfl, trivial⟩
theorem DAct.fields (a b : DAct) : ∃ fs, Program.underlying Try.prog 80 = some (.struct fs) ∧ pureRun Try.prog (Op.eqFields (9998 + 1) a.cells.toArray b.cells.toArray fs.toList) =
    some ((a.kind == b.kind) && ((a.item == b.item) && ((a.who == b.who) && ((a.dst == b.dst) && ((a.cas == b.cas) && ((a.task == b.task) && ((a.role == b.role) && ((a.many == b.many) && true)))))))) := by
  have i3 : pureRun Try.prog (isAgg 3) = some false := by kernel_rfl
  refine ⟨_, Try.underlying80, ?_⟩
  refine pr_field (by decide) (pr_part i3 _ _ rfl) (pr_part i3 _ _ rfl) (pr_int Try.underlying3 _ _ _) ?_
  refine pr_field (by decide) (pr_part i3 _ _ rfl) (pr_part i3 _ _ rfl) (pr_int Try.underlying3 _ _ _) ?_
  refine pr_field (by decide) (pr_part i3 _ _ rfl) (pr_part i3 _ _ rfl) (pr_int Try.underlying3 _ _ _) ?_
  refine pr_field (by decide) (pr_part i3 _ _ rfl) (pr_part i3 _ _ rfl) (pr_int Try.underlying3 _ _ _) ?_
  refine pr_field (by decide) (pr_part i3 _ _ rfl) (pr_part i3 _ _ rfl) (pr_int Try.underlying3 _ _ _) ?_
  refine pr_field (by decide) (pr_part i3 _ _ rfl) (pr_part i3 _ _ rfl) (pr_int Try.underlying3 _ _ _) ?_
  refine pr_field (by decide) (pr_part i3 _ _ rfl) (pr_part i3 _ _ rfl) (pr_int Try.underlying3 _ _ _) ?_
  refine pr_field (by decide) (pr_part i3 _ _ rfl) (pr_part i3 _ _ rfl) (pr_int Try.underlying3 _ _ _) ?_
  rfl
theorem DAct.beq (a b : DAct) : ((a.kind == b.kind) && ((a.item == b.item) && ((a.who == b.who) && ((a.dst == b.dst) && ((a.cas == b.cas) && ((a.task == b.task) && ((a.role == b.role) && ((a.many == b.many) && true)))))))) = decide (a = b) := by
  rw [Bool.eq_iff_iff]
  obtain ⟨a0, a1, a2, a3, a4, a5, a6, a7⟩ := a
  obtain ⟨b0, b1, b2, b3, b4, b5, b6, b7⟩ := b
  simp
theorem DAct.cmp (a b : DAct) (xo yo : Operand) : binV Try.prog .eql 80 xo yo (.agg a.cells.toArray) (.agg b.cells.toArray) = some (.bool (decide (a = b))) ∧
    binV Try.prog .neq 80 xo yo (.agg a.cells.toArray) (.agg b.cells.toArray) = some (.bool (!decide (a = b))) := by
  obtain ⟨fs, hu, hf⟩ := DAct.fields a b
  rw [DAct.beq] at hf
  exact agg_cmp hu (by kernel_rfl) (by kernel_rfl) (by simp [DAct.cells, af1]) hf
theorem DAct.eql (a b : DAct) (xo yo : Operand) : binV Try.prog .eql 80 xo yo (.agg a.cells.toArray) (.agg b.cells.toArray) = some (.bool (decide (a = b))) := (DAct.cmp a b xo yo).1
theorem DAct.neq (a b : DAct) (xo yo : Operand) : binV Try.prog .neq 80 xo yo (.agg a.cells.toArray) (.agg b.cells.toArray) = some (.bool (!decide (a = b))) := (DAct.cmp a b xo yo).2
theorem DAct.eqlX (a0 b0 : Int) (a1 b1 : Int) (a2 b2 : Int) (a3 b3 : Int) (a4 b4 : Int) (a5 b5 : Int) (a6 b6 : Int) (a7 b7 : Int) (xo yo : Operand) : binV Try.prog .eql 80 xo yo (.agg #[.int .i64 a0, .int .i64 a1, .int .i64 a2, .int .i64 a3, .int .i64 a4, .int .i64 a5, .int .i64 a6, .int .i64 a7]) (.agg #[.int .i64 b0, .int .i64 b1, .int .i64 b2, .int .i64 b3, .int .i64 b4, .int .i64 b5, .int .i64 b6, .int .i64 b7]) = some (.bool (decide (a0 = b0 ∧ a1 = b1 ∧ a2 = b2 ∧ a3 = b3 ∧ a4 = b4 ∧ a5 = b5 ∧ a6 = b6 ∧ a7 = b7))) := by
  have := DAct.eql ⟨a0, a1, a2, a3, a4, a5, a6, a7⟩ ⟨b0, b1, b2, b3, b4, b5, b6, b7⟩ xo yo
  rw [show decide ((⟨a0, a1, a2, a3, a4, a5, a6, a7⟩ : DAct) = ⟨b0, b1, b2, b3, b4, b5, b6, b7⟩) = decide (a0 = b0 ∧ a1 = b1 ∧ a2 = b2 ∧ a3 = b3 ∧ a4 = b4 ∧ a5 = b5 ∧ a6 = b6 ∧ a7 = b7) by simp] at this
  exact this
theorem DAct.neqX (a0 b0 : Int) (a1 b1 : Int) (a2 b2 : Int) (a3 b3 : Int) (a4 b4 : Int) (a5 b5 : Int) (a6 b6 : Int) (a7 b7 : Int) (xo yo : Operand) : binV Try.prog .neq 80 xo yo (.agg #[.int .i64 a0, .int .i64 a1, .int .i64 a2, .int .i64 a3, .int .i64 a4, .int .i64 a5, .int .i64 a6, .int .i64 a7]) (.agg #[.int .i64 b0, .int .i64 b1, .int .i64 b2, .int .i64 b3, .int .i64 b4, .int .i64 b5, .int .i64 b6, .int .i64 b7]) = some (.bool (!decide (a0 = b0 ∧ a1 = b1 ∧ a2 = b2 ∧ a3 = b3 ∧ a4 = b4 ∧ a5 = b5 ∧ a6 = b6 ∧ a7 = b7))) := by
  have := DAct.neq ⟨a0, a1, a2, a3, a4, a5, a6, a7⟩ ⟨b0, b1, b2, b3, b4, b5, b6, b7⟩ xo yo
  rw [show decide ((⟨a0, a1, a2, a3, a4, a5, a6, a7⟩ : DAct) = ⟨b0, b1, b2, b3, b4, b5, b6, b7⟩) = decide (a0 = b0 ∧ a1 = b1 ∧ a2 = b2 ∧ a3 = b3 ∧ a4 = b4 ∧ a5 = b5 ∧ a6 = b6 ∧ a7 = b7) by simp] at this
  exact this
def DAct.wf (x : DAct) : Prop := (Lit.int .i64 x.kind).wf = true ∧ (Lit.int .i64 x.item).wf = true ∧ (Lit.int .i64 x.who).wf = true ∧ (Lit.int .i64 x.dst).wf = true ∧ (Lit.int .i64 x.cas).wf = true ∧ (Lit.int .i64 x.task).wf = true ∧ (Lit.int .i64 x.role).wf = true ∧ (Lit.int .i64 x.many).wf = true
theorem open_DAct {H : Type} {enc : TypeId × Value → H} {W : World} {base : Nat} {v : Value} {d : DataW H} {ps : List MemPlace} {spare : Nat → Bool}
    (hval : Value.okWide Try.prog W .any base 85 v) (ht : DataW.Trod enc Try.prog W 0 spare true 85 v d ps) : ∃ x : DAct, v = .agg x.cells.toArray ∧ x.wf := by
  obtain ⟨cs, rfl, hl, n, hf⟩ := open_parts Try.underlying85 hval ht
  rw [show Try.prog.cellsOf 85 = 8 by kernel_rfl] at hl
  obtain ⟨x0, x1, x2, x3, x4, x5, x6, x7, rfl⟩ := len8 hl
  obtain ⟨a0, e0, w0⟩ := part_int Try.underlying3 (by kernel_rfl) (hf 0 _ rfl)
  obtain rfl := Option.some.inj e0
  obtain ⟨a1, e1, w1⟩ := part_int Try.underlying3 (by kernel_rfl) (hf 1 _ rfl)
  obtain rfl := Option.some.inj e1
  obtain ⟨a2, e2, w2⟩ := part_int Try.underlying3 (by kernel_rfl) (hf 2 _ rfl)
  obtain rfl := Option.some.inj e2
  obtain ⟨a3, e3, w3⟩ := part_int Try.underlying3 (by kernel_rfl) (hf 3 _ rfl)
  obtain rfl := Option.some.inj e3
  obtain ⟨a4, e4, w4⟩ := part_int Try.underlying3 (by kernel_rfl) (hf 4 _ rfl)
  obtain rfl := Option.some.inj e4
  obtain ⟨a5, e5, w5⟩ := part_int Try.underlying3 (by kernel_rfl) (hf 5 _ rfl)
  obtain rfl := Option.some.inj e5
  obtain ⟨a6, e6, w6⟩ := part_int Try.underlying3 (by kernel_rfl) (hf 6 _ rfl)
  obtain rfl := Option.some.inj e6
  obtain ⟨a7, e7, w7⟩ := part_int Try.underlying3 (by kernel_rfl) (hf 7 _ rfl)
  obtain rfl := Option.some.inj e7
  exact ⟨⟨a0, a1, a2, a3, a4, a5, a6, a7⟩, rfl, ⟨w0, w1, w2, w3, w4, w5, w6, w7⟩⟩
theorem el_DAct {H : Type} {enc : TypeId × Value → H} {w : World} {spare : Nat → Bool} {held : Bool} (fuel : Nat) (cs : List Value) (y : DataW H × List MemPlace)
    (h : DataW.trod enc Try.prog w 0 spare held fuel 85 cs = some y) : ∃ z : DAct, cs = z.cells ∧ z.wf := by
  obtain ⟨h1, n, h2⟩ := trod_struct Try.underlying85 h
  rw [show Try.prog.cellsOf 85 = 8 by kernel_rfl] at h1
  obtain ⟨x0, x1, x2, x3, x4, x5, x6, x7, rfl⟩ := len8 h1
  obtain ⟨a0, e0, w0⟩ := part_int Try.underlying3 (by kernel_rfl) (h2 _ (List.mem_of_getElem? (i := 0) rfl))
  obtain rfl := Option.some.inj e0
  obtain ⟨a1, e1, w1⟩ := part_int Try.underlying3 (by kernel_rfl) (h2 _ (List.mem_of_getElem? (i := 1) rfl))
  obtain rfl := Option.some.inj e1
  obtain ⟨a2, e2, w2⟩ := part_int Try.underlying3 (by kernel_rfl) (h2 _ (List.mem_of_getElem? (i := 2) rfl))
  obtain rfl := Option.some.inj e2
  obtain ⟨a3, e3, w3⟩ := part_int Try.underlying3 (by kernel_rfl) (h2 _ (List.mem_of_getElem? (i := 3) rfl))
  obtain rfl := Option.some.inj e3
  obtain ⟨a4, e4, w4⟩ := part_int Try.underlying3 (by kernel_rfl) (h2 _ (List.mem_of_getElem? (i := 4) rfl))
  obtain rfl := Option.some.inj e4
  obtain ⟨a5, e5, w5⟩ := part_int Try.underlying3 (by kernel_rfl) (h2 _ (List.mem_of_getElem? (i := 5) rfl))
  obtain rfl := Option.some.inj e5
  obtain ⟨a6, e6, w6⟩ := part_int Try.underlying3 (by kernel_rfl) (h2 _ (List.mem_of_getElem? (i := 6) rfl))
  obtain rfl := Option.some.inj e6
  obtain ⟨a7, e7, w7⟩ := part_int Try.underlying3 (by kernel_rfl) (h2 _ (List.mem_of_getElem? (i := 7) rfl))
  obtain rfl := Option.some.inj e7
  exact ⟨⟨a0, a1, a2, a3, a4, a5, a6, a7⟩, rfl, ⟨w0, w1, w2, w3, w4, w5, w6, w7⟩⟩

/-- The form of an act. -/
def formM (a : DAct) : Bool :=
  if a.kind = 1 then decide (a.item = 0 ∧ a.who = 0 ∧ a.dst = 0 ∧ a.many = 0) && decide ((0 ≤ a.cas ∧ a.cas ≤ 9) ∧ (0 ≤ a.task ∧ a.task ≤ 5) ∧ (0 ≤ a.role ∧ a.role ≤ 3))
  else if a.kind = 2 ∨ a.kind = 3 ∨ a.kind = 4 ∨ a.kind = 5 then decide (a.dst = 0 ∧ a.cas = 0 ∧ a.task = 0 ∧ a.role = 0 ∧ a.many = 0)
  else if a.kind = 6 then decide (a.cas = 0 ∧ a.task = 0 ∧ a.role = 0 ∧ a.many = 0)
  else if a.kind = 7 then decide (a.who = 0 ∧ a.dst = 0 ∧ a.cas = 0 ∧ a.task = 0 ∧ a.role = 0 ∧ a.many = 0)
  else if a.kind = 8 then decide (a.item = 0 ∧ a.who = 0 ∧ a.dst = 0 ∧ a.cas = 0 ∧ a.task = 0 ∧ a.role = 0) && decide (1 ≤ a.many ∧ a.many ≤ 100)
  else false

theorem isDeskAct_ok (a : DAct) (h : Heap) : ACalls Try.prog 0 125 #[.agg a.cells.toArray] h fun v h' => v = .bool (formM a) ∧ h' = h := by
  refine acalls_pure (.inl rfl) ?_
  obtain ⟨kind, item, who, dst, cas, task, role, many⟩ := a
  simp only [DAct.cells]
  refine Z36 Try.func125 rfl Try.ntmps125 (by simp) (by dsimp only [Try.f125]) ?_
  repeat' (first
    | ((with_reducible refine eq_go ?_); simp only [stp, ev, Zb, Z2e, Z1z, Zk, Zl, reduceIte, Nat.reduceEqDiff, Zj, Zz, Zu, Z16, Z1a, Zm, Zp, Zo, Zd, Zx, Z2b, Z2x, Z1g, Z17, Zq, Zn, Zv, Z2p, Z2f, Z2o, Z2d, Z2g, Z1c, Z1b, Z2i, Z2n, Z2h, Z2j, Z2k, Z2l, Z2m, Z31, Z8, Z5, Z13, Zy, bld, fillL, vcs, splice, Ze, Z1, Z0, Z35, ldv, stv, vcs, fldA, blt, lenV, Z10, Z3, Z2, Zf, Zg, Ze, Z1, Z0, Z14, Zw, Zh, Zr, Z33, Z15, Z7, Zc, Z6, Z3, Z2, Zf, Zi, Nat.reduceAdd, Nat.reduceMul, Nat.reduceLeDiff, Z11, Z12, Z1y, Z1h, Z2c, Z23, Z28, Z27, Z26, Z25, Z24, Z1m, Z1l, Z1k, Z1j, Z1i, Z1w, Z1v, Z1u, Z1t, Z1s, Z32, Z2y, Z2q, Z2r, Z2s, Z20, Z1q, Z1r, Z2z, Z2t, Z21, Z22, splice, Za, Z9, Z1, Z0, Z19, Zt, Zs, Z18, newB, vcs, Z30, Z2v, Z1x, Z29, Z1n, Z2u, Z1o, Z1f, Z1p, Z1d, Z1e, Ty.ld3, Ty.sz3, Ty.zc3, Ty.by3, Ty.ld80, Ty.sz80, Ty.zc80, Ty.by80, Ty.pl80, Ty.fl80_0, Ty.fl80_1, Ty.fl80_2, Ty.fl80_3, Ty.fl80_4, Ty.fl80_5, Ty.fl80_6, Ty.fl80_7, DAct.eqlX, *]; rfl)
    | (with_reducible refine aw_then ?_) | (with_reducible refine aw_skip ?_) | (with_reducible refine aw_ret ?_) | (with_reducible refine aw_exit ?_) | (with_reducible refine aw_block ?_) | (with_reducible refine xr_reg (by decide +kernel) ?_)
    | (with_reducible refine xr_nil ?_) | (with_reducible refine k_norm ?_) | (with_reducible refine k_ret ?_) | (with_reducible refine k_exit ?_) | (with_reducible refine b_norm ?_) | (with_reducible refine b_ret ?_) | (with_reducible refine b_exit ?_) | (with_reducible refine b_past (by decide) ?_)
    | (refine xr_cl (f := ?_) (fs := ?_) (cs := ?_) (args := ?_) (K := ?_) ?_ ?_ ?_ ?_ ?_
       rotate_left 5
       · simp only [ev]; rfl
       first
       | (· with_reducible exact Ty.ok98
          rotate_left 2
          refine Z2a 98 ?_
          rotate_right 2)
       | (· with_reducible exact Ty.ok135
          rotate_left 2
          refine Z2a 135 ?_
          rotate_right 2)
       )
    | (refine xr_gcl (f := ?_) (fs := ?_) (cs := ?_) (args := ?_) (K := ?_) (by exact rfl) ?_ ?_ ?_ ?_ ?_ ?_
       rotate_left 5
       · simp only [ev, Zb, reduceIte, Nat.reduceEqDiff, Z8, Z5, *]
       · simp only [ev]; rfl
       first
       | (· with_reducible exact Ty.ok98
          rotate_left 2
          refine Z2a 98 ?_
          rotate_right 2)
       | (· with_reducible exact Ty.ok135
          rotate_left 2
          refine Z2a 135 ?_
          rotate_right 2)
       )
    | (refine xr_do (v := ?_) (h' := ?_) (by exact rfl) ?_ ?_; rotate_left 2)
    | (refine xr_st (v := ?_) (h' := ?_) (by exact rfl) ?_ ?_; rotate_left 2)
    | (refine xr_gdo (v := ?_) (h' := ?_) (by exact rfl) (by exact rfl) ?_ ?_ ?_
       rotate_left 2
       · simp only [ev, Zb, reduceIte, Nat.reduceEqDiff, Z8, Z5, *])
    | (refine xr_gst (v := ?_) (h' := ?_) (by exact rfl) (by exact rfl) ?_ ?_ ?_
       rotate_left 2
       · simp only [ev, Zb, reduceIte, Nat.reduceEqDiff, Z8, Z5, *])
    | (refine xr_goff (by exact rfl) ?_ ?_
       · simp only [ev, Zb, reduceIte, Nat.reduceEqDiff, Z8, Z5, *])
    | (refine xr_gsoff (by exact rfl) ?_ ?_
       · simp only [ev, Zb, reduceIte, Nat.reduceEqDiff, Z8, Z5, *])
    | (refine xr_gund (by exact rfl) ?_ ?_
       · simp only [ev, Zb, reduceIte, Nat.reduceEqDiff, Z8, Z5, *])
    | (refine xr_gsund (by exact rfl) ?_ ?_
       · simp only [ev, Zb, reduceIte, Nat.reduceEqDiff, Z8, Z5, *])
    | (refine xr_gif (b := ?_) (by exact rfl) ?_ (fun hb => ?_) (fun hb => ?_)
       rotate_left 1
       · simp only [ev, Zb, reduceIte, Nat.reduceEqDiff, Z8, Z5, *]; rfl)
    | (refine aw_ift (by decide) ?_ ?_
       · simp only [ev, Zb, reduceIte, Nat.reduceEqDiff, *])
    | (refine aw_iff (by decide) ?_ ?_
       · simp only [ev, Zb, reduceIte, Nat.reduceEqDiff, *])
    | (refine aw_if (b := ?_) (by decide) ?_ (fun hb => ?_) (fun hb => ?_)
       rotate_left 1
       · simp only [ev, Zb, reduceIte, Nat.reduceEqDiff, *]; rfl)
    | (refine r_ret (vs := ?_) ?_ ?_
       rotate_left 1
       · simp only [resV, ev, Zb, reduceIte, Nat.reduceEqDiff, Zj, *]; rfl)
    | (with_reducible exact within_ok _ _ _ _)
    | (with_reducible exact isOffer_ok _ _ _ _)
    | ((with_reducible refine Z2w (n := 98) ?_); rintro _ _ ⟨rfl, hh⟩; replace hh := hh.symm; subst hh)
    | ((with_reducible refine Z2w (n := 135) ?_); rintro _ _ ⟨rfl, hh⟩; replace hh := hh.symm; subst hh)
    )
  all_goals refine ⟨?_, _, rfl⟩
  all_goals simp only [oneOf, formM]
  all_goals congr 1
  all_goals simp only [decide_eq_true_eq, decide_eq_false_iff_not] at *
  all_goals simp_all

theorem l16Named_x (c t r s w u : Int) (h : Heap) : ACalls Try.prog 0 118 #[.agg #[.int .i64 c, .int .i64 t, .int .i64 r, .int .i64 s, .int .i64 w, .int .i64 u]] h fun v h' => v = .bool (decide ((0 ≤ c ∧ c ≤ 9) ∧ (0 ≤ t ∧ t ≤ 5) ∧ (0 ≤ r ∧ r ≤ 3))) ∧ h' = h :=
  l16Named_ok ⟨c, t, r, s, w, u⟩ h
theorem l16Form_ok (a : DAct) (h : Heap) : ACalls Try.prog 0 128 #[.agg a.cells.toArray] h fun v h' => v = .bool (formM a) ∧ h' = h := by
  refine acalls_pure (.inl rfl) ?_
  obtain ⟨kind, item, who, dst, cas, task, role, many⟩ := a
  simp only [DAct.cells]
  refine Z36 Try.func128 rfl Try.ntmps128 (by simp) (by dsimp only [Try.f128]) ?_
  repeat' (first
    | ((with_reducible refine eq_go ?_); simp only [stp, ev, Zb, Z2e, Z1z, Zk, Zl, reduceIte, Nat.reduceEqDiff, Zj, Zz, Zu, Z16, Z1a, Zm, Zp, Zo, Zd, Zx, Z2b, Z2x, Z1g, Z17, Zq, Zn, Zv, Z2p, Z2f, Z2o, Z2d, Z2g, Z1c, Z1b, Z2i, Z2n, Z2h, Z2j, Z2k, Z2l, Z2m, Z31, Z8, Z5, Z13, Zy, bld, fillL, vcs, splice, Ze, Z1, Z0, Z35, ldv, stv, vcs, fldA, blt, lenV, Z10, Z3, Z2, Zf, Zg, Ze, Z1, Z0, Z14, Zw, Zh, Zr, Z33, Z15, Z7, Zc, Z6, Z3, Z2, Zf, Zi, Nat.reduceAdd, Nat.reduceMul, Nat.reduceLeDiff, Z11, Z12, Z1y, Z1h, Z2c, Z23, Z28, Z27, Z26, Z25, Z24, Z1m, Z1l, Z1k, Z1j, Z1i, Z1w, Z1v, Z1u, Z1t, Z1s, Z32, Z2y, Z2q, Z2r, Z2s, Z20, Z1q, Z1r, Z2z, Z2t, Z21, Z22, splice, Za, Z9, Z1, Z0, Z19, Zt, Zs, Z18, newB, vcs, Z30, Z2v, Z1x, Z29, Z1n, Z2u, Z1o, Z1f, Z1p, Z1d, Z1e, Ty.ld3, Ty.sz3, Ty.zc3, Ty.by3, Ty.ld77, Ty.sz77, Ty.zc77, Ty.by77, Ty.pl77, Ty.fl77_0, Ty.fl77_1, Ty.fl77_2, Ty.fl77_3, Ty.fl77_4, Ty.fl77_5, Ty.ld80, Ty.sz80, Ty.zc80, Ty.by80, Ty.pl80, Ty.fl80_0, Ty.fl80_1, Ty.fl80_2, Ty.fl80_3, Ty.fl80_4, Ty.fl80_5, Ty.fl80_6, Ty.fl80_7, DAct.eqlX, *]; rfl)
    | (with_reducible refine aw_then ?_) | (with_reducible refine aw_skip ?_) | (with_reducible refine aw_ret ?_) | (with_reducible refine aw_exit ?_) | (with_reducible refine aw_block ?_) | (with_reducible refine xr_reg (by decide +kernel) ?_)
    | (with_reducible refine xr_nil ?_) | (with_reducible refine k_norm ?_) | (with_reducible refine k_ret ?_) | (with_reducible refine k_exit ?_) | (with_reducible refine b_norm ?_) | (with_reducible refine b_ret ?_) | (with_reducible refine b_exit ?_) | (with_reducible refine b_past (by decide) ?_)
    | (refine xr_cl (f := ?_) (fs := ?_) (cs := ?_) (args := ?_) (K := ?_) ?_ ?_ ?_ ?_ ?_
       rotate_left 5
       · simp only [ev]; rfl
       first
       | (· with_reducible exact Ty.ok84
          rotate_left 2
          refine Z2a 84 ?_
          rotate_right 2)
       | (· with_reducible exact Ty.ok118
          rotate_left 2
          refine Z2a 118 ?_
          rotate_right 2)
       )
    | (refine xr_gcl (f := ?_) (fs := ?_) (cs := ?_) (args := ?_) (K := ?_) (by exact rfl) ?_ ?_ ?_ ?_ ?_ ?_
       rotate_left 5
       · simp only [ev, Zb, reduceIte, Nat.reduceEqDiff, Z8, Z5, *]
       · simp only [ev]; rfl
       first
       | (· with_reducible exact Ty.ok84
          rotate_left 2
          refine Z2a 84 ?_
          rotate_right 2)
       | (· with_reducible exact Ty.ok118
          rotate_left 2
          refine Z2a 118 ?_
          rotate_right 2)
       )
    | (refine xr_do (v := ?_) (h' := ?_) (by exact rfl) ?_ ?_; rotate_left 2)
    | (refine xr_st (v := ?_) (h' := ?_) (by exact rfl) ?_ ?_; rotate_left 2)
    | (refine xr_gdo (v := ?_) (h' := ?_) (by exact rfl) (by exact rfl) ?_ ?_ ?_
       rotate_left 2
       · simp only [ev, Zb, reduceIte, Nat.reduceEqDiff, Z8, Z5, *])
    | (refine xr_gst (v := ?_) (h' := ?_) (by exact rfl) (by exact rfl) ?_ ?_ ?_
       rotate_left 2
       · simp only [ev, Zb, reduceIte, Nat.reduceEqDiff, Z8, Z5, *])
    | (refine xr_goff (by exact rfl) ?_ ?_
       · simp only [ev, Zb, reduceIte, Nat.reduceEqDiff, Z8, Z5, *])
    | (refine xr_gsoff (by exact rfl) ?_ ?_
       · simp only [ev, Zb, reduceIte, Nat.reduceEqDiff, Z8, Z5, *])
    | (refine xr_gund (by exact rfl) ?_ ?_
       · simp only [ev, Zb, reduceIte, Nat.reduceEqDiff, Z8, Z5, *])
    | (refine xr_gsund (by exact rfl) ?_ ?_
       · simp only [ev, Zb, reduceIte, Nat.reduceEqDiff, Z8, Z5, *])
    | (refine xr_gif (b := ?_) (by exact rfl) ?_ (fun hb => ?_) (fun hb => ?_)
       rotate_left 1
       · simp only [ev, Zb, reduceIte, Nat.reduceEqDiff, Z8, Z5, *]; rfl)
    | (refine aw_ift (by decide) ?_ ?_
       · simp only [ev, Zb, reduceIte, Nat.reduceEqDiff, *])
    | (refine aw_iff (by decide) ?_ ?_
       · simp only [ev, Zb, reduceIte, Nat.reduceEqDiff, *])
    | (refine aw_if (b := ?_) (by decide) ?_ (fun hb => ?_) (fun hb => ?_)
       rotate_left 1
       · simp only [ev, Zb, reduceIte, Nat.reduceEqDiff, *]; rfl)
    | (refine r_ret (vs := ?_) ?_ ?_
       rotate_left 1
       · simp only [resV, ev, Zb, reduceIte, Nat.reduceEqDiff, Zj, *]; rfl)
    | (with_reducible exact l1In_ok _ _ _ _)
    | (with_reducible exact l16Named_x _ _ _ _ _ _ _)
    | ((with_reducible refine Z2w (n := 84) ?_); rintro _ _ ⟨rfl, hh⟩; replace hh := hh.symm; subst hh)
    | ((with_reducible refine Z2w (n := 118) ?_); rintro _ _ ⟨rfl, hh⟩; replace hh := hh.symm; subst hh)
    )
  all_goals refine ⟨?_, _, rfl⟩
  all_goals simp only [oneOf, formM]
  all_goals congr 1
  all_goals simp only [decide_eq_true_eq, decide_eq_false_iff_not] at *
  all_goals simp_all

/-- The state that an act asks of an item. -/
def stateM (kind state : Int) : Bool := if kind = 2 then decide (state = 1) else if kind = 4 then decide (state = 3) else if kind = 7 then decide (1 ≤ state ∧ state ≤ 3) else decide (state = 2)

theorem requiredState_ok (x : Item) (k : Int) (h : Heap) : ACalls Try.prog 0 136 #[.agg x.cells.toArray, .int .i64 k] h fun v h' => v = .bool (stateM k x.state) ∧ h' = h := by
  refine acalls_pure (.inl rfl) ?_
  obtain ⟨cas, task, role, state, who, till⟩ := x
  simp only [Item.cells]
  refine Z36 Try.func136 rfl Try.ntmps136 (by simp) (by dsimp only [Try.f136]) ?_
  repeat' (first
    | ((with_reducible refine eq_go ?_); simp only [stp, ev, Zb, Z2e, Z1z, Zk, Zl, reduceIte, Nat.reduceEqDiff, Zj, Zz, Zu, Z16, Z1a, Zm, Zp, Zo, Zd, Zx, Z2b, Z2x, Z1g, Z17, Zq, Zn, Zv, Z2p, Z2f, Z2o, Z2d, Z2g, Z1c, Z1b, Z2i, Z2n, Z2h, Z2j, Z2k, Z2l, Z2m, Z31, Z8, Z5, Z13, Zy, ldv, fldA, blt, lenV, Z10, Z3, Z2, Zf, Zg, Ze, Z1, Z0, Z14, Zw, Zh, Zr, Z33, Z15, Z7, Zc, Z6, Z3, Z2, Zf, Zi, Nat.reduceAdd, Nat.reduceMul, Nat.reduceLeDiff, Z11, Z12, Z1y, Z1h, Z2c, Z23, Z28, Z27, Z26, Z25, Z24, Z1m, Z1l, Z1k, Z1j, Z1i, Z1w, Z1v, Z1u, Z1t, Z1s, Z32, Z2y, Z2q, Z2r, Z2s, Z20, Z1q, Z1r, Z2z, Z2t, Z21, Z22, splice, Za, Z9, Z1, Z0, Z19, Zt, Zs, Z18, newB, vcs, Z30, Z2v, Z1x, Z29, Z1n, Z2u, Z1o, Z1f, Z1p, Z1d, Z1e, Ty.ld3, Ty.sz3, Ty.zc3, Ty.by3, Ty.ld77, Ty.sz77, Ty.zc77, Ty.by77, Ty.fl77_0, Ty.fl77_1, Ty.fl77_2, Ty.fl77_3, Ty.fl77_4, Ty.fl77_5, *]; rfl)
    | (with_reducible refine aw_then ?_) | (with_reducible refine aw_skip ?_) | (with_reducible refine aw_ret ?_) | (with_reducible refine aw_exit ?_) | (with_reducible refine aw_block ?_) | (with_reducible refine xr_reg (by decide +kernel) ?_)
    | (with_reducible refine xr_nil ?_) | (with_reducible refine k_norm ?_) | (with_reducible refine k_ret ?_) | (with_reducible refine k_exit ?_) | (with_reducible refine b_norm ?_) | (with_reducible refine b_ret ?_) | (with_reducible refine b_exit ?_) | (with_reducible refine b_past (by decide) ?_)
    | (refine xr_cl (f := ?_) (fs := ?_) (cs := ?_) (args := ?_) (K := ?_) ?_ ?_ ?_ ?_ ?_
       rotate_left 5
       · simp only [ev]; rfl
       first
       | (· with_reducible exact Ty.ok98
          rotate_left 2
          refine Z2a 98 ?_
          rotate_right 2)
       )
    | (refine xr_do (v := ?_) (h' := ?_) (by exact rfl) ?_ ?_; rotate_left 2)
    | (refine xr_st (v := ?_) (h' := ?_) (by exact rfl) ?_ ?_; rotate_left 2)
    | (refine aw_ift (by decide) ?_ ?_
       · simp only [ev, Zb, reduceIte, Nat.reduceEqDiff, *])
    | (refine aw_iff (by decide) ?_ ?_
       · simp only [ev, Zb, reduceIte, Nat.reduceEqDiff, *])
    | (refine aw_if (b := ?_) (by decide) ?_ (fun hb => ?_) (fun hb => ?_)
       rotate_left 1
       · simp only [ev, Zb, reduceIte, Nat.reduceEqDiff, *]; rfl)
    | (refine r_ret (vs := ?_) ?_ ?_
       rotate_left 1
       · simp only [resV, ev, Zb, reduceIte, Nat.reduceEqDiff, Zj, *]; rfl)
    | (with_reducible exact within_ok _ _ _ _)
    | ((with_reducible refine Z2w (n := 98) ?_); rintro _ _ ⟨rfl, hh⟩; replace hh := hh.symm; subst hh)
    )
  all_goals refine ⟨?_, _, rfl⟩
  all_goals simp only [oneOf, stateM]
  all_goals congr 1
  all_goals simp only [decide_eq_true_eq, decide_eq_false_iff_not] at *
  all_goals simp_all
theorem requiredState_x (c t r s w u k : Int) (h : Heap) : ACalls Try.prog 0 136 #[.agg #[.int .i64 c, .int .i64 t, .int .i64 r, .int .i64 s, .int .i64 w, .int .i64 u], .int .i64 k] h fun v h' => v = .bool (stateM k s) ∧ h' = h :=
  requiredState_ok ⟨c, t, r, s, w, u⟩ k h

theorem l16State_ok (k s : Int) (h : Heap) (hk : 2 ≤ k ∧ k ≤ 7) : ACalls Try.prog 0 137 #[.int .i64 k, .int .i64 s] h fun v h' => v = .bool (stateM k s) ∧ h' = h := by
  refine Z36 Try.func137 rfl Try.ntmps137 (by simp) (by dsimp only [Try.f137]) ?_
  repeat' (first
    | ((with_reducible refine eq_go ?_); simp only [stp, ev, Zb, Z2e, Z1z, Zk, Zl, reduceIte, Nat.reduceEqDiff, Zj, Zz, Zu, Z16, Z1a, Zm, Zp, Zo, Zd, Zx, Z2b, Z2x, Z1g, Z17, Zq, Zn, Zv, Z2p, Z2f, Z2o, Z2d, Z2g, Z1c, Z1b, Z2i, Z2n, Z2h, Z2j, Z2k, Z2l, Z2m, Z31, Z8, Z5, Z13, Zy, *]; rfl)
    | (with_reducible refine aw_then ?_) | (with_reducible refine aw_skip ?_) | (with_reducible refine aw_ret ?_) | (with_reducible refine aw_exit ?_) | (with_reducible refine aw_block ?_) | (with_reducible refine xr_reg (by decide +kernel) ?_)
    | (with_reducible refine xr_nil ?_) | (with_reducible refine k_norm ?_) | (with_reducible refine k_ret ?_) | (with_reducible refine k_exit ?_) | (with_reducible refine b_norm ?_) | (with_reducible refine b_ret ?_) | (with_reducible refine b_exit ?_) | (with_reducible refine b_past (by decide) ?_)
    | (refine xr_do (v := ?_) (h' := ?_) (by exact rfl) ?_ ?_; rotate_left 2)
    | (refine xr_st (v := ?_) (h' := ?_) (by exact rfl) ?_ ?_; rotate_left 2)
    | (refine xr_gdo (v := ?_) (h' := ?_) (by exact rfl) (by exact rfl) ?_ ?_ ?_
       rotate_left 2
       · simp only [ev, Zb, reduceIte, Nat.reduceEqDiff, Z8, Z5, *])
    | (refine xr_gst (v := ?_) (h' := ?_) (by exact rfl) (by exact rfl) ?_ ?_ ?_
       rotate_left 2
       · simp only [ev, Zb, reduceIte, Nat.reduceEqDiff, Z8, Z5, *])
    | (refine xr_goff (by exact rfl) ?_ ?_
       · simp only [ev, Zb, reduceIte, Nat.reduceEqDiff, Z8, Z5, *])
    | (refine xr_gsoff (by exact rfl) ?_ ?_
       · simp only [ev, Zb, reduceIte, Nat.reduceEqDiff, Z8, Z5, *])
    | (refine xr_gund (by exact rfl) ?_ ?_
       · simp only [ev, Zb, reduceIte, Nat.reduceEqDiff, Z8, Z5, *])
    | (refine xr_gsund (by exact rfl) ?_ ?_
       · simp only [ev, Zb, reduceIte, Nat.reduceEqDiff, Z8, Z5, *])
    | (refine xr_gif (b := ?_) (by exact rfl) ?_ (fun hb => ?_) (fun hb => ?_)
       rotate_left 1
       · simp only [ev, Zb, reduceIte, Nat.reduceEqDiff, Z8, Z5, *]; rfl)
    | (refine aw_ift (by decide) ?_ ?_
       · simp only [ev, Zb, reduceIte, Nat.reduceEqDiff, *])
    | (refine aw_iff (by decide) ?_ ?_
       · simp only [ev, Zb, reduceIte, Nat.reduceEqDiff, *])
    | (refine aw_if (b := ?_) (by decide) ?_ (fun hb => ?_) (fun hb => ?_)
       rotate_left 1
       · simp only [ev, Zb, reduceIte, Nat.reduceEqDiff, *]; rfl)
    | (refine r_ret (vs := ?_) ?_ ?_
       rotate_left 1
       · simp only [resV, ev, Zb, reduceIte, Nat.reduceEqDiff, Zj, *]; rfl)
    )
  all_goals refine ⟨?_, rfl⟩
  all_goals simp only [oneOf, stateM]
  all_goals congr 1
  all_goals simp only [decide_eq_true_eq, decide_eq_false_iff_not] at *
  all_goals first | (simp_all; done) | (exfalso; omega) | skip
  all_goals obtain rfl : k = 7 := by omega
  all_goals first | (simp_all; done) | (simp only [show ¬ (7 : Int) = 2 by decide, show ¬ (7 : Int) = 4 by decide, if_false, Z2x]; rw [decide_eq_decide]; omega)
end Go.Proofs.Ytiddnhhjlipebaa.Am
