/- Walks of the reading of a draw: the next number, a number below a bound. Conditions: none. -/
import Derived.Test.YtiddnhhjlipebaaK3
import Derived.Test.YtiddnhhjlipebaaV1
namespace Go.Proofs.Ytiddnhhjlipebaa.Am
open Go Go.Proofs
set_option linter.unusedVariables false
set_option linter.unusedSimpArgs false
set_option maxRecDepth 100000
set_option maxHeartbeats 8000000
/-- A cursor in a draw. -/
structure Cur where
  v : Value
  code : List Int
  pos : Nat
  seed : Int
def Cur.blk (c : Cur) : Blk := ⟨2, 1, [c.v, .int .i64 c.pos, .int .u64 c.seed]⟩
def bytesR (l : List Int) : List (List Value) := l.map fun n => [.int .u8 n]
def Cur.byte (c : Cur) : Int := if c.pos < c.code.length then c.code.getD c.pos 0 else 0
def Cur.sd (c : Cur) : Int := IntKind.u64.wrap (IntKind.u64.wrap (IntKind.u64.wrap (c.seed * 6364136223846793005) + c.byte) + 1442695040888963407)
def Cur.nx (c : Cur) : Cur := ⟨c.v, c.code, c.pos + 1, c.sd⟩
def Cur.get (c : Cur) : Int := if c.pos < c.code.length then c.byte else bits .and .u64 (c.sd.fdiv (2 ^ min (40 : Int).toNat IntKind.u64.bits)) 255
def Cur.ok (c : Cur) : Prop := c.pos ≤ 1000000000000 ∧ c.code.length ≤ 9223372036854775807 ∧ (∀ x ∈ c.code, 0 ≤ x ∧ x ≤ 255) ∧ 0 ≤ c.seed ∧ c.seed ≤ 18446744073709551615
def CurAt (h : Heap) (id : Nat) (c : Cur) : Prop := h[id]? = some c.blk ∧ Sl h c.v 1 (bytesR c.code) ∧ bid c.v ≠ some id ∧ c.ok
theorem Cur.byte_range {c : Cur} (h : c.ok) : 0 ≤ c.byte ∧ c.byte ≤ 255 := by
  unfold Cur.byte
  split
  · rename_i q
    rw [List.getD_eq_getElem?_getD, List.getElem?_eq_getElem q]
    exact h.2.2.1 _ (List.getElem_mem _)
  · omega
theorem u64_range (n : Int) : 0 ≤ IntKind.u64.wrap n ∧ IntKind.u64.wrap n ≤ 18446744073709551615 := by
  simp only [IntKind.wrap, IntKind.signed, IntKind.bits]; simp; omega
theorem and255 (a : Int) : 0 ≤ bits .and .u64 a 255 ∧ bits .and .u64 a 255 ≤ 255 := by
  have h : (BitVec.ofInt 64 a &&& BitVec.ofInt 64 255).toNat ≤ 255 := by
    rw [BitVec.toNat_and]; exact Nat.le_trans Nat.and_le_right (by decide)
  have e : bits .and .u64 a 255 = IntKind.u64.wrap ((BitVec.ofInt 64 a &&& BitVec.ofInt 64 255).toNat : Int) := rfl
  rw [e, wrap_u64_id (by omega)]; omega
theorem Cur.get_range {c : Cur} (h : c.ok) : 0 ≤ c.get ∧ c.get ≤ 255 := by
  unfold Cur.get
  split
  · exact Cur.byte_range h
  · exact and255 _
theorem Cur.nx_ok {c : Cur} (h : c.ok) (hp : c.pos < 1000000000000) : c.nx.ok := ⟨by simp only [Cur.nx]; omega, h.2.1, h.2.2.1, (u64_range _).1, (u64_range _).2⟩
theorem binV_shr40 {P : Program} {t : TypeId} {xo yo : Operand} (a : Int) : binV P .shr t xo yo (.int .u64 a) (.int .u64 40) = some (.int .u64 (a.fdiv (2 ^ min (40 : Int).toNat IntKind.u64.bits))) := binV_shr _ _ _ _ _ _ _ (by decide)
/-- The same, with the cursor's block in sight. -/
theorem next_at (c : Cur) (h L : Heap) (hs : Sl (h ++ c.blk :: L) c.v 1 (bytesR c.code)) (hc : c.ok) :
    ACalls Try.prog 0 116 #[.pointer (some ⟨h.length, 0, none⟩)] (h ++ c.blk :: L) fun v h' => v = .int .i64 c.get ∧ h' = h ++ c.nx.blk :: L := by
  have hbr := Cur.byte_range hc
  have hsd : c.sd = IntKind.u64.wrap (IntKind.u64.wrap (IntKind.u64.wrap (c.seed * 6364136223846793005) + c.byte) + 1442695040888963407) := rfl
  have hsr := u64_range (IntKind.u64.wrap (IntKind.u64.wrap (c.seed * 6364136223846793005) + c.byte) + 1442695040888963407)
  rw [← hsd] at hsr
  obtain ⟨hc1, hc2, hc3, hc4, hc5⟩ := hc
  have hf := hs.flat
  obtain ⟨vv, code, pos, seed⟩ := c
  simp only [Cur.blk, Cur.nx] at *
  generalize hsq : Cur.sd ⟨vv, code, pos, seed⟩ = sd at *
  obtain ⟨b, cp, hve, hcp, hrow⟩ := hs
  simp only [bytesR, Zv] at hve hcp hrow
  subst hve
  have hwp : IntKind.i64.wrap ((pos : Int) + 1) = ((pos + 1 : Nat) : Int) := by rw [wrap_id (by omega)]; omega
  rcases Nat.lt_or_ge pos code.length with hlt | hge
  · have h1 : (pos : Int) < code.length := by omega
    have h2 : ((pos + 1 : Nat) : Int) ≤ code.length := by omega
    obtain ⟨a, rfl, hld⟩ := hrow pos [.int .u8 code[pos]] (by rw [List.getElem?_map, List.getElem?_eq_getElem hlt]; rfl)
    have hg := getC_of_load hld
    have hby : Cur.byte ⟨.slice (some a) code.length cp, code, pos, seed⟩ = code[pos] := by simp [Cur.byte, hlt, List.getElem?_eq_getElem hlt]
    have hget : Cur.get ⟨.slice (some a) code.length cp, code, pos, seed⟩ = code[pos] := by simp only [Cur.get, if_pos hlt, hby]
    rw [hby] at hsd hbr
    rw [hget]
    have hwa : IntKind.i64.wrap code[pos] = code[pos] := wrap_id (by omega)
    have hwb : IntKind.u64.wrap code[pos] = code[pos] := wrap_u64_id (by omega)
    refine Z36 Try.func116 rfl Try.ntmps116 (by simp) (by dsimp only [Try.f116]) ?_
    repeat' (first | ((with_reducible refine eq_go ?_); simp only [stp, ev, ZB, reduceIte, Nat.reduceEqDiff, Z2x, Z13, Zy, ldv, stv, vcs, conV, fldA, idxA, blt, lenV, Z10, ZH, Zg, Ze, Z14, Zw, Z33, Nat.reduceAdd, Nat.reduceMul, Nat.reduceLeDiff, splice, newB, Ty.t3, Ty.un3, Ty.t5, Ty.un5, Ty.t37, Ty.un37, Ty.t104, Ty.un104, Ty.t106, Ty.un106, *]; rfl) | (with_reducible first | refine aw_then ?_ | refine aw_skip ?_ | refine aw_ret ?_ | refine aw_exit ?_ | refine aw_block ?_ | refine xr_reg (by decide +kernel) ?_ | refine xr_nil ?_ | refine k_norm ?_ | refine k_ret ?_ | refine k_exit ?_ | refine b_norm ?_ | refine b_ret ?_ | refine b_exit ?_ | refine b_past (by decide) ?_ | refine xd_nil ?_) | (refine xr_do (v := ?_) (h' := ?_) (by exact rfl) ?_ ?_; rotate_left 2) | (refine xr_st (v := ?_) (h' := ?_) (by exact rfl) ?_ ?_; rotate_left 2) | refine xd_reg (ms := [0, 1, 3, 7, 0, 16, 48, 112, 240, 511]) Ty.mx (by decide +kernel) (by decide +kernel) ?_ | refine xd_reg (ms := [0, 1, 3, 7, 0, 16, 48, 112, 255, 511, 1023, 2047]) Ty.mx (by decide +kernel) (by decide +kernel) ?_ | (refine xd_do (v := ?_) (by exact rfl) (by decide +kernel) ?_ ?_; rotate_left 1) | (refine aw_c (b := ?_) (by decide) ?_ ?_; rotate_left 1; (· simp only [ev, Zb, reduceIte, Nat.reduceEqDiff, *]; rfl)) | (with_reducible first | refine cw_t ?_ | refine cw_f ?_) | refine cw_if (fun hb => ?_) (fun hb => ?_) | (refine r_ret (vs := ?_) ?_ ?_; rotate_left 1; (· simp only [resV, ev, Zb, reduceIte, Nat.reduceEqDiff, Zj, *]; rfl)))
    exact ⟨rfl, by rw [hsd]⟩
  · have h1 : ¬ (pos : Int) < code.length := by omega
    have h2 : ¬ ((pos + 1 : Nat) : Int) ≤ code.length := by omega
    have hby : Cur.byte ⟨.slice b code.length cp, code, pos, seed⟩ = 0 := by simp only [Cur.byte, if_neg (show ¬ pos < code.length by omega)]
    have hget : Cur.get ⟨.slice b code.length cp, code, pos, seed⟩ = bits .and .u64 (sd.fdiv (2 ^ min (40 : Int).toNat IntKind.u64.bits)) 255 := by
      rw [← hsq]; simp only [Cur.get, if_neg (show ¬ pos < code.length by omega)]
    rw [hby] at hsd
    have hr := and255 (sd.fdiv (2 ^ min (40 : Int).toNat IntKind.u64.bits))
    rw [hget]
    have hwb : IntKind.u64.wrap 0 = 0 := wrap_u64_id (by omega)
    have hsd2 := hsd.symm
    clear hsd
    generalize hX : bits .and .u64 (sd.fdiv (2 ^ min (40 : Int).toNat IntKind.u64.bits)) 255 = X at hr ⊢
    have hwa : IntKind.i64.wrap X = X := wrap_id (by omega)
    refine Z36 Try.func116 rfl Try.ntmps116 (by simp) (by dsimp only [Try.f116]) ?_
    repeat' (first | ((with_reducible refine eq_go ?_); simp only [stp, ev, ZB, reduceIte, Nat.reduceEqDiff, Z2x, Z13, Zy, ldv, stv, vcs, conV, fldA, idxA, blt, lenV, Z10, ZH, Zg, Ze, Z14, Zw, Z33, Nat.reduceAdd, Nat.reduceMul, Nat.reduceLeDiff, splice, newB, Ty.t3, Ty.un3, Ty.t5, Ty.un5, Ty.t37, Ty.un37, Ty.t104, Ty.un104, Ty.t106, Ty.un106, binV_shr40, *]; rfl) | (with_reducible first | refine aw_then ?_ | refine aw_skip ?_ | refine aw_ret ?_ | refine aw_exit ?_ | refine aw_block ?_ | refine xr_reg (by decide +kernel) ?_ | refine xr_nil ?_ | refine k_norm ?_ | refine k_ret ?_ | refine k_exit ?_ | refine b_norm ?_ | refine b_ret ?_ | refine b_exit ?_ | refine b_past (by decide) ?_ | refine xd_nil ?_) | (refine xr_do (v := ?_) (h' := ?_) (by exact rfl) ?_ ?_; rotate_left 2) | (refine xr_st (v := ?_) (h' := ?_) (by exact rfl) ?_ ?_; rotate_left 2) | refine xd_reg (ms := [0, 1, 3, 7, 0, 16, 48, 112, 240, 511]) Ty.mx (by decide +kernel) (by decide +kernel) ?_ | refine xd_reg (ms := [0, 1, 3, 7, 0, 16, 48, 112, 255, 511, 1023, 2047]) Ty.mx (by decide +kernel) (by decide +kernel) ?_ | (refine xd_do (v := ?_) (by exact rfl) (by decide +kernel) ?_ ?_; rotate_left 1) | (refine aw_c (b := ?_) (by decide) ?_ ?_; rotate_left 1; (· simp only [ev, Zb, reduceIte, Nat.reduceEqDiff, *]; rfl)) | (with_reducible first | refine cw_t ?_ | refine cw_f ?_) | refine cw_if (fun hb => ?_) (fun hb => ?_) | (refine r_ret (vs := ?_) ?_ ?_; rotate_left 1; (· simp only [resV, ev, Zb, reduceIte, Nat.reduceEqDiff, Zj, *]; rfl)))
    exact ⟨rfl, rfl⟩
theorem Sl.set_ne {h : Heap} {v : Value} {e id : Nat} {rows : List (List Value)} (hs : Sl h v e rows) (hne : bid v ≠ some id) (b : Blk) : Sl (h.set id b) v e rows := by
  obtain ⟨bb, c, rfl, hc, hrow⟩ := hs
  refine ⟨bb, c, rfl, hc, fun i r hr => ?_⟩
  obtain ⟨a, rfl, hl⟩ := hrow i r hr
  refine ⟨a, rfl, ?_⟩
  have : id ≠ a.block := fun q => hne (by simp [bid, q])
  unfold loadCs at hl ⊢
  rw [List.getElem?_set_ne this]; exact hl
theorem next_ok (c : Cur) (id : Nat) (h : Heap) (hc : CurAt h id c) : ACalls Try.prog 0 116 #[.pointer (some ⟨id, 0, none⟩)] h fun v h' => v = .int .i64 c.get ∧ h' = h.set id c.nx.blk := by
  obtain ⟨hb, hs, hne, hok⟩ := hc
  have hlt := lt_of_get hb
  have e : h = h.take id ++ c.blk :: h.drop (id + 1) := by
    have := (List.getElem?_eq_some_iff.1 hb).2
    rw [← this, ← List.drop_eq_getElem_cons hlt, List.take_append_drop]
  have hl : (h.take id).length = id := by simp; omega
  have := next_at c (h.take id) (h.drop (id + 1)) (by rw [← e]; exact hs) hok
  rw [hl, ← e] at this
  refine this.mono fun v h' q => ⟨q.1, q.2.trans ?_⟩
  conv => rhs; rw [e]
  rw [List.set_append_right _ _ (by omega), hl, Nat.sub_self]; rfl
theorem CurAt.nx {h : Heap} {id : Nat} {c : Cur} (hc : CurAt h id c) (hp : c.pos < 1000000000000) : CurAt (h.set id c.nx.blk) id c.nx :=
  ⟨by rw [List.getElem?_set_self (lt_of_get hc.1)], hc.2.1.set_ne hc.2.2.1 _, hc.2.2.1, Cur.nx_ok hc.2.2.2 hp⟩
/-- A number below n. -/
def Cur.pick (c : Cur) (n : Int) : Int × Cur :=
  if n ≤ 1 then (0, c) else if 200 < n then ((c.get * 256 + c.nx.get).tmod n, c.nx.nx) else (c.get.tmod n, c.nx)
theorem pick_ok (c : Cur) (n : Int) (id : Nat) (h : Heap) (hc : CurAt h id c) (hp : c.pos + 1 < 1000000000000) :
    ACalls Try.prog 0 81 #[.pointer (some ⟨id, 0, none⟩), .int .i64 n] h fun v h' => v = .int .i64 (c.pick n).1 ∧ h' = h.set id (c.pick n).2.blk := by
  have hself : h.set id c.blk = h := set_self hc.1
  have hc1 := hc.nx (by omega)
  have hg0 := Cur.get_range hc.2.2.2
  have hg1 := Cur.get_range hc1.2.2.2
  have hw1 : IntKind.i64.wrap (c.get * 256) = c.get * 256 := wrap_id (by omega)
  have hw2 : IntKind.i64.wrap (c.get * 256 + c.nx.get) = c.get * 256 + c.nx.get := wrap_id (by omega)
  unfold Cur.pick
  by_cases h1 : n ≤ 1
  · simp only [if_pos h1, hself]
    refine Z36 Try.func81 rfl Try.ntmps81 (by simp) (by dsimp only [Try.f81]) ?_
    repeat' (first | ((with_reducible refine eq_go ?_); simp only [stp, ev, ZB, reduceIte, Nat.reduceEqDiff, Z2x, Z13, Zy, blt, lenV, Z10, Z3, Z2, Zf, Zg, Ze, Z1, Z0, Z14, Zw, Ty.t3, Ty.t5, Ty.t37, Ty.t103, Ty.t104, Ty.t106, *]; rfl) | (with_reducible first | refine aw_then ?_ | refine aw_skip ?_ | refine aw_ret ?_ | refine aw_exit ?_ | refine aw_block ?_ | refine xr_reg (by decide +kernel) ?_ | refine xr_nil ?_ | refine k_norm ?_ | refine k_ret ?_ | refine k_exit ?_ | refine b_norm ?_ | refine b_ret ?_ | refine b_exit ?_ | refine b_past (by decide) ?_) | (refine Ty.c116 (args := ?_) (K := ?_) ?_ ?_ ?_; rotate_left 2) | (refine xr_do (v := ?_) (h' := ?_) (by exact rfl) ?_ ?_; rotate_left 2) | (refine xr_st (v := ?_) (h' := ?_) (by exact rfl) ?_ ?_; rotate_left 2) | (refine aw_c (b := ?_) (by decide) ?_ ?_; rotate_left 1; (· simp only [ev, Zb, reduceIte, Nat.reduceEqDiff, *]; rfl)) | (with_reducible first | refine cw_t ?_ | refine cw_f ?_) | refine cw_if (fun hb => ?_) (fun hb => ?_) | (refine r_ret (vs := ?_) ?_ ?_; rotate_left 1; (· simp only [resV, ev, Zb, reduceIte, Nat.reduceEqDiff, Zj, *]; rfl)) | ((with_reducible refine next_ok ?_ _ _ ?_); rotate_left 1; (· assumption)) | ((with_reducible refine Z2w ?_); rintro _ _ ⟨rfl, hh⟩; replace hh := hh.symm; subst hh))
    exact ⟨rfl, rfl⟩
  · have hn0 : n ≠ 0 := by omega
    have hrem : ∀ {P : Program} (t : TypeId) (xo yo : Operand) (a : Int), binV P .rem t xo yo (.int .i64 a) (.int .i64 n) = some (.int .i64 (a.tmod n)) := fun t xo yo a => binV_rem _ _ _ _ _ _ hn0
    by_cases h2 : 200 < n
    · simp only [if_neg h1, if_pos h2]
      refine Z36 Try.func81 rfl Try.ntmps81 (by simp) (by dsimp only [Try.f81]) ?_
      repeat' (first | ((with_reducible refine eq_go ?_); simp only [stp, ev, ZB, reduceIte, Nat.reduceEqDiff, Z2x, Z13, Zy, blt, lenV, Z10, Z3, Z2, Zf, Zg, Ze, Z1, Z0, Z14, Zw, Ty.t3, Ty.t5, Ty.t37, Ty.t103, Ty.t104, Ty.t106, *]; rfl) | (with_reducible first | refine aw_then ?_ | refine aw_skip ?_ | refine aw_ret ?_ | refine aw_exit ?_ | refine aw_block ?_ | refine xr_reg (by decide +kernel) ?_ | refine xr_nil ?_ | refine k_norm ?_ | refine k_ret ?_ | refine k_exit ?_ | refine b_norm ?_ | refine b_ret ?_ | refine b_exit ?_ | refine b_past (by decide) ?_) | (refine Ty.c116 (args := ?_) (K := ?_) ?_ ?_ ?_; rotate_left 2) | (refine xr_do (v := ?_) (h' := ?_) (by exact rfl) ?_ ?_; rotate_left 2) | (refine xr_st (v := ?_) (h' := ?_) (by exact rfl) ?_ ?_; rotate_left 2) | (refine aw_c (b := ?_) (by decide) ?_ ?_; rotate_left 1; (· simp only [ev, Zb, reduceIte, Nat.reduceEqDiff, *]; rfl)) | (with_reducible first | refine cw_t ?_ | refine cw_f ?_) | refine cw_if (fun hb => ?_) (fun hb => ?_) | (refine r_ret (vs := ?_) ?_ ?_; rotate_left 1; (· simp only [resV, ev, Zb, reduceIte, Nat.reduceEqDiff, Zj, *]; rfl)) | ((with_reducible refine next_ok ?_ _ _ ?_); rotate_left 1; (· assumption)) | ((with_reducible refine Z2w ?_); rintro _ _ ⟨rfl, hh⟩; replace hh := hh.symm; subst hh))
      exact ⟨rfl, by rw [List.set_set]⟩
    · simp only [if_neg h1, if_neg h2]
      refine Z36 Try.func81 rfl Try.ntmps81 (by simp) (by dsimp only [Try.f81]) ?_
      repeat' (first | ((with_reducible refine eq_go ?_); simp only [stp, ev, ZB, reduceIte, Nat.reduceEqDiff, Z2x, Z13, Zy, blt, lenV, Z10, Z3, Z2, Zf, Zg, Ze, Z1, Z0, Z14, Zw, Ty.t3, Ty.t5, Ty.t37, Ty.t103, Ty.t104, Ty.t106, *]; rfl) | (with_reducible first | refine aw_then ?_ | refine aw_skip ?_ | refine aw_ret ?_ | refine aw_exit ?_ | refine aw_block ?_ | refine xr_reg (by decide +kernel) ?_ | refine xr_nil ?_ | refine k_norm ?_ | refine k_ret ?_ | refine k_exit ?_ | refine b_norm ?_ | refine b_ret ?_ | refine b_exit ?_ | refine b_past (by decide) ?_) | (refine Ty.c116 (args := ?_) (K := ?_) ?_ ?_ ?_; rotate_left 2) | (refine xr_do (v := ?_) (h' := ?_) (by exact rfl) ?_ ?_; rotate_left 2) | (refine xr_st (v := ?_) (h' := ?_) (by exact rfl) ?_ ?_; rotate_left 2) | (refine aw_c (b := ?_) (by decide) ?_ ?_; rotate_left 1; (· simp only [ev, Zb, reduceIte, Nat.reduceEqDiff, *]; rfl)) | (with_reducible first | refine cw_t ?_ | refine cw_f ?_) | refine cw_if (fun hb => ?_) (fun hb => ?_) | (refine r_ret (vs := ?_) ?_ ?_; rotate_left 1; (· simp only [resV, ev, Zb, reduceIte, Nat.reduceEqDiff, Zj, *]; rfl)) | ((with_reducible refine next_ok ?_ _ _ ?_); rotate_left 1; (· assumption)) | ((with_reducible refine Z2w ?_); rintro _ _ ⟨rfl, hh⟩; replace hh := hh.symm; subst hh))
      exact ⟨rfl, rfl⟩
theorem Cur.pick_v (c : Cur) (n : Int) : (c.pick n).2.v = c.v ∧ (c.pick n).2.code = c.code := by
  unfold Cur.pick
  split
  · exact ⟨rfl, rfl⟩
  · split <;> exact ⟨rfl, rfl⟩
theorem Cur.pick_pos (c : Cur) (n : Int) : (c.pick n).2.pos ≤ c.pos + 2 := by
  unfold Cur.pick
  split
  · simp only; omega
  · split <;> simp only [Cur.nx] <;> omega
theorem Cur.pick_ok {c : Cur} (h : c.ok) (hp : c.pos + 1 < 1000000000000) (n : Int) : (c.pick n).2.ok := by
  unfold Cur.pick
  split
  · exact h
  · split
    · exact Cur.nx_ok (Cur.nx_ok h (by omega)) (by simp only [Cur.nx]; omega)
    · exact Cur.nx_ok h (by omega)
theorem Cur.pick_range {c : Cur} (h : c.ok) (hp : c.pos + 1 < 1000000000000) (n : Int) : 0 ≤ (c.pick n).1 ∧ ((c.pick n).1 = 0 ∨ (c.pick n).1 < n) := by
  have h1 := Cur.get_range h
  have h2 := Cur.get_range (Cur.nx_ok h (by omega))
  unfold Cur.pick
  split
  · exact ⟨Int.le_refl _, .inl rfl⟩
  · rename_i q
    split
    · exact ⟨Int.tmod_nonneg _ (by omega), .inr (Int.tmod_lt_of_pos _ (by omega))⟩
    · exact ⟨Int.tmod_nonneg _ (by omega), .inr (Int.tmod_lt_of_pos _ (by omega))⟩
theorem Cur.pick_v1 (c : Cur) (n : Int) : (c.pick n).2.v = c.v := (Cur.pick_v c n).1
theorem Cur.pick_v2 (c : Cur) (n : Int) : (c.pick n).2.code = c.code := (Cur.pick_v c n).2
/-- A cursor that has read at most k numbers. -/
def Cur.bud (c : Cur) (k : Nat) : Prop := c.ok ∧ c.pos ≤ k
theorem Cur.pick_bud {c : Cur} {k : Nat} (h : c.bud k) (hk : k < 100000000000) (n : Int) : (c.pick n).2.bud (k + 2) :=
  ⟨Cur.pick_ok h.1 (by have := h.2; omega) n, Nat.le_trans (Cur.pick_pos c n) (by have := h.2; omega)⟩
/-- A cursor stands where its block is written anew. -/
theorem CurAt.set {h : Heap} {id : Nat} {c c' : Cur} (hc : CurAt h id c) (hv : c'.v = c.v) (hcd : c'.code = c.code) (hok : c'.ok) : CurAt (h.set id c'.blk) id c' :=
  ⟨by rw [List.getElem?_set_self (lt_of_get hc.1)], by rw [hv, hcd]; exact hc.2.1.set_ne hc.2.2.1 _, by rw [hv]; exact hc.2.2.1, hok⟩
theorem CurAt.old {h : Heap} {id : Nat} {c : Cur} (hc : CurAt h id c) (L : Heap) : CurAt (h ++ L) id c := ⟨get_old hc.1, hc.2.1.old L, hc.2.2⟩
/-- A cursor of which the block is in sight, its text in the memory ahead. -/
theorem CurAt.at {h L : Heap} {c : Cur} (hs : Sl h c.v 1 (bytesR c.code)) (hne : bid c.v ≠ some h.length) (hok : c.ok) : CurAt (h ++ c.blk :: L) h.length c :=
  ⟨by rw [get_at0]; rfl, hs.old _, hne, hok⟩
theorem one_ok (c : Cur) (n : Int) (id : Nat) (h : Heap) (hc : CurAt h id c) (hp : c.pos + 1 < 1000000000000) :
    ACalls Try.prog 0 82 #[.pointer (some ⟨id, 0, none⟩), .int .i64 n] h fun v h' => v = .bool (decide ((c.pick n).1 = 0)) ∧ h' = h.set id (c.pick n).2.blk := by
  refine Z36 Try.func82 rfl Try.ntmps82 (by simp) (by dsimp only [Try.f82]) ?_
  repeat' (first | ((with_reducible refine eq_go ?_); simp only [stp, ev, ZB, reduceIte, Nat.reduceEqDiff, Z2x, Z13, Zy, blt, lenV, Z10, Z3, Z2, Zf, Zg, Ze, Z1, Z0, Z14, Zw, Ty.t3, Ty.t5, Ty.t37, Ty.t103, Ty.t104, Ty.t106, *]; rfl) | (with_reducible first | refine aw_then ?_ | refine aw_skip ?_ | refine aw_ret ?_ | refine aw_exit ?_ | refine aw_block ?_ | refine xr_reg (by decide +kernel) ?_ | refine xr_nil ?_ | refine k_norm ?_ | refine k_ret ?_ | refine k_exit ?_ | refine b_norm ?_ | refine b_ret ?_ | refine b_exit ?_ | refine b_past (by decide) ?_) | (refine Ty.c81 (args := ?_) (K := ?_) ?_ ?_ ?_; rotate_left 2) | (refine xr_do (v := ?_) (h' := ?_) (by exact rfl) ?_ ?_; rotate_left 2) | (refine xr_st (v := ?_) (h' := ?_) (by exact rfl) ?_ ?_; rotate_left 2) | (refine aw_c (b := ?_) (by decide) ?_ ?_; rotate_left 1; (· simp only [ev, Zb, reduceIte, Nat.reduceEqDiff, *]; rfl)) | (with_reducible first | refine cw_t ?_ | refine cw_f ?_) | refine cw_if (fun hb => ?_) (fun hb => ?_) | (refine r_ret (vs := ?_) ?_ ?_; rotate_left 1; (· simp only [resV, ev, Zb, reduceIte, Nat.reduceEqDiff, Zj, *]; rfl)) | ((with_reducible refine pick_ok ?_ _ _ _ ?_ ?_); rotate_left 1; (· assumption); (· first | omega | (simp only [Z2]; omega))) | ((with_reducible refine Z2w ?_); rintro _ _ ⟨rfl, hh⟩; replace hh := hh.symm; subst hh))
  exact ⟨rfl, rfl⟩
theorem among_ok (c : Cur) (l : List Int) (vl : Value) (id : Nat) (h : Heap) (hc : CurAt h id c) (hp : c.pos + 1 < 1000000000000) (hs : Sl h vl 1 (ints l)) (hne : bid vl ≠ some id) (hl : 1 ≤ l.length) (hl2 : l.length ≤ 1000) :
    ACalls Try.prog 0 83 #[.pointer (some ⟨id, 0, none⟩), vl] h fun v h' => v = .int .i64 (l.getD (c.pick l.length).1.toNat 0) ∧ h' = h.set id (c.pick l.length).2.blk := by
  have hr := Cur.pick_range hc.2.2.2 hp l.length
  have hs' := hs.set_ne hne (c.pick l.length).2.blk
  obtain ⟨b, cp, rfl, hcp, hrow⟩ := hs'
  simp only [Zv] at hcp hs hne ⊢
  generalize hq : (c.pick l.length).1 = q at hr ⊢
  obtain ⟨k, rfl⟩ : ∃ k : Nat, q = k := ⟨q.toNat, by omega⟩
  have hk : k < l.length := by omega
  have h1 : (k : Int) < l.length := by omega
  obtain ⟨a, rfl, hld⟩ := Sl.row hrow (k := k) (by simpa using hk)
  rw [List.getElem_map] at hld
  have hg := getC_of_load hld
  rw [Nat.mul_one] at hg
  clear hs hrow
  refine Z36 Try.func83 rfl Try.ntmps83 (by simp) (by dsimp only [Try.f83]) ?_
  repeat' (first | ((with_reducible refine eq_go ?_); simp only [stp, ev, ZB, reduceIte, Nat.reduceEqDiff, Z2x, Z13, Zy, ldv, idxA, blt, lenV, Z10, ZH, Zg, Ze, Z14, Zw, Z33, Nat.reduceAdd, Nat.reduceMul, Nat.reduceLeDiff, splice, newB, vcs, Ty.t3, Ty.t5, Ty.t24, Ty.t37, Ty.t103, Ty.t104, Ty.t106, Nat.mul_one, *]; rfl) | (with_reducible first | refine aw_then ?_ | refine aw_skip ?_ | refine aw_ret ?_ | refine aw_exit ?_ | refine aw_block ?_ | refine xr_reg (by decide +kernel) ?_ | refine xr_nil ?_ | refine k_norm ?_ | refine k_ret ?_ | refine k_exit ?_ | refine b_norm ?_ | refine b_ret ?_ | refine b_exit ?_ | refine b_past (by decide) ?_) | (refine Ty.c81 (args := ?_) (K := ?_) ?_ ?_ ?_; rotate_left 2) | (refine xr_do (v := ?_) (h' := ?_) (by exact rfl) ?_ ?_; rotate_left 2) | (refine xr_st (v := ?_) (h' := ?_) (by exact rfl) ?_ ?_; rotate_left 2) | (refine aw_c (b := ?_) (by decide) ?_ ?_; rotate_left 1; (· simp only [ev, Zb, reduceIte, Nat.reduceEqDiff, *]; rfl)) | (with_reducible first | refine cw_t ?_ | refine cw_f ?_) | refine cw_if (fun hb => ?_) (fun hb => ?_) | (refine r_ret (vs := ?_) ?_ ?_; rotate_left 1; (· simp only [resV, ev, Zb, reduceIte, Nat.reduceEqDiff, Zj, *]; rfl)) | ((with_reducible refine pick_ok ?_ _ _ _ ?_ ?_); rotate_left 1; (· assumption); (· first | omega | (simp only [Z2]; omega))) | ((with_reducible refine Z2w ?_); rintro _ _ ⟨rfl, hh⟩; replace hh := hh.symm; subst hh))
  refine ⟨?_, rfl⟩
  simp only [oneOf, Zq, List.getD_eq_getElem?_getD, List.getElem?_eq_getElem hk, Z14]
end Go.Proofs.Ytiddnhhjlipebaa.Am
namespace Go.Proofs.Ytiddnhhjlipebaa.Am
open Go Go.Proofs
set_option linter.unusedVariables false
set_option linter.unusedSimpArgs false
set_option maxRecDepth 100000
set_option maxHeartbeats 8000000
def peopleOk (people : List Int) : Bool := decide (1 ≤ (people.length : Int) ∧ (people.length : Int) ≤ 6) && people.all (fun n => decide (0 ≤ n ∧ n ≤ 15))
/-- A new desk: its value and the blocks it leaves. -/
def newDeskV (n : Nat) (people : List Int) : Value := .tuple #[.agg #[.int .i64 0, if peopleOk people then .slice (some ⟨n, 0, some 0⟩) people.length people.length else .slice none 0 0, .slice none 0 0], .bool (peopleOk people)]
def newDeskL (people : List Int) : Heap := if peopleOk people then [⟨2, 1, (ints people).flatten⟩] else []
theorem specNewDesk_ok (people : List Int) (a : Addr) (c : Nat) (h : Heap) (hs : Sl h (.slice (some a) people.length c) 1 (ints people)) (hl : people.length ≤ 1048576) :
    ACalls Try.prog 0 46 #[.slice (some a) people.length c] h fun v h' => v = newDeskV h.length people ∧ h' = h ++ newDeskL people := by
  have hdk : (decide (1 ≤ (people.length : Int) ∧ (people.length : Int) ≤ 6) && people.all (fun n => decide (0 ≤ n ∧ n ≤ 15))) = peopleOk people := rfl
  rcases Bool.eq_false_or_eq_true (peopleOk people) with hk | hk
  · rw [newDeskV, newDeskL, hk, if_pos rfl, if_pos rfl]
    refine acalls_canon _ _ ?_
    refine Z36 Try.func46 rfl Try.ntmps46 (by simp) (by dsimp only [Try.f46]) ?_
    repeat' (first | ((with_reducible refine eq_go ?_); simp only [stp, ev, ZB, reduceIte, Nat.reduceEqDiff, Z2x, Z13, Zy, bld, fillL, vcs, splice, Ze, ZH, Z35, ldv, stv, blt, lenV, Z10, Zg, Z14, Zw, Z33, Nat.reduceAdd, Nat.reduceMul, Nat.reduceLeDiff, newB, Ty.t3, Ty.t24, Ty.t56, Ty.t58, Ty.t77, *]; rfl) | (with_reducible first | refine aw_then ?_ | refine aw_skip ?_ | refine aw_ret ?_ | refine aw_exit ?_ | refine aw_block ?_ | refine xr_reg (by decide +kernel) ?_ | refine xr_nil ?_ | refine k_norm ?_ | refine k_ret ?_ | refine k_exit ?_ | refine b_norm ?_ | refine b_ret ?_ | refine b_exit ?_ | refine b_past (by decide) ?_) | (refine Ty.c91 (args := ?_) (K := ?_) ?_ ?_ ?_; rotate_left 2) | (refine Ty.c100 (args := ?_) (K := ?_) ?_ ?_ ?_; rotate_left 2) | (refine xr_do (v := ?_) (h' := ?_) (by exact rfl) ?_ ?_; rotate_left 2) | (refine xr_st (v := ?_) (h' := ?_) (by exact rfl) ?_ ?_; rotate_left 2) | (refine aw_c (b := ?_) (by decide) ?_ ?_; rotate_left 1; (· simp only [ev, Zb, reduceIte, Nat.reduceEqDiff, *]; rfl)) | (with_reducible first | refine cw_t ?_ | refine cw_f ?_) | refine cw_if (fun hb => ?_) (fun hb => ?_) | (refine r_ret (vs := ?_) ?_ ?_; rotate_left 1; (· simp only [resV, oneOf, stp, ev, ZB, reduceIte, Nat.reduceEqDiff, Z2x, Z13, Zy, bld, fillL, vcs, splice, Ze, ZH, Z35, ldv, stv, blt, lenV, Z10, Zg, Z14, Zw, Z33, Nat.reduceAdd, Nat.reduceMul, Nat.reduceLeDiff, newB, Ty.t3, Ty.t24, Ty.t56, Ty.t58, Ty.t77, *]; rfl)) | ((with_reducible refine l16People_ok ?_ _ _ ?_ ?_); rotate_left 1; (· first | assumption | exact Sl.old (by assumption) _); (· first | omega | (simp only [Z2]; omega))) | ((with_reducible refine l1Own_ok _ _ _ _ ?_ ?_); (· first | assumption | exact Sl.old (by assumption) _ | ((try (simp only [deskV, deskL, Z11, Z12, Z1y, Z1h, Za, Z9, Z7, Zc, Zd, Z6, Z3, Z2, Zf, Zi, Nat.reduceAdd, Zh])); first | exact Sl.old (by assumption) _ | exact sl_nilints | exact sl_nilitems | (refine sl_ints (Z4 _) ?_; exact rfl) | (refine sl_items (Z4 _) ?_; exact rfl) | (refine sl_ints0 (Z4 _) ?_; exact rfl) | (refine sl_items0 (Z4 _) ?_; exact rfl))); (· first | omega | (simp only [Z2]; omega))) | ((with_reducible refine Z2w ?_); rintro _ _ ⟨rfl, hh⟩; replace hh := hh.symm; subst hh))
    refine ⟨_, [1], rfl, Inj.one 1, rfl, BsOk.cons rfl (ints_af _) rfl (BsOk.nil _ _), ?_⟩
    exact RVl.tuple (l := [_, _]) (l' := [_, _]) ⟨RVl.agg (l := [_, _, _]) (l' := [_, _, _]) ⟨.plain _ rfl, .sl 0 1 _ _ 1 _ _ rfl rfl (ints_flen _) (Z4 _) (.inr rfl), .plain _ rfl, trivial⟩, .plain _ rfl, trivial⟩
  · rw [newDeskV, newDeskL, hk, if_neg (by simp), if_neg (by simp)]
    refine acalls_canon _ _ ?_
    refine Z36 Try.func46 rfl Try.ntmps46 (by simp) (by dsimp only [Try.f46]) ?_
    repeat' (first | ((with_reducible refine eq_go ?_); simp only [stp, ev, ZB, reduceIte, Nat.reduceEqDiff, Z2x, Z13, Zy, bld, fillL, vcs, splice, Ze, ZH, Z35, ldv, stv, blt, lenV, Z10, Zg, Z14, Zw, Z33, Nat.reduceAdd, Nat.reduceMul, Nat.reduceLeDiff, newB, Ty.t3, Ty.t24, Ty.t56, Ty.t58, Ty.t77, *]; rfl) | (with_reducible first | refine aw_then ?_ | refine aw_skip ?_ | refine aw_ret ?_ | refine aw_exit ?_ | refine aw_block ?_ | refine xr_reg (by decide +kernel) ?_ | refine xr_nil ?_ | refine k_norm ?_ | refine k_ret ?_ | refine k_exit ?_ | refine b_norm ?_ | refine b_ret ?_ | refine b_exit ?_ | refine b_past (by decide) ?_) | (refine Ty.c91 (args := ?_) (K := ?_) ?_ ?_ ?_; rotate_left 2) | (refine Ty.c100 (args := ?_) (K := ?_) ?_ ?_ ?_; rotate_left 2) | (refine xr_do (v := ?_) (h' := ?_) (by exact rfl) ?_ ?_; rotate_left 2) | (refine xr_st (v := ?_) (h' := ?_) (by exact rfl) ?_ ?_; rotate_left 2) | (refine aw_c (b := ?_) (by decide) ?_ ?_; rotate_left 1; (· simp only [ev, Zb, reduceIte, Nat.reduceEqDiff, *]; rfl)) | (with_reducible first | refine cw_t ?_ | refine cw_f ?_) | refine cw_if (fun hb => ?_) (fun hb => ?_) | (refine r_ret (vs := ?_) ?_ ?_; rotate_left 1; (· simp only [resV, oneOf, stp, ev, ZB, reduceIte, Nat.reduceEqDiff, Z2x, Z13, Zy, bld, fillL, vcs, splice, Ze, ZH, Z35, ldv, stv, blt, lenV, Z10, Zg, Z14, Zw, Z33, Nat.reduceAdd, Nat.reduceMul, Nat.reduceLeDiff, newB, Ty.t3, Ty.t24, Ty.t56, Ty.t58, Ty.t77, *]; rfl)) | ((with_reducible refine l16People_ok ?_ _ _ ?_ ?_); rotate_left 1; (· first | assumption | exact Sl.old (by assumption) _); (· first | omega | (simp only [Z2]; omega))) | ((with_reducible refine l1Own_ok _ _ _ _ ?_ ?_); (· first | assumption | exact Sl.old (by assumption) _ | ((try (simp only [deskV, deskL, Z11, Z12, Z1y, Z1h, Za, Z9, Z7, Zc, Zd, Z6, Z3, Z2, Zf, Zi, Nat.reduceAdd, Zh])); first | exact Sl.old (by assumption) _ | exact sl_nilints | exact sl_nilitems | (refine sl_ints (Z4 _) ?_; exact rfl) | (refine sl_items (Z4 _) ?_; exact rfl) | (refine sl_ints0 (Z4 _) ?_; exact rfl) | (refine sl_items0 (Z4 _) ?_; exact rfl))); (· first | omega | (simp only [Z2]; omega))) | ((with_reducible refine Z2w ?_); rintro _ _ ⟨rfl, hh⟩; replace hh := hh.symm; subst hh))
    refine ⟨_, [], rfl, Inj.nil, rfl, BsOk.nil _ _, ?_⟩
    exact RVl.tuple (l := [_, _]) (l' := [_, _]) ⟨RVl.agg (l := [_, _, _]) (l' := [_, _, _]) ⟨.plain _ rfl, .plain _ rfl, .plain _ rfl, trivial⟩, .plain _ rfl, trivial⟩
end Go.Proofs.Ytiddnhhjlipebaa.Am
namespace Go.Proofs.Ytiddnhhjlipebaa.Am
open Go Go.Proofs Go.RowKit
set_option linter.unusedVariables false
set_option linter.unusedSimpArgs false
set_option maxRecDepth 100000
set_option maxHeartbeats 8000000
structure DAct where
  kind : Int
  item : Int
  who : Int
  dst : Int
  cas : Int
  task : Int
  role : Int
  many : Int
deriving DecidableEq
def DAct.cells (x : DAct) : List Value := [.int .i64 x.kind, .int .i64 x.item, .int .i64 x.who, .int .i64 x.dst, .int .i64 x.cas, .int .i64 x.task, .int .i64 x.role, .int .i64 x.many]
def DAct.zero : DAct := ⟨0, 0, 0, 0, 0, 0, 0, 0⟩
theorem DAct.cells_length (x : DAct) : x.cells.length = 8 := rfl
theorem DAct.cells_flat (x : DAct) : x.cells.all flat = true := rfl
theorem DAct.cells_take (x : DAct) : x.cells.take 8 = x.cells := rfl
theorem DAct.cells_splice (x : DAct) (q0 q1 q2 q3 q4 q5 q6 q7 : Value) : splice [q0, q1, q2, q3, q4, q5, q6, q7] 0 x.cells = x.cells := rfl
theorem DAct.get0 (x : DAct) : x.cells[0]? = some (.int .i64 x.kind) := rfl
theorem DAct.get1 (x : DAct) : x.cells[1]? = some (.int .i64 x.item) := rfl
theorem DAct.get2 (x : DAct) : x.cells[2]? = some (.int .i64 x.who) := rfl
theorem DAct.get3 (x : DAct) : x.cells[3]? = some (.int .i64 x.dst) := rfl
theorem DAct.get4 (x : DAct) : x.cells[4]? = some (.int .i64 x.cas) := rfl
theorem DAct.get5 (x : DAct) : x.cells[5]? = some (.int .i64 x.task) := rfl
theorem DAct.get6 (x : DAct) : x.cells[6]? = some (.int .i64 x.role) := rfl
theorem DAct.get7 (x : DAct) : x.cells[7]? = some (.int .i64 x.many) := rfl
theorem DAct.af (x : DAct) : Am.af (.agg x.cells.toArray) = true := by simp [Am.af, af1, DAct.cells]
theorem DAct.plain (x : DAct) : x.cells.length = 8 ∧ ∀ u ∈ x.cells, Am.af u = true ∧ flat u = true := by
  refine ⟨rfl, fun u hu => ?_⟩
  simp only [DAct.cells, List.mem_cons, Z38, or_false] at hu
  rcases hu with rfl | rfl | rfl | rfl | rfl | rfl | rfl | rfl <;> exact ⟨rfl, rfl⟩
theorem DAct.rv (n : Nat) (L : Heap) (ks : List Nat) (x : DAct) : RV n L ks (.agg x.cells.toArray) (.agg x.cells.toArray) :=
  RVl.agg (l := x.cells) (l' := x.cells) ⟨.plain _ rfl, .plain _ rfl, .plain _ rfl, .plain _ rfl, .plain _ rfl, .plain _ rfl, .plain _ rfl, .plain _ rfl, trivial⟩
theorem DAct.fields (a b : DAct) : ∃ fs, Program.underlying Try.prog 80 = some (.struct fs) ∧ pureRun Try.prog (Op.eqFields (9998 + 1) a.cells.toArray b.cells.toArray fs.toList) =
    some ((a.kind == b.kind) && ((a.item == b.item) && ((a.who == b.who) && ((a.dst == b.dst) && ((a.cas == b.cas) && ((a.task == b.task) && ((a.role == b.role) && ((a.many == b.many) && true)))))))) := by
  have i3 : pureRun Try.prog (isAgg 3) = some false := by kernel_rfl
  refine ⟨_, Try.underlying80, ?_⟩
  refine pr_field (by decide) (pr_part i3 _ _ rfl) (pr_part i3 _ _ rfl) (pr_int Try.underlying3 _ _ _) ?_
  refine pr_field (by decide) (pr_part i3 _ _ rfl) (pr_part i3 _ _ rfl) (pr_int Try.underlying3 _ _ _) ?_
  refine pr_field (by decide) (pr_part i3 _ _ rfl) (pr_part i3 _ _ rfl) (pr_int Try.underlying3 _ _ _) ?_
  refine pr_field (by decide) (pr_part i3 _ _ rfl) (pr_part i3 _ _ rfl) (pr_int Try.underlying3 _ _ _) ?_
  refine pr_field (by decide) (pr_part i3 _ _ rfl) (pr_part i3 _ _ rfl) (pr_int Try.underlying3 _ _ _) ?_
  refine pr_field (by decide) (pr_part i3 _ _ rfl) (pr_part i3 _ _ rfl) (pr_int Try.underlying3 _ _ _) ?_
  refine pr_field (by decide) (pr_part i3 _ _ rfl) (pr_part i3 _ _ rfl) (pr_int Try.underlying3 _ _ _) ?_
  refine pr_field (by decide) (pr_part i3 _ _ rfl) (pr_part i3 _ _ rfl) (pr_int Try.underlying3 _ _ _) ?_
  rfl
theorem DAct.beq (a b : DAct) : ((a.kind == b.kind) && ((a.item == b.item) && ((a.who == b.who) && ((a.dst == b.dst) && ((a.cas == b.cas) && ((a.task == b.task) && ((a.role == b.role) && ((a.many == b.many) && true)))))))) = decide (a = b) := by
  rw [Bool.eq_iff_iff]
  obtain ⟨a0, a1, a2, a3, a4, a5, a6, a7⟩ := a
  obtain ⟨b0, b1, b2, b3, b4, b5, b6, b7⟩ := b
  simp
theorem DAct.cmp (a b : DAct) (xo yo : Operand) : binV Try.prog .eql 80 xo yo (.agg a.cells.toArray) (.agg b.cells.toArray) = some (.bool (decide (a = b))) ∧
    binV Try.prog .neq 80 xo yo (.agg a.cells.toArray) (.agg b.cells.toArray) = some (.bool (!decide (a = b))) := by
  obtain ⟨fs, hu, hf⟩ := DAct.fields a b
  rw [DAct.beq] at hf
  exact agg_cmp hu (by kernel_rfl) (by kernel_rfl) (by simp [DAct.cells, af1]) hf
theorem DAct.eql (a b : DAct) (xo yo : Operand) : binV Try.prog .eql 80 xo yo (.agg a.cells.toArray) (.agg b.cells.toArray) = some (.bool (decide (a = b))) := (DAct.cmp a b xo yo).1
theorem DAct.neq (a b : DAct) (xo yo : Operand) : binV Try.prog .neq 80 xo yo (.agg a.cells.toArray) (.agg b.cells.toArray) = some (.bool (!decide (a = b))) := (DAct.cmp a b xo yo).2
theorem DAct.eqlX (a0 b0 : Int) (a1 b1 : Int) (a2 b2 : Int) (a3 b3 : Int) (a4 b4 : Int) (a5 b5 : Int) (a6 b6 : Int) (a7 b7 : Int) (xo yo : Operand) : binV Try.prog .eql 80 xo yo (.agg #[.int .i64 a0, .int .i64 a1, .int .i64 a2, .int .i64 a3, .int .i64 a4, .int .i64 a5, .int .i64 a6, .int .i64 a7]) (.agg #[.int .i64 b0, .int .i64 b1, .int .i64 b2, .int .i64 b3, .int .i64 b4, .int .i64 b5, .int .i64 b6, .int .i64 b7]) = some (.bool (decide (a0 = b0 ∧ a1 = b1 ∧ a2 = b2 ∧ a3 = b3 ∧ a4 = b4 ∧ a5 = b5 ∧ a6 = b6 ∧ a7 = b7))) := by
  have := DAct.eql ⟨a0, a1, a2, a3, a4, a5, a6, a7⟩ ⟨b0, b1, b2, b3, b4, b5, b6, b7⟩ xo yo
  rw [show decide ((⟨a0, a1, a2, a3, a4, a5, a6, a7⟩ : DAct) = ⟨b0, b1, b2, b3, b4, b5, b6, b7⟩) = decide (a0 = b0 ∧ a1 = b1 ∧ a2 = b2 ∧ a3 = b3 ∧ a4 = b4 ∧ a5 = b5 ∧ a6 = b6 ∧ a7 = b7) by simp] at this
  exact this
def DAct.wf (x : DAct) : Prop := (Lit.int .i64 x.kind).wf = true ∧ (Lit.int .i64 x.item).wf = true ∧ (Lit.int .i64 x.who).wf = true ∧ (Lit.int .i64 x.dst).wf = true ∧ (Lit.int .i64 x.cas).wf = true ∧ (Lit.int .i64 x.task).wf = true ∧ (Lit.int .i64 x.role).wf = true ∧ (Lit.int .i64 x.many).wf = true
/-- The form of an act. -/
def formM (a : DAct) : Bool :=
  if a.kind = 1 then decide (a.item = 0 ∧ a.who = 0 ∧ a.dst = 0 ∧ a.many = 0) && decide ((0 ≤ a.cas ∧ a.cas ≤ 9) ∧ (0 ≤ a.task ∧ a.task ≤ 5) ∧ (0 ≤ a.role ∧ a.role ≤ 3))
  else if a.kind = 2 ∨ a.kind = 3 ∨ a.kind = 4 ∨ a.kind = 5 then decide (a.dst = 0 ∧ a.cas = 0 ∧ a.task = 0 ∧ a.role = 0 ∧ a.many = 0)
  else if a.kind = 6 then decide (a.cas = 0 ∧ a.task = 0 ∧ a.role = 0 ∧ a.many = 0)
  else if a.kind = 7 then decide (a.who = 0 ∧ a.dst = 0 ∧ a.cas = 0 ∧ a.task = 0 ∧ a.role = 0 ∧ a.many = 0)
  else if a.kind = 8 then decide (a.item = 0 ∧ a.who = 0 ∧ a.dst = 0 ∧ a.cas = 0 ∧ a.task = 0 ∧ a.role = 0) && decide (1 ≤ a.many ∧ a.many ≤ 100)
  else false
theorem isDeskAct_ok (a : DAct) (h : Heap) : ACalls Try.prog 0 125 #[.agg a.cells.toArray] h fun v h' => v = .bool (formM a) ∧ h' = h := by
  refine acalls_pure (.inl rfl) ?_
  obtain ⟨kind, item, who, dst, cas, task, role, many⟩ := a
  simp only [DAct.cells]
  refine Z36 Try.func125 rfl Try.ntmps125 (by simp) (by dsimp only [Try.f125]) ?_
  repeat' (first | ((with_reducible refine eq_go ?_); simp only [stp, ev, ZB, reduceIte, Nat.reduceEqDiff, Z2x, Z13, Zy, bld, fillL, vcs, splice, Ze, ZH, Z35, ldv, stv, fldA, blt, lenV, Z10, Zg, Z14, Zw, Z33, Nat.reduceAdd, Nat.reduceMul, Nat.reduceLeDiff, newB, Ty.t3, Ty.t80, DAct.eqlX, *]; rfl) | (with_reducible first | refine aw_then ?_ | refine aw_skip ?_ | refine aw_ret ?_ | refine aw_exit ?_ | refine aw_block ?_ | refine xr_reg (by decide +kernel) ?_ | refine xr_nil ?_ | refine k_norm ?_ | refine k_ret ?_ | refine k_exit ?_ | refine b_norm ?_ | refine b_ret ?_ | refine b_exit ?_ | refine b_past (by decide) ?_) | (refine Ty.c98 (args := ?_) (K := ?_) ?_ ?_ ?_; rotate_left 2) | (refine Ty.c135 (args := ?_) (K := ?_) ?_ ?_ ?_; rotate_left 2) | (refine xr_do (v := ?_) (h' := ?_) (by exact rfl) ?_ ?_; rotate_left 2) | (refine xr_st (v := ?_) (h' := ?_) (by exact rfl) ?_ ?_; rotate_left 2) | (refine xr_g (b := ?_) (by exact rfl) ?_ ?_; rotate_left 1; (· simp only [ev, Zb, reduceIte, Nat.reduceEqDiff, Z8, Z5, *]; rfl)) | (with_reducible first | refine gw_tt ?_ | refine gw_ff ?_ | refine gw_tf ?_ | refine gw_ft ?_ | refine gw_un ?_) | refine gw_if (fun hb => ?_) (fun hb => ?_) | (refine aw_c (b := ?_) (by decide) ?_ ?_; rotate_left 1; (· simp only [ev, Zb, reduceIte, Nat.reduceEqDiff, *]; rfl)) | (with_reducible first | refine cw_t ?_ | refine cw_f ?_) | refine cw_if (fun hb => ?_) (fun hb => ?_) | (refine r_ret (vs := ?_) ?_ ?_; rotate_left 1; (· simp only [resV, ev, Zb, reduceIte, Nat.reduceEqDiff, Zj, *]; rfl)) | (with_reducible exact within_ok _ _ _ _) | (with_reducible exact isOffer_ok _ _ _ _) | ((with_reducible refine Z2w ?_); rintro _ _ ⟨rfl, hh⟩; replace hh := hh.symm; subst hh))
  all_goals refine ⟨?_, _, rfl⟩
  all_goals simp only [oneOf, formM]
  all_goals congr 1
  all_goals simp only [decide_eq_true_eq, decide_eq_false_iff_not] at *
  all_goals simp_all
theorem l16Named_x (c t r s w u : Int) (h : Heap) : ACalls Try.prog 0 118 #[.agg #[.int .i64 c, .int .i64 t, .int .i64 r, .int .i64 s, .int .i64 w, .int .i64 u]] h fun v h' => v = .bool (decide ((0 ≤ c ∧ c ≤ 9) ∧ (0 ≤ t ∧ t ≤ 5) ∧ (0 ≤ r ∧ r ≤ 3))) ∧ h' = h :=
  l16Named_ok ⟨c, t, r, s, w, u⟩ h
theorem l16Form_ok (a : DAct) (h : Heap) : ACalls Try.prog 0 128 #[.agg a.cells.toArray] h fun v h' => v = .bool (formM a) ∧ h' = h := by
  refine acalls_pure (.inl rfl) ?_
  obtain ⟨kind, item, who, dst, cas, task, role, many⟩ := a
  simp only [DAct.cells]
  refine Z36 Try.func128 rfl Try.ntmps128 (by simp) (by dsimp only [Try.f128]) ?_
  repeat' (first | ((with_reducible refine eq_go ?_); simp only [stp, ev, ZB, reduceIte, Nat.reduceEqDiff, Z2x, Z13, Zy, bld, fillL, vcs, splice, Ze, ZH, Z35, ldv, stv, fldA, blt, lenV, Z10, Zg, Z14, Zw, Z33, Nat.reduceAdd, Nat.reduceMul, Nat.reduceLeDiff, newB, Ty.t3, Ty.t77, Ty.t80, DAct.eqlX, *]; rfl) | (with_reducible first | refine aw_then ?_ | refine aw_skip ?_ | refine aw_ret ?_ | refine aw_exit ?_ | refine aw_block ?_ | refine xr_reg (by decide +kernel) ?_ | refine xr_nil ?_ | refine k_norm ?_ | refine k_ret ?_ | refine k_exit ?_ | refine b_norm ?_ | refine b_ret ?_ | refine b_exit ?_ | refine b_past (by decide) ?_) | (refine Ty.c84 (args := ?_) (K := ?_) ?_ ?_ ?_; rotate_left 2) | (refine Ty.c118 (args := ?_) (K := ?_) ?_ ?_ ?_; rotate_left 2) | (refine xr_do (v := ?_) (h' := ?_) (by exact rfl) ?_ ?_; rotate_left 2) | (refine xr_st (v := ?_) (h' := ?_) (by exact rfl) ?_ ?_; rotate_left 2) | (refine xr_g (b := ?_) (by exact rfl) ?_ ?_; rotate_left 1; (· simp only [ev, Zb, reduceIte, Nat.reduceEqDiff, Z8, Z5, *]; rfl)) | (with_reducible first | refine gw_tt ?_ | refine gw_ff ?_ | refine gw_tf ?_ | refine gw_ft ?_ | refine gw_un ?_) | refine gw_if (fun hb => ?_) (fun hb => ?_) | (refine aw_c (b := ?_) (by decide) ?_ ?_; rotate_left 1; (· simp only [ev, Zb, reduceIte, Nat.reduceEqDiff, *]; rfl)) | (with_reducible first | refine cw_t ?_ | refine cw_f ?_) | refine cw_if (fun hb => ?_) (fun hb => ?_) | (refine r_ret (vs := ?_) ?_ ?_; rotate_left 1; (· simp only [resV, ev, Zb, reduceIte, Nat.reduceEqDiff, Zj, *]; rfl)) | (with_reducible exact l1In_ok _ _ _ _) | (with_reducible exact l16Named_x _ _ _ _ _ _ _) | ((with_reducible refine Z2w ?_); rintro _ _ ⟨rfl, hh⟩; replace hh := hh.symm; subst hh))
  all_goals refine ⟨?_, _, rfl⟩
  all_goals simp only [oneOf, formM]
  all_goals congr 1
  all_goals simp only [decide_eq_true_eq, decide_eq_false_iff_not] at *
  all_goals simp_all
/-- The state that an act asks of an item. -/
def stateM (kind state : Int) : Bool := if kind = 2 then decide (state = 1) else if kind = 4 then decide (state = 3) else if kind = 7 then decide (1 ≤ state ∧ state ≤ 3) else decide (state = 2)
theorem requiredState_ok (x : Item) (k : Int) (h : Heap) : ACalls Try.prog 0 136 #[.agg x.cells.toArray, .int .i64 k] h fun v h' => v = .bool (stateM k x.state) ∧ h' = h := by
  refine acalls_pure (.inl rfl) ?_
  obtain ⟨cas, task, role, state, who, till⟩ := x
  simp only [Item.cells]
  refine Z36 Try.func136 rfl Try.ntmps136 (by simp) (by dsimp only [Try.f136]) ?_
  repeat' (first | ((with_reducible refine eq_go ?_); simp only [stp, ev, ZB, reduceIte, Nat.reduceEqDiff, Z2x, Z13, Zy, ldv, fldA, blt, lenV, Z10, ZH, Zg, Ze, Z14, Zw, Z33, Nat.reduceAdd, Nat.reduceMul, Nat.reduceLeDiff, splice, newB, vcs, Ty.t3, Ty.t77, *]; rfl) | (with_reducible first | refine aw_then ?_ | refine aw_skip ?_ | refine aw_ret ?_ | refine aw_exit ?_ | refine aw_block ?_ | refine xr_reg (by decide +kernel) ?_ | refine xr_nil ?_ | refine k_norm ?_ | refine k_ret ?_ | refine k_exit ?_ | refine b_norm ?_ | refine b_ret ?_ | refine b_exit ?_ | refine b_past (by decide) ?_) | (refine Ty.c98 (args := ?_) (K := ?_) ?_ ?_ ?_; rotate_left 2) | (refine xr_do (v := ?_) (h' := ?_) (by exact rfl) ?_ ?_; rotate_left 2) | (refine xr_st (v := ?_) (h' := ?_) (by exact rfl) ?_ ?_; rotate_left 2) | (refine aw_c (b := ?_) (by decide) ?_ ?_; rotate_left 1; (· simp only [ev, Zb, reduceIte, Nat.reduceEqDiff, *]; rfl)) | (with_reducible first | refine cw_t ?_ | refine cw_f ?_) | refine cw_if (fun hb => ?_) (fun hb => ?_) | (refine r_ret (vs := ?_) ?_ ?_; rotate_left 1; (· simp only [resV, ev, Zb, reduceIte, Nat.reduceEqDiff, Zj, *]; rfl)) | (with_reducible exact within_ok _ _ _ _) | ((with_reducible refine Z2w ?_); rintro _ _ ⟨rfl, hh⟩; replace hh := hh.symm; subst hh))
  all_goals refine ⟨?_, _, rfl⟩
  all_goals simp only [oneOf, stateM]
  all_goals congr 1
  all_goals simp only [decide_eq_true_eq, decide_eq_false_iff_not] at *
  all_goals simp_all
theorem requiredState_x (c t r s w u k : Int) (h : Heap) : ACalls Try.prog 0 136 #[.agg #[.int .i64 c, .int .i64 t, .int .i64 r, .int .i64 s, .int .i64 w, .int .i64 u], .int .i64 k] h fun v h' => v = .bool (stateM k s) ∧ h' = h :=
  requiredState_ok ⟨c, t, r, s, w, u⟩ k h
theorem l16State_ok (k s : Int) (h : Heap) (hk : 2 ≤ k ∧ k ≤ 7) : ACalls Try.prog 0 137 #[.int .i64 k, .int .i64 s] h fun v h' => v = .bool (stateM k s) ∧ h' = h := by
  refine Z36 Try.func137 rfl Try.ntmps137 (by simp) (by dsimp only [Try.f137]) ?_
  repeat' (first | ((with_reducible refine eq_go ?_); simp only [stp, ev, ZB, reduceIte, Nat.reduceEqDiff, Z2x, Z13, Zy, Ty.t3, *]; rfl) | (with_reducible first | refine aw_then ?_ | refine aw_skip ?_ | refine aw_ret ?_ | refine aw_exit ?_ | refine aw_block ?_ | refine xr_reg (by decide +kernel) ?_ | refine xr_nil ?_ | refine k_norm ?_ | refine k_ret ?_ | refine k_exit ?_ | refine b_norm ?_ | refine b_ret ?_ | refine b_exit ?_ | refine b_past (by decide) ?_) | (refine xr_do (v := ?_) (h' := ?_) (by exact rfl) ?_ ?_; rotate_left 2) | (refine xr_st (v := ?_) (h' := ?_) (by exact rfl) ?_ ?_; rotate_left 2) | (refine xr_g (b := ?_) (by exact rfl) ?_ ?_; rotate_left 1; (· simp only [ev, Zb, reduceIte, Nat.reduceEqDiff, Z8, Z5, *]; rfl)) | (with_reducible first | refine gw_tt ?_ | refine gw_ff ?_ | refine gw_tf ?_ | refine gw_ft ?_ | refine gw_un ?_) | refine gw_if (fun hb => ?_) (fun hb => ?_) | (refine aw_c (b := ?_) (by decide) ?_ ?_; rotate_left 1; (· simp only [ev, Zb, reduceIte, Nat.reduceEqDiff, *]; rfl)) | (with_reducible first | refine cw_t ?_ | refine cw_f ?_) | refine cw_if (fun hb => ?_) (fun hb => ?_) | (refine r_ret (vs := ?_) ?_ ?_; rotate_left 1; (· simp only [resV, ev, Zb, reduceIte, Nat.reduceEqDiff, Zj, *]; rfl)))
  all_goals refine ⟨?_, rfl⟩
  all_goals simp only [oneOf, stateM]
  all_goals congr 1
  all_goals simp only [decide_eq_true_eq, decide_eq_false_iff_not] at *
  all_goals first | (simp_all; done) | (exfalso; omega) | skip
  all_goals obtain rfl : k = 7 := by omega
  all_goals first | (simp_all; done) | (simp only [show ¬ (7 : Int) = 2 by decide, show ¬ (7 : Int) = 4 by decide, if_false, Z2x]; rw [decide_eq_decide]; omega)
end Go.Proofs.Ytiddnhhjlipebaa.Am
namespace Go.Proofs.Ytiddnhhjlipebaa.Am
open Go Go.Proofs
set_option linter.unusedVariables false
set_option linter.unusedSimpArgs false
set_option maxRecDepth 100000
set_option maxHeartbeats 8000000
def isP (people : List Int) (who : Int) : Bool := decide (0 ≤ who ∧ who ≤ (people.length : Int) - 1)
def toM (a : DAct) : Int := if a.kind = 6 then a.dst else a.who
/-- The code of an act on an item. -/
def codeI (people : List Int) (x : Item) (a : DAct) : Int :=
  if stateM a.kind x.state = false then 2 else if a.kind = 7 then 0
  else if isP people a.who = false ∨ isP people (toM a) = false then 3
  else if roleM (people.getD a.who.toNat 0) x.role = false ∨ roleM (people.getD (toM a).toNat 0) x.role = false ∨ (a.kind ≠ 2 ∧ x.who ≠ a.who) then 4 else 0
/-- The item behind an act that may be done. -/
def doI (now : Int) (x : Item) (a : DAct) : Item :=
  if a.kind = 7 then { x with state := 5, who := -1, till := 0 }
  else if a.kind = 2 ∨ a.kind = 6 then { x with state := 2, who := toM a, till := now + 10 }
  else if a.kind = 3 then { x with state := 3, till := 0 }
  else if a.kind = 4 then { x with state := 4 }
  else if a.kind = 5 then { x with state := 1, who := -1, till := 0 }
  else x
def nextI (now : Int) (people : List Int) (x : Item) (a : DAct) : Item := if codeI people x a = 0 then doI now x a else x
theorem get_mid (p l : List Value) (j : Nat) : (p ++ l)[p.length + j]? = l[j]? := by rw [List.getElem?_append_right (by omega)]; congr 1; omega
theorem splice_pre (p : List Value) : ∀ (vs l : List Value) (j : Nat), splice (p ++ l) (p.length + j) vs = p ++ splice l j vs
  | [], _, _ => rfl
  | v :: vs, l, j => by
      simp only [splice]
      rw [List.set_append_right _ _ (by omega), show p.length + j - p.length = j by omega]
      exact splice_pre p vs _ (j + 1)
theorem get_mid0 (p l : List Value) : (p ++ l)[p.length]? = l[0]? := get_mid p l 0
theorem splice_pre0 (p vs l : List Value) : splice (p ++ l) p.length vs = p ++ splice l 0 vs := splice_pre p vs l 0
theorem set_mid (p l : List Value) (j : Nat) (v : Value) : (p ++ l).set (p.length + j) v = p ++ l.set j v := by rw [List.set_append_right _ _ (by omega), show p.length + j - p.length = j by omega]
theorem drop_mid (p l : List Value) : (p ++ l).drop p.length = l := by simp
theorem stepItem_at (now : Int) (people : List Int) (x : Item) (a : DAct) (pre post : List Value) (vp vi : Value) (h L : Heap) (hp : ∀ b, Sl (h ++ b :: L) vp 1 (people.map fun n => [.int .i64 n])) (hl : people.length ≤ 6) (hi : flat vi = true)
    (hn : 0 ≤ now ∧ now ≤ 10000) (hr : 0 ≤ x.role) :
    ACalls Try.prog 0 127 #[.agg #[.int .i64 now, vp, vi], .pointer (some ⟨h.length, pre.length, none⟩), .agg a.cells.toArray] (h ++ ⟨2, 6, pre ++ (x.cells ++ post)⟩ :: L)
    fun v h' => v = .int .i64 (codeI people x a) ∧ h' = h ++ ⟨2, 6, pre ++ ((nextI now people x a).cells ++ post)⟩ :: (L ++ [⟨2, 1, [.int .i64 now, vp, vi]⟩, ⟨2, 1, a.cells⟩]) := by
  have hf := (hp ⟨0, 0, []⟩).flat
  have hp2 : ∀ (b : Blk) (X : Heap), Sl (h ++ b :: (L ++ X)) vp 1 (people.map fun n => [.int .i64 n]) := fun b X => by have := (hp b).old X; simpa using this
  clear hp
  have hP : ∀ z : Int, (!decide (0 ≤ z ∧ z ≤ (people.length : Int) - 1)) = false → 0 ≤ z ∧ z ≤ (people.length : Int) - 1 := fun z q => by
    simp only [Bool.not_eq_false', decide_eq_true_eq] at q; exact q
  have hw : IntKind.i64.wrap (now + 10) = now + 10 := wrap_id (by omega)
  obtain ⟨kind, item, who, dst, cas, task, role, many⟩ := a
  obtain ⟨xc, xt, xr, xs, xw, xl⟩ := x
  simp only [DAct.cells, Item.cells, Zc, Zd] at hr ⊢
  refine Z36 Try.func127 rfl Try.ntmps127 (by simp) (by dsimp only [Try.f127]) ?_
  repeat' (first | ((with_reducible refine eq_go ?_); simp only [stp, ev, ZB, reduceIte, Nat.reduceEqDiff, Z2x, Z13, Zy, ldv, stv, vcs, fldA, blt, lenV, Z10, ZH, Zg, Ze, Z14, Zw, Z33, Nat.reduceAdd, Nat.reduceMul, Nat.reduceLeDiff, splice, newB, Ty.t3, Ty.t24, Ty.t56, Ty.t58, Ty.t77, Ty.t80, get_mid, get_mid0, splice_pre, splice_pre0, set_mid, drop_mid, Nat.add_le_add_iff_left, Nat.le_add_left, *]; rfl) | (with_reducible first | refine aw_then ?_ | refine aw_skip ?_ | refine aw_ret ?_ | refine aw_exit ?_ | refine aw_block ?_ | refine xr_reg (by decide +kernel) ?_ | refine xr_nil ?_ | refine k_norm ?_ | refine k_ret ?_ | refine k_exit ?_ | refine b_norm ?_ | refine b_ret ?_ | refine b_exit ?_ | refine b_past (by decide) ?_ | refine xd_nil ?_) | (refine Ty.c97 (args := ?_) (K := ?_) ?_ ?_ ?_; rotate_left 2) | (refine Ty.d97 (args := ?_) (v := ?_) ?_ (by decide +kernel) ?_ ?_; rotate_left 2) | (refine Ty.c99 (args := ?_) (K := ?_) ?_ ?_ ?_; rotate_left 2) | (refine Ty.d99 (args := ?_) (v := ?_) ?_ (by decide +kernel) ?_ ?_; rotate_left 2) | (refine Ty.c136 (args := ?_) (K := ?_) ?_ ?_ ?_; rotate_left 2) | (refine Ty.d136 (args := ?_) (v := ?_) ?_ (by decide +kernel) ?_ ?_; rotate_left 2) | (refine xr_do (v := ?_) (h' := ?_) (by exact rfl) ?_ ?_; rotate_left 2) | (refine xr_st (v := ?_) (h' := ?_) (by exact rfl) ?_ ?_; rotate_left 2) | refine xd_reg (ms := [0, 1, 3, 0, 8, 31, 63]) Ty.mx (by decide +kernel) (by decide +kernel) ?_ | refine xd_reg (ms := [0, 0, 2, 0, 8, 24, 56, 127, 255, 511, 1023, 1023, 1023, 5119, 13311, 29695, 65535, 131071, 262143, 524287, 1048575, 2097151, 4194303, 8388607, 16777215, 33554431, 67108863, 134217727, 16777215, 285212671, 1073741823, 2147483647, 4294967295, 8589934591]) Ty.mx (by decide +kernel) (by decide +kernel) ?_ | refine xe_reg (ms := [0, 0, 0, 0, 0, 16, 48, 1, 129, 385, 907, 1931, 3979, 8191, 16383, 32767]) Ty.mx (by decide +kernel) (by decide +kernel) [[],[],[],[],[],[],[],[],[],[h.length],[],[],[h.length],[],[],[h.length]] ?_ | (with_reducible first | refine xe_nil ?_) | (refine xe_do (v := ?_) (ids := []) (by exact rfl) (by decide +kernel) (by exact rfl) (by exact rfl) ?_ ?_; rotate_left 1) | (refine xe_st (v := ?_) (a := ?_) (h' := ?_) (ids := []) (by decide +kernel) (by exact rfl) ?_ ?_ ?_ ?_ ?_; rotate_left 3; (· simp only [stp, ev, ZB, reduceIte, Nat.reduceEqDiff, Z2x, Z13, Zy, ldv, stv, vcs, fldA, blt, lenV, Z10, ZH, Zg, Ze, Z14, Zw, Z33, Nat.reduceAdd, Nat.reduceMul, Nat.reduceLeDiff, splice, newB, Ty.t3, Ty.t24, Ty.t56, Ty.t58, Ty.t77, Ty.t80, get_mid, get_mid0, splice_pre, splice_pre0, set_mid, drop_mid, Nat.add_le_add_iff_left, Nat.le_add_left, *]; rfl); (· exact rfl); (· simp)) | (refine xe_do (v := ?_) (ids := [h.length]) (by exact rfl) (by decide +kernel) (by exact rfl) (by exact rfl) ?_ ?_; rotate_left 1) | (refine xe_st (v := ?_) (a := ?_) (h' := ?_) (ids := [h.length]) (by decide +kernel) (by exact rfl) ?_ ?_ ?_ ?_ ?_; rotate_left 3; (· simp only [stp, ev, ZB, reduceIte, Nat.reduceEqDiff, Z2x, Z13, Zy, ldv, stv, vcs, fldA, blt, lenV, Z10, ZH, Zg, Ze, Z14, Zw, Z33, Nat.reduceAdd, Nat.reduceMul, Nat.reduceLeDiff, splice, newB, Ty.t3, Ty.t24, Ty.t56, Ty.t58, Ty.t77, Ty.t80, get_mid, get_mid0, splice_pre, splice_pre0, set_mid, drop_mid, Nat.add_le_add_iff_left, Nat.le_add_left, *]; rfl); (· exact rfl); (· simp)) | (refine xe_do (v := ?_) (ids := [h.length, h.length]) (by exact rfl) (by decide +kernel) (by exact rfl) (by exact rfl) ?_ ?_; rotate_left 1) | (refine xe_st (v := ?_) (a := ?_) (h' := ?_) (ids := [h.length, h.length]) (by decide +kernel) (by exact rfl) ?_ ?_ ?_ ?_ ?_; rotate_left 3; (· simp only [stp, ev, ZB, reduceIte, Nat.reduceEqDiff, Z2x, Z13, Zy, ldv, stv, vcs, fldA, blt, lenV, Z10, ZH, Zg, Ze, Z14, Zw, Z33, Nat.reduceAdd, Nat.reduceMul, Nat.reduceLeDiff, splice, newB, Ty.t3, Ty.t24, Ty.t56, Ty.t58, Ty.t77, Ty.t80, get_mid, get_mid0, splice_pre, splice_pre0, set_mid, drop_mid, Nat.add_le_add_iff_left, Nat.le_add_left, *]; rfl); (· exact rfl); (· simp)) | (refine xe_alloc (z := ?_) ?_ ?_ (by exact rfl) ?_; rotate_left 1; (· first | exact Ty.zc3 | exact Ty.zc58 | exact Ty.zc77 | exact Ty.zc80); (· decide)) | (refine xe_pure (ids := []) (f := ?_) (fs := ?_) (cs := ?_) (args := ?_) (v := ?_) ?_ ?_ ?_ (by decide +kernel) (by exact rfl) (by exact rfl) ?_ ?_; rotate_left 5; (· simp only [ev]; rfl); (· first | with_reducible exact Ty.ok97 | with_reducible exact Ty.ok99 | with_reducible exact Ty.ok136); (· simp only [stp, ev, ZB, reduceIte, Nat.reduceEqDiff, Z2x, Z13, Zy, ldv, stv, vcs, fldA, blt, lenV, Z10, ZH, Zg, Ze, Z14, Zw, Z33, Nat.reduceAdd, Nat.reduceMul, Nat.reduceLeDiff, splice, newB, Ty.t3, Ty.t24, Ty.t56, Ty.t58, Ty.t77, Ty.t80, get_mid, get_mid0, splice_pre, splice_pre0, set_mid, drop_mid, Nat.add_le_add_iff_left, Nat.le_add_left, *]; rfl); (· first | ((with_reducible refine isPerson_ok _ _ ?_ _ _ _ ?_ ?_ ?_); rotate_left 1; (· exact hp2 _ _); (· assumption); (· assumption)) | ((with_reducible refine hasRole_ok _ _ _ ?_ _ _ _ ?_ ?_ ?_ ?_); rotate_left 1; (· exact hp2 _ _); (· assumption); (· exact hP _ (by assumption)); (· exact hr)) | ((with_reducible refine requiredState_x _ _ _ _ _ _ _ _)))) | (refine xd_do (v := ?_) (by exact rfl) (by decide +kernel) ?_ ?_; rotate_left 1) | (refine xr_g (b := ?_) (by exact rfl) ?_ ?_; rotate_left 1; (· simp only [ev, Zb, reduceIte, Nat.reduceEqDiff, Z8, Z5, *]; rfl)) | (refine xd_g (b := ?_) (by exact rfl) ?_ ?_; rotate_left 1; (· simp only [ev, Zb, reduceIte, Nat.reduceEqDiff, Z8, Z5, *]; rfl)) | (with_reducible first | refine gw_tt ?_ | refine gw_ff ?_ | refine gw_tf ?_ | refine gw_ft ?_ | refine gw_un ?_) | refine gw_if (fun hb => ?_) (fun hb => ?_) | (refine aw_c (b := ?_) (by decide) ?_ ?_; rotate_left 1; (· simp only [ev, Zb, reduceIte, Nat.reduceEqDiff, *]; rfl)) | (with_reducible first | refine cw_t ?_ | refine cw_f ?_) | refine cw_if (fun hb => ?_) (fun hb => ?_) | (refine r_ret (vs := ?_) ?_ ?_; rotate_left 1; (· simp only [resV, ev, Zb, reduceIte, Nat.reduceEqDiff, Zj, *]; rfl)) | ((with_reducible refine isPerson_ok _ _ ?_ _ _ _ ?_ ?_ ?_); rotate_left 1; (· exact hp2 _ _); (· assumption); (· assumption)) | ((with_reducible refine hasRole_ok _ _ _ ?_ _ _ _ ?_ ?_ ?_ ?_); rotate_left 1; (· exact hp2 _ _); (· assumption); (· exact hP _ (by assumption)); (· exact hr)) | (with_reducible exact requiredState_x _ _ _ _ _ _ _ _) | ((with_reducible refine Z2w ?_); rintro _ _ ⟨rfl, hh⟩; replace hh := hh.symm; subst hh))
  all_goals clear hp2 hP hw hf hi hn hl
  all_goals simp only [Bool.not_eq_true', Bool.not_eq_false', decide_eq_true_eq, decide_eq_false_iff_not] at *
  all_goals first | (exfalso; omega) | skip
  all_goals simp_all [oneOf, codeI, nextI, doI, toM, isP]
end Go.Proofs.Ytiddnhhjlipebaa.Am
