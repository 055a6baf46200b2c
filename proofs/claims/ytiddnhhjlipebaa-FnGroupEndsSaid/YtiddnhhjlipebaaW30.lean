/- Walks of the reading of a draw: the next number, a number below a bound. Conditions: none. -/
import Derived.Test.YtiddnhhjlipebaaW13
import Derived.Test.YtiddnhhjlipebaaAmY
namespace Go.Proofs.Ytiddnhhjlipebaa.Am
open Go Go.Proofs
set_option linter.unusedVariables false
set_option linter.unusedSimpArgs false
set_option maxRecDepth 100000
set_option maxHeartbeats 8000000

/-- A cursor in a draw. -/
structure Cur where
  v : Value
  code : List Int
  pos : Nat
  seed : Int

def Cur.blk (c : Cur) : Blk := ⟨2, 1, [c.v, .int .i64 c.pos, .int .u64 c.seed]⟩
def bytesR (l : List Int) : List (List Value) := l.map fun n => [.int .u8 n]
def Cur.byte (c : Cur) : Int := if c.pos < c.code.length then c.code.getD c.pos 0 else 0
def Cur.sd (c : Cur) : Int := IntKind.u64.wrap (IntKind.u64.wrap (IntKind.u64.wrap (c.seed * 6364136223846793005) + c.byte) + 1442695040888963407)
def Cur.nx (c : Cur) : Cur := ⟨c.v, c.code, c.pos + 1, c.sd⟩
def Cur.get (c : Cur) : Int := if c.pos < c.code.length then c.byte else bits .and .u64 (c.sd.fdiv (2 ^ min (40 : Int).toNat IntKind.u64.bits)) 255

def Cur.ok (c : Cur) : Prop := c.pos ≤ 1000000000000 ∧ c.code.length ≤ 9223372036854775807 ∧ (∀ x ∈ c.code, 0 ≤ x ∧ x ≤ 255) ∧ 0 ≤ c.seed ∧ c.seed ≤ 18446744073709551615

def CurAt (h : Heap) (id : Nat) (c : Cur) : Prop := h[id]? = some c.blk ∧ Sl h c.v 1 (bytesR c.code) ∧ bid c.v ≠ some id ∧ c.ok

theorem Cur.byte_range {c : Cur} (h : c.ok) : 0 ≤ c.byte ∧ c.byte ≤ 255 := by
  unfold Cur.byte
  split
  · rename_i q
    rw [List.getD_eq_getElem?_getD, List.getElem?_eq_getElem q]
    exact h.2.2.1 _ (List.getElem_mem _)
  · omega

theorem u64_range (n : Int) : 0 ≤ IntKind.u64.wrap n ∧ IntKind.u64.wrap n ≤ 18446744073709551615 := by
  simp only [IntKind.wrap, IntKind.signed, IntKind.bits]; simp; omega

theorem and255 (a : Int) : 0 ≤ bits .and .u64 a 255 ∧ bits .and .u64 a 255 ≤ 255 := by
  have h : (BitVec.ofInt 64 a &&& BitVec.ofInt 64 255).toNat ≤ 255 := by
    rw [BitVec.toNat_and]; exact Nat.le_trans Nat.and_le_right (by decide)
  have e : bits .and .u64 a 255 = IntKind.u64.wrap ((BitVec.ofInt 64 a &&& BitVec.ofInt 64 255).toNat : Int) := rfl
  rw [e, wrap_u64_id (by omega)]; omega

theorem Cur.get_range {c : Cur} (h : c.ok) : 0 ≤ c.get ∧ c.get ≤ 255 := by
  unfold Cur.get
  split
  · exact Cur.byte_range h
  · exact and255 _

theorem Cur.nx_ok {c : Cur} (h : c.ok) (hp : c.pos < 1000000000000) : c.nx.ok := ⟨by simp only [Cur.nx]; omega, h.2.1, h.2.2.1, (u64_range _).1, (u64_range _).2⟩

theorem binV_shr40 {P : Program} {t : TypeId} {xo yo : Operand} (a : Int) : binV P .shr t xo yo (.int .u64 a) (.int .u64 40) = some (.int .u64 (a.fdiv (2 ^ min (40 : Int).toNat IntKind.u64.bits))) := binV_shr _ _ _ _ _ _ _ (by decide)

/-- The same, with the cursor's block in sight. -/
theorem next_at (c : Cur) (h L : Heap) (hs : Sl (h ++ c.blk :: L) c.v 1 (bytesR c.code)) (hc : c.ok) :
    ACalls Try.prog 0 116 #[.pointer (some ⟨h.length, 0, none⟩)] (h ++ c.blk :: L) fun v h' => v = .int .i64 c.get ∧ h' = h ++ c.nx.blk :: L := by
  have hbr := Cur.byte_range hc
  have hsd : c.sd = IntKind.u64.wrap (IntKind.u64.wrap (IntKind.u64.wrap (c.seed * 6364136223846793005) + c.byte) + 1442695040888963407) := rfl
  have hsr := u64_range (IntKind.u64.wrap (IntKind.u64.wrap (c.seed * 6364136223846793005) + c.byte) + 1442695040888963407)
  rw [← hsd] at hsr
  obtain ⟨hc1, hc2, hc3, hc4, hc5⟩ := hc
  have hf := hs.flat
  obtain ⟨vv, code, pos, seed⟩ := c
  simp only [Cur.blk, Cur.nx] at *
  generalize hsq : Cur.sd ⟨vv, code, pos, seed⟩ = sd at *
  obtain ⟨b, cp, hve, hcp, hrow⟩ := hs
  simp only [bytesR, List.length_map] at hve hcp hrow
  subst hve
  have hwp : IntKind.i64.wrap ((pos : Int) + 1) = ((pos + 1 : Nat) : Int) := by rw [wrap_id (by omega)]; omega
  rcases Nat.lt_or_ge pos code.length with hlt | hge
  · have h1 : (pos : Int) < code.length := by omega
    have h2 : ((pos + 1 : Nat) : Int) ≤ code.length := by omega
    obtain ⟨a, rfl, hld⟩ := hrow pos [.int .u8 code[pos]] (by rw [List.getElem?_map, List.getElem?_eq_getElem hlt]; rfl)
    have hg := getC_of_load hld
    have hby : Cur.byte ⟨.slice (some a) code.length cp, code, pos, seed⟩ = code[pos] := by simp [Cur.byte, hlt, List.getElem?_eq_getElem hlt]
    have hget : Cur.get ⟨.slice (some a) code.length cp, code, pos, seed⟩ = code[pos] := by simp only [Cur.get, if_pos hlt, hby]
    rw [hby] at hsd hbr
    rw [hget]
    have hwa : IntKind.i64.wrap code[pos] = code[pos] := wrap_id (by omega)
    have hwb : IntKind.u64.wrap code[pos] = code[pos] := wrap_u64_id (by omega)
    refine acalls_fn Try.func116 rfl Try.ntmps116 (by simp) (by dsimp only [Try.f116]) ?_
    repeat' (first
      | ((with_reducible refine eq_go ?_); simp only [stp, ev, put_some, put_none, argT_list, List.getD_cons_zero, List.getD_cons_succ, reduceIte, Nat.reduceEqDiff, Option.map_some, Array.map_empty, List.map_toArray, List.map_cons, List.map_nil, List.append_toArray, Array.append_empty, Array.empty_append, List.nil_append, List.append_nil, and_self, if_true, decide_true, decide_false, Int.toNat_natCast, Int.natCast_nonneg, List.length_map, binV_add, binV_sub, binV_and, binV_shr, binV_shl, binV_str_eql, binV_str_neq, binV_mul, binV_eql, binV_neq, binV_lss, binV_leq, binV_gtr, binV_geq, unV_not, Bool.not_true, Bool.not_false, Bool.cond_true, Bool.cond_false, ldv, stv, vcs, conV, fldA, idxA, blt, lenV, List.size_toArray, List.length_cons, List.length_nil, Nat.zero_add, Array.getD_eq_getD_getElem?, List.getElem?_toArray, List.getElem?_cons_zero, List.getElem?_cons_succ, Option.getD_some, Option.isSome_some, Nat.add_assoc, List.toList_toArray, eq_self, Option.bind_some, List.append_assoc, List.cons_append, List.length_append, List.length_cons, List.length_nil, Nat.zero_add, Nat.add_zero, Nat.reduceAdd, Nat.reduceMul, Nat.reduceLeDiff, mset_some, mset_none, set_at, set_at0, killL_nil, killL_cons, getC_succ2, getC_succ3, getC_succ4, getC_succ5, getC_succ6, loadCs_succ2, loadCs_succ3, loadCs_succ4, loadCs_succ5, loadCs_succ6, setCs_succ2, setCs_succ3, setCs_succ4, setCs_succ5, setCs_succ6, getC_at, getC_at0, getC_zero, getC_succ, loadCs_at, loadCs_at0, loadCs_zero, loadCs_succ, setCs_at, setCs_at0, setCs_zero, setCs_succ, splice, List.set_cons_succ, List.set_cons_zero, List.getElem?_cons_zero, List.getElem?_cons_succ, List.drop_zero, List.drop_succ_cons, List.take_succ_cons, List.take_zero, newB, vcs, flat_int, flat_bool, flat_string, flat_slice, flat_pointer, flat_func, flat_nilFunc, List.all_cons, List.all_nil, Bool.and_true, Bool.and_self, Ty.ld3, Ty.sz3, Ty.zc3, Ty.by3, Ty.un3, Ty.ld5, Ty.sz5, Ty.zc5, Ty.by5, Ty.un5, Ty.ld37, Ty.sz37, Ty.sl37, Ty.zc37, Ty.by37, Ty.un37, Ty.ld104, Ty.sz104, Ty.zc104, Ty.by104, Ty.un104, Ty.ld106, Ty.sz106, Ty.zc106, Ty.by106, Ty.un106, Ty.fl106_0, Ty.fl106_1, Ty.fl106_2, *]; rfl)
      | (with_reducible refine aw_then ?_) | (with_reducible refine aw_skip ?_) | (with_reducible refine aw_ret ?_) | (with_reducible refine aw_exit ?_) | (with_reducible refine aw_block ?_) | (with_reducible refine xr_reg (by decide +kernel) ?_)
      | (with_reducible refine xr_nil ?_) | (with_reducible refine k_norm ?_) | (with_reducible refine k_ret ?_) | (with_reducible refine k_exit ?_) | (with_reducible refine b_norm ?_) | (with_reducible refine b_ret ?_) | (with_reducible refine b_exit ?_) | (with_reducible refine b_past (by decide) ?_)
      | (with_reducible refine xd_nil ?_)
      | (refine xr_do (v := ?_) (h' := ?_) (by exact rfl) ?_ ?_; rotate_left 2)
      | (refine xr_st (v := ?_) (h' := ?_) (by exact rfl) ?_ ?_; rotate_left 2)
      | (refine xd_reg (ms := [0, 1, 3, 7, 0, 16, 48, 112, 240, 511]) Ty.mx (by decide +kernel) (by decide +kernel) ?_)
      | (refine xd_reg (ms := [0, 1, 3, 7, 0, 16, 48, 112, 255, 511, 1023, 2047]) Ty.mx (by decide +kernel) (by decide +kernel) ?_)
      | (refine xd_do (v := ?_) (by exact rfl) (by decide +kernel) ?_ ?_; rotate_left 1)
      | (refine aw_ift (by decide) ?_ ?_
         · simp only [ev, put_some, reduceIte, Nat.reduceEqDiff, *])
      | (refine aw_iff (by decide) ?_ ?_
         · simp only [ev, put_some, reduceIte, Nat.reduceEqDiff, *])
      | (refine aw_if (b := ?_) (by decide) ?_ (fun hb => ?_) (fun hb => ?_)
         rotate_left 1
         · simp only [ev, put_some, reduceIte, Nat.reduceEqDiff, *]; rfl)
      | (refine r_ret (vs := ?_) ?_ ?_
         rotate_left 1
         · simp only [resV, ev, put_some, reduceIte, Nat.reduceEqDiff, Option.map_some, *]; rfl)
      )
    exact ⟨rfl, by rw [hsd]⟩
  · have h1 : ¬ (pos : Int) < code.length := by omega
    have h2 : ¬ ((pos + 1 : Nat) : Int) ≤ code.length := by omega
    have hby : Cur.byte ⟨.slice b code.length cp, code, pos, seed⟩ = 0 := by simp only [Cur.byte, if_neg (show ¬ pos < code.length by omega)]
    have hget : Cur.get ⟨.slice b code.length cp, code, pos, seed⟩ = bits .and .u64 (sd.fdiv (2 ^ min (40 : Int).toNat IntKind.u64.bits)) 255 := by
      rw [← hsq]; simp only [Cur.get, if_neg (show ¬ pos < code.length by omega)]
    rw [hby] at hsd
    have hr := and255 (sd.fdiv (2 ^ min (40 : Int).toNat IntKind.u64.bits))
    rw [hget]
    have hwb : IntKind.u64.wrap 0 = 0 := wrap_u64_id (by omega)
    have hsd2 := hsd.symm
    clear hsd
    generalize hX : bits .and .u64 (sd.fdiv (2 ^ min (40 : Int).toNat IntKind.u64.bits)) 255 = X at hr ⊢
    have hwa : IntKind.i64.wrap X = X := wrap_id (by omega)
    refine acalls_fn Try.func116 rfl Try.ntmps116 (by simp) (by dsimp only [Try.f116]) ?_
    repeat' (first
      | ((with_reducible refine eq_go ?_); simp only [stp, ev, put_some, put_none, argT_list, List.getD_cons_zero, List.getD_cons_succ, reduceIte, Nat.reduceEqDiff, Option.map_some, Array.map_empty, List.map_toArray, List.map_cons, List.map_nil, List.append_toArray, Array.append_empty, Array.empty_append, List.nil_append, List.append_nil, and_self, if_true, decide_true, decide_false, Int.toNat_natCast, Int.natCast_nonneg, List.length_map, binV_add, binV_sub, binV_and, binV_shr, binV_shl, binV_str_eql, binV_str_neq, binV_mul, binV_eql, binV_neq, binV_lss, binV_leq, binV_gtr, binV_geq, unV_not, Bool.not_true, Bool.not_false, Bool.cond_true, Bool.cond_false, ldv, stv, vcs, conV, fldA, idxA, blt, lenV, List.size_toArray, List.length_cons, List.length_nil, Nat.zero_add, Array.getD_eq_getD_getElem?, List.getElem?_toArray, List.getElem?_cons_zero, List.getElem?_cons_succ, Option.getD_some, Option.isSome_some, Nat.add_assoc, List.toList_toArray, eq_self, Option.bind_some, List.append_assoc, List.cons_append, List.length_append, List.length_cons, List.length_nil, Nat.zero_add, Nat.add_zero, Nat.reduceAdd, Nat.reduceMul, Nat.reduceLeDiff, mset_some, mset_none, set_at, set_at0, killL_nil, killL_cons, getC_succ2, getC_succ3, getC_succ4, getC_succ5, getC_succ6, loadCs_succ2, loadCs_succ3, loadCs_succ4, loadCs_succ5, loadCs_succ6, setCs_succ2, setCs_succ3, setCs_succ4, setCs_succ5, setCs_succ6, getC_at, getC_at0, getC_zero, getC_succ, loadCs_at, loadCs_at0, loadCs_zero, loadCs_succ, setCs_at, setCs_at0, setCs_zero, setCs_succ, splice, List.set_cons_succ, List.set_cons_zero, List.getElem?_cons_zero, List.getElem?_cons_succ, List.drop_zero, List.drop_succ_cons, List.take_succ_cons, List.take_zero, newB, vcs, flat_int, flat_bool, flat_string, flat_slice, flat_pointer, flat_func, flat_nilFunc, List.all_cons, List.all_nil, Bool.and_true, Bool.and_self, Ty.ld3, Ty.sz3, Ty.zc3, Ty.by3, Ty.un3, Ty.ld5, Ty.sz5, Ty.zc5, Ty.by5, Ty.un5, Ty.ld37, Ty.sz37, Ty.sl37, Ty.zc37, Ty.by37, Ty.un37, Ty.ld104, Ty.sz104, Ty.zc104, Ty.by104, Ty.un104, Ty.ld106, Ty.sz106, Ty.zc106, Ty.by106, Ty.un106, Ty.fl106_0, Ty.fl106_1, Ty.fl106_2, binV_shr40, *]; rfl)
      | (with_reducible refine aw_then ?_) | (with_reducible refine aw_skip ?_) | (with_reducible refine aw_ret ?_) | (with_reducible refine aw_exit ?_) | (with_reducible refine aw_block ?_) | (with_reducible refine xr_reg (by decide +kernel) ?_)
      | (with_reducible refine xr_nil ?_) | (with_reducible refine k_norm ?_) | (with_reducible refine k_ret ?_) | (with_reducible refine k_exit ?_) | (with_reducible refine b_norm ?_) | (with_reducible refine b_ret ?_) | (with_reducible refine b_exit ?_) | (with_reducible refine b_past (by decide) ?_)
      | (with_reducible refine xd_nil ?_)
      | (refine xr_do (v := ?_) (h' := ?_) (by exact rfl) ?_ ?_; rotate_left 2)
      | (refine xr_st (v := ?_) (h' := ?_) (by exact rfl) ?_ ?_; rotate_left 2)
      | (refine xd_reg (ms := [0, 1, 3, 7, 0, 16, 48, 112, 240, 511]) Ty.mx (by decide +kernel) (by decide +kernel) ?_)
      | (refine xd_reg (ms := [0, 1, 3, 7, 0, 16, 48, 112, 255, 511, 1023, 2047]) Ty.mx (by decide +kernel) (by decide +kernel) ?_)
      | (refine xd_do (v := ?_) (by exact rfl) (by decide +kernel) ?_ ?_; rotate_left 1)
      | (refine aw_ift (by decide) ?_ ?_
         · simp only [ev, put_some, reduceIte, Nat.reduceEqDiff, *])
      | (refine aw_iff (by decide) ?_ ?_
         · simp only [ev, put_some, reduceIte, Nat.reduceEqDiff, *])
      | (refine aw_if (b := ?_) (by decide) ?_ (fun hb => ?_) (fun hb => ?_)
         rotate_left 1
         · simp only [ev, put_some, reduceIte, Nat.reduceEqDiff, *]; rfl)
      | (refine r_ret (vs := ?_) ?_ ?_
         rotate_left 1
         · simp only [resV, ev, put_some, reduceIte, Nat.reduceEqDiff, Option.map_some, *]; rfl)
      )
    exact ⟨rfl, rfl⟩

theorem Sl.set_ne {h : Heap} {v : Value} {e id : Nat} {rows : List (List Value)} (hs : Sl h v e rows) (hne : bid v ≠ some id) (b : Blk) : Sl (h.set id b) v e rows := by
  obtain ⟨bb, c, rfl, hc, hrow⟩ := hs
  refine ⟨bb, c, rfl, hc, fun i r hr => ?_⟩
  obtain ⟨a, rfl, hl⟩ := hrow i r hr
  refine ⟨a, rfl, ?_⟩
  have : id ≠ a.block := fun q => hne (by simp [bid, q])
  unfold loadCs at hl ⊢
  rw [List.getElem?_set_ne this]; exact hl

theorem next_ok (c : Cur) (id : Nat) (h : Heap) (hc : CurAt h id c) : ACalls Try.prog 0 116 #[.pointer (some ⟨id, 0, none⟩)] h fun v h' => v = .int .i64 c.get ∧ h' = h.set id c.nx.blk := by
  obtain ⟨hb, hs, hne, hok⟩ := hc
  have hlt := lt_of_get hb
  have e : h = h.take id ++ c.blk :: h.drop (id + 1) := by
    have := (List.getElem?_eq_some_iff.1 hb).2
    rw [← this, ← List.drop_eq_getElem_cons hlt, List.take_append_drop]
  have hl : (h.take id).length = id := by simp; omega
  have := next_at c (h.take id) (h.drop (id + 1)) (by rw [← e]; exact hs) hok
  rw [hl, ← e] at this
  refine this.mono fun v h' q => ⟨q.1, q.2.trans ?_⟩
  conv => rhs; rw [e]
  rw [List.set_append_right _ _ (by omega), hl, Nat.sub_self]; rfl

theorem CurAt.nx {h : Heap} {id : Nat} {c : Cur} (hc : CurAt h id c) (hp : c.pos < 1000000000000) : CurAt (h.set id c.nx.blk) id c.nx :=
  ⟨by rw [List.getElem?_set_self (lt_of_get hc.1)], hc.2.1.set_ne hc.2.2.1 _, hc.2.2.1, Cur.nx_ok hc.2.2.2 hp⟩

/-- A number below n. -/
def Cur.pick (c : Cur) (n : Int) : Int × Cur :=
  if n ≤ 1 then (0, c) else if 200 < n then ((c.get * 256 + c.nx.get).tmod n, c.nx.nx) else (c.get.tmod n, c.nx)

theorem pick_ok (c : Cur) (n : Int) (id : Nat) (h : Heap) (hc : CurAt h id c) (hp : c.pos + 1 < 1000000000000) :
    ACalls Try.prog 0 81 #[.pointer (some ⟨id, 0, none⟩), .int .i64 n] h fun v h' => v = .int .i64 (c.pick n).1 ∧ h' = h.set id (c.pick n).2.blk := by
  have hself : h.set id c.blk = h := set_self hc.1
  have hc1 := hc.nx (by omega)
  have hg0 := Cur.get_range hc.2.2.2
  have hg1 := Cur.get_range hc1.2.2.2
  have hw1 : IntKind.i64.wrap (c.get * 256) = c.get * 256 := wrap_id (by omega)
  have hw2 : IntKind.i64.wrap (c.get * 256 + c.nx.get) = c.get * 256 + c.nx.get := wrap_id (by omega)
  unfold Cur.pick
  by_cases h1 : n ≤ 1
  · simp only [if_pos h1, hself]
    refine acalls_fn Try.func81 rfl Try.ntmps81 (by simp) (by dsimp only [Try.f81]) ?_
    repeat' (first
      | ((with_reducible refine eq_go ?_); simp only [stp, ev, put_some, put_none, argT_list, List.getD_cons_zero, List.getD_cons_succ, reduceIte, Nat.reduceEqDiff, Option.map_some, Array.map_empty, List.map_toArray, List.map_cons, List.map_nil, List.append_toArray, Array.append_empty, Array.empty_append, List.nil_append, List.append_nil, and_self, if_true, decide_true, decide_false, Int.toNat_natCast, Int.natCast_nonneg, List.length_map, binV_add, binV_sub, binV_and, binV_shr, binV_shl, binV_str_eql, binV_str_neq, binV_mul, binV_eql, binV_neq, binV_lss, binV_leq, binV_gtr, binV_geq, unV_not, Bool.not_true, Bool.not_false, Bool.cond_true, Bool.cond_false, blt, lenV, List.size_toArray, List.length_cons, List.length_nil, Nat.zero_add, Array.getD_eq_getD_getElem?, List.getElem?_toArray, List.getElem?_cons_zero, List.getElem?_cons_succ, Option.getD_some, Option.isSome_some, Ty.sz3, Ty.zc3, Ty.by3, Ty.sz5, Ty.zc5, Ty.by5, Ty.sz37, Ty.sl37, Ty.zc37, Ty.by37, Ty.sz103, Ty.zc103, Ty.by103, Ty.sz104, Ty.zc104, Ty.by104, Ty.sz106, Ty.zc106, Ty.by106, *]; rfl)
      | (with_reducible refine aw_then ?_) | (with_reducible refine aw_skip ?_) | (with_reducible refine aw_ret ?_) | (with_reducible refine aw_exit ?_) | (with_reducible refine aw_block ?_) | (with_reducible refine xr_reg (by decide +kernel) ?_)
      | (with_reducible refine xr_nil ?_) | (with_reducible refine k_norm ?_) | (with_reducible refine k_ret ?_) | (with_reducible refine k_exit ?_) | (with_reducible refine b_norm ?_) | (with_reducible refine b_ret ?_) | (with_reducible refine b_exit ?_) | (with_reducible refine b_past (by decide) ?_)
      | (refine xr_cl (f := ?_) (fs := ?_) (cs := ?_) (args := ?_) (K := ?_) ?_ ?_ ?_ ?_ ?_
         rotate_left 5
         · simp only [ev]; rfl
         first
         | (· with_reducible exact Ty.ok116
            rotate_left 2
            refine hk_tag 116 ?_
            rotate_right 2)
         )
      | (refine xr_do (v := ?_) (h' := ?_) (by exact rfl) ?_ ?_; rotate_left 2)
      | (refine xr_st (v := ?_) (h' := ?_) (by exact rfl) ?_ ?_; rotate_left 2)
      | (refine aw_ift (by decide) ?_ ?_
         · simp only [ev, put_some, reduceIte, Nat.reduceEqDiff, *])
      | (refine aw_iff (by decide) ?_ ?_
         · simp only [ev, put_some, reduceIte, Nat.reduceEqDiff, *])
      | (refine aw_if (b := ?_) (by decide) ?_ (fun hb => ?_) (fun hb => ?_)
         rotate_left 1
         · simp only [ev, put_some, reduceIte, Nat.reduceEqDiff, *]; rfl)
      | (refine r_ret (vs := ?_) ?_ ?_
         rotate_left 1
         · simp only [resV, ev, put_some, reduceIte, Nat.reduceEqDiff, Option.map_some, *]; rfl)
      | (with_reducible refine next_ok ?_ _ _ ?_
         rotate_left 1
         · assumption
         )
      | ((with_reducible refine HkTag.mk (n := 116) ?_); rintro _ _ ⟨rfl, hh⟩; replace hh := hh.symm; subst hh)
      )
    exact ⟨rfl, rfl⟩
  · have hn0 : n ≠ 0 := by omega
    have hrem : ∀ {P : Program} (t : TypeId) (xo yo : Operand) (a : Int), binV P .rem t xo yo (.int .i64 a) (.int .i64 n) = some (.int .i64 (a.tmod n)) := fun t xo yo a => binV_rem _ _ _ _ _ _ hn0
    by_cases h2 : 200 < n
    · simp only [if_neg h1, if_pos h2]
      refine acalls_fn Try.func81 rfl Try.ntmps81 (by simp) (by dsimp only [Try.f81]) ?_
      repeat' (first
        | ((with_reducible refine eq_go ?_); simp only [stp, ev, put_some, put_none, argT_list, List.getD_cons_zero, List.getD_cons_succ, reduceIte, Nat.reduceEqDiff, Option.map_some, Array.map_empty, List.map_toArray, List.map_cons, List.map_nil, List.append_toArray, Array.append_empty, Array.empty_append, List.nil_append, List.append_nil, and_self, if_true, decide_true, decide_false, Int.toNat_natCast, Int.natCast_nonneg, List.length_map, binV_add, binV_sub, binV_and, binV_shr, binV_shl, binV_str_eql, binV_str_neq, binV_mul, binV_eql, binV_neq, binV_lss, binV_leq, binV_gtr, binV_geq, unV_not, Bool.not_true, Bool.not_false, Bool.cond_true, Bool.cond_false, blt, lenV, List.size_toArray, List.length_cons, List.length_nil, Nat.zero_add, Array.getD_eq_getD_getElem?, List.getElem?_toArray, List.getElem?_cons_zero, List.getElem?_cons_succ, Option.getD_some, Option.isSome_some, Ty.sz3, Ty.zc3, Ty.by3, Ty.sz5, Ty.zc5, Ty.by5, Ty.sz37, Ty.sl37, Ty.zc37, Ty.by37, Ty.sz103, Ty.zc103, Ty.by103, Ty.sz104, Ty.zc104, Ty.by104, Ty.sz106, Ty.zc106, Ty.by106, *]; rfl)
        | (with_reducible refine aw_then ?_) | (with_reducible refine aw_skip ?_) | (with_reducible refine aw_ret ?_) | (with_reducible refine aw_exit ?_) | (with_reducible refine aw_block ?_) | (with_reducible refine xr_reg (by decide +kernel) ?_)
        | (with_reducible refine xr_nil ?_) | (with_reducible refine k_norm ?_) | (with_reducible refine k_ret ?_) | (with_reducible refine k_exit ?_) | (with_reducible refine b_norm ?_) | (with_reducible refine b_ret ?_) | (with_reducible refine b_exit ?_) | (with_reducible refine b_past (by decide) ?_)
        | (refine xr_cl (f := ?_) (fs := ?_) (cs := ?_) (args := ?_) (K := ?_) ?_ ?_ ?_ ?_ ?_
           rotate_left 5
           · simp only [ev]; rfl
           first
           | (· with_reducible exact Ty.ok116
              rotate_left 2
              refine hk_tag 116 ?_
              rotate_right 2)
           )
        | (refine xr_do (v := ?_) (h' := ?_) (by exact rfl) ?_ ?_; rotate_left 2)
        | (refine xr_st (v := ?_) (h' := ?_) (by exact rfl) ?_ ?_; rotate_left 2)
        | (refine aw_ift (by decide) ?_ ?_
           · simp only [ev, put_some, reduceIte, Nat.reduceEqDiff, *])
        | (refine aw_iff (by decide) ?_ ?_
           · simp only [ev, put_some, reduceIte, Nat.reduceEqDiff, *])
        | (refine aw_if (b := ?_) (by decide) ?_ (fun hb => ?_) (fun hb => ?_)
           rotate_left 1
           · simp only [ev, put_some, reduceIte, Nat.reduceEqDiff, *]; rfl)
        | (refine r_ret (vs := ?_) ?_ ?_
           rotate_left 1
           · simp only [resV, ev, put_some, reduceIte, Nat.reduceEqDiff, Option.map_some, *]; rfl)
        | (with_reducible refine next_ok ?_ _ _ ?_
           rotate_left 1
           · assumption
           )
        | ((with_reducible refine HkTag.mk (n := 116) ?_); rintro _ _ ⟨rfl, hh⟩; replace hh := hh.symm; subst hh)
        )
      exact ⟨rfl, by rw [List.set_set]⟩
    · simp only [if_neg h1, if_neg h2]
      refine acalls_fn Try.func81 rfl Try.ntmps81 (by simp) (by dsimp only [Try.f81]) ?_
      repeat' (first
        | ((with_reducible refine eq_go ?_); simp only [stp, ev, put_some, put_none, argT_list, List.getD_cons_zero, List.getD_cons_succ, reduceIte, Nat.reduceEqDiff, Option.map_some, Array.map_empty, List.map_toArray, List.map_cons, List.map_nil, List.append_toArray, Array.append_empty, Array.empty_append, List.nil_append, List.append_nil, and_self, if_true, decide_true, decide_false, Int.toNat_natCast, Int.natCast_nonneg, List.length_map, binV_add, binV_sub, binV_and, binV_shr, binV_shl, binV_str_eql, binV_str_neq, binV_mul, binV_eql, binV_neq, binV_lss, binV_leq, binV_gtr, binV_geq, unV_not, Bool.not_true, Bool.not_false, Bool.cond_true, Bool.cond_false, blt, lenV, List.size_toArray, List.length_cons, List.length_nil, Nat.zero_add, Array.getD_eq_getD_getElem?, List.getElem?_toArray, List.getElem?_cons_zero, List.getElem?_cons_succ, Option.getD_some, Option.isSome_some, Ty.sz3, Ty.zc3, Ty.by3, Ty.sz5, Ty.zc5, Ty.by5, Ty.sz37, Ty.sl37, Ty.zc37, Ty.by37, Ty.sz103, Ty.zc103, Ty.by103, Ty.sz104, Ty.zc104, Ty.by104, Ty.sz106, Ty.zc106, Ty.by106, *]; rfl)
        | (with_reducible refine aw_then ?_) | (with_reducible refine aw_skip ?_) | (with_reducible refine aw_ret ?_) | (with_reducible refine aw_exit ?_) | (with_reducible refine aw_block ?_) | (with_reducible refine xr_reg (by decide +kernel) ?_)
        | (with_reducible refine xr_nil ?_) | (with_reducible refine k_norm ?_) | (with_reducible refine k_ret ?_) | (with_reducible refine k_exit ?_) | (with_reducible refine b_norm ?_) | (with_reducible refine b_ret ?_) | (with_reducible refine b_exit ?_) | (with_reducible refine b_past (by decide) ?_)
        | (refine xr_cl (f := ?_) (fs := ?_) (cs := ?_) (args := ?_) (K := ?_) ?_ ?_ ?_ ?_ ?_
           rotate_left 5
           · simp only [ev]; rfl
           first
           | (· with_reducible exact Ty.ok116
              rotate_left 2
              refine hk_tag 116 ?_
              rotate_right 2)
           )
        | (refine xr_do (v := ?_) (h' := ?_) (by exact rfl) ?_ ?_; rotate_left 2)
        | (refine xr_st (v := ?_) (h' := ?_) (by exact rfl) ?_ ?_; rotate_left 2)
        | (refine aw_ift (by decide) ?_ ?_
           · simp only [ev, put_some, reduceIte, Nat.reduceEqDiff, *])
        | (refine aw_iff (by decide) ?_ ?_
           · simp only [ev, put_some, reduceIte, Nat.reduceEqDiff, *])
        | (refine aw_if (b := ?_) (by decide) ?_ (fun hb => ?_) (fun hb => ?_)
           rotate_left 1
           · simp only [ev, put_some, reduceIte, Nat.reduceEqDiff, *]; rfl)
        | (refine r_ret (vs := ?_) ?_ ?_
           rotate_left 1
           · simp only [resV, ev, put_some, reduceIte, Nat.reduceEqDiff, Option.map_some, *]; rfl)
        | (with_reducible refine next_ok ?_ _ _ ?_
           rotate_left 1
           · assumption
           )
        | ((with_reducible refine HkTag.mk (n := 116) ?_); rintro _ _ ⟨rfl, hh⟩; replace hh := hh.symm; subst hh)
        )
      exact ⟨rfl, rfl⟩

theorem Cur.pick_v (c : Cur) (n : Int) : (c.pick n).2.v = c.v ∧ (c.pick n).2.code = c.code := by
  unfold Cur.pick
  split
  · exact ⟨rfl, rfl⟩
  · split <;> exact ⟨rfl, rfl⟩
theorem Cur.pick_pos (c : Cur) (n : Int) : (c.pick n).2.pos ≤ c.pos + 2 := by
  unfold Cur.pick
  split
  · simp only; omega
  · split <;> simp only [Cur.nx] <;> omega
theorem Cur.pick_ok {c : Cur} (h : c.ok) (hp : c.pos + 1 < 1000000000000) (n : Int) : (c.pick n).2.ok := by
  unfold Cur.pick
  split
  · exact h
  · split
    · exact Cur.nx_ok (Cur.nx_ok h (by omega)) (by simp only [Cur.nx]; omega)
    · exact Cur.nx_ok h (by omega)
theorem Cur.pick_range {c : Cur} (h : c.ok) (hp : c.pos + 1 < 1000000000000) (n : Int) : 0 ≤ (c.pick n).1 ∧ ((c.pick n).1 = 0 ∨ (c.pick n).1 < n) := by
  have h1 := Cur.get_range h
  have h2 := Cur.get_range (Cur.nx_ok h (by omega))
  unfold Cur.pick
  split
  · exact ⟨Int.le_refl _, .inl rfl⟩
  · rename_i q
    split
    · exact ⟨Int.tmod_nonneg _ (by omega), .inr (Int.tmod_lt_of_pos _ (by omega))⟩
    · exact ⟨Int.tmod_nonneg _ (by omega), .inr (Int.tmod_lt_of_pos _ (by omega))⟩

theorem Cur.pick_v1 (c : Cur) (n : Int) : (c.pick n).2.v = c.v := (Cur.pick_v c n).1
theorem Cur.pick_v2 (c : Cur) (n : Int) : (c.pick n).2.code = c.code := (Cur.pick_v c n).2
/-- A cursor that has read at most k numbers. -/
def Cur.bud (c : Cur) (k : Nat) : Prop := c.ok ∧ c.pos ≤ k
theorem Cur.pick_bud {c : Cur} {k : Nat} (h : c.bud k) (hk : k < 100000000000) (n : Int) : (c.pick n).2.bud (k + 2) :=
  ⟨Cur.pick_ok h.1 (by have := h.2; omega) n, Nat.le_trans (Cur.pick_pos c n) (by have := h.2; omega)⟩

/-- A cursor stands where its block is written anew. -/
theorem CurAt.set {h : Heap} {id : Nat} {c c' : Cur} (hc : CurAt h id c) (hv : c'.v = c.v) (hcd : c'.code = c.code) (hok : c'.ok) : CurAt (h.set id c'.blk) id c' :=
  ⟨by rw [List.getElem?_set_self (lt_of_get hc.1)], by rw [hv, hcd]; exact hc.2.1.set_ne hc.2.2.1 _, by rw [hv]; exact hc.2.2.1, hok⟩
theorem CurAt.old {h : Heap} {id : Nat} {c : Cur} (hc : CurAt h id c) (L : Heap) : CurAt (h ++ L) id c := ⟨get_old hc.1, hc.2.1.old L, hc.2.2⟩
/-- A cursor of which the block is in sight, its text in the memory ahead. -/
theorem CurAt.at {h L : Heap} {c : Cur} (hs : Sl h c.v 1 (bytesR c.code)) (hne : bid c.v ≠ some h.length) (hok : c.ok) : CurAt (h ++ c.blk :: L) h.length c :=
  ⟨by rw [get_at0]; rfl, hs.old _, hne, hok⟩

theorem one_ok (c : Cur) (n : Int) (id : Nat) (h : Heap) (hc : CurAt h id c) (hp : c.pos + 1 < 1000000000000) :
    ACalls Try.prog 0 82 #[.pointer (some ⟨id, 0, none⟩), .int .i64 n] h fun v h' => v = .bool (decide ((c.pick n).1 = 0)) ∧ h' = h.set id (c.pick n).2.blk := by
  refine acalls_fn Try.func82 rfl Try.ntmps82 (by simp) (by dsimp only [Try.f82]) ?_
  repeat' (first
    | ((with_reducible refine eq_go ?_); simp only [stp, ev, put_some, put_none, argT_list, List.getD_cons_zero, List.getD_cons_succ, reduceIte, Nat.reduceEqDiff, Option.map_some, Array.map_empty, List.map_toArray, List.map_cons, List.map_nil, List.append_toArray, Array.append_empty, Array.empty_append, List.nil_append, List.append_nil, and_self, if_true, decide_true, decide_false, Int.toNat_natCast, Int.natCast_nonneg, List.length_map, binV_add, binV_sub, binV_and, binV_shr, binV_shl, binV_str_eql, binV_str_neq, binV_mul, binV_eql, binV_neq, binV_lss, binV_leq, binV_gtr, binV_geq, unV_not, Bool.not_true, Bool.not_false, Bool.cond_true, Bool.cond_false, blt, lenV, List.size_toArray, List.length_cons, List.length_nil, Nat.zero_add, Array.getD_eq_getD_getElem?, List.getElem?_toArray, List.getElem?_cons_zero, List.getElem?_cons_succ, Option.getD_some, Option.isSome_some, Ty.sz3, Ty.zc3, Ty.by3, Ty.sz5, Ty.zc5, Ty.by5, Ty.sz37, Ty.sl37, Ty.zc37, Ty.by37, Ty.sz103, Ty.zc103, Ty.by103, Ty.sz104, Ty.zc104, Ty.by104, Ty.sz106, Ty.zc106, Ty.by106, *]; rfl)
    | (with_reducible refine aw_then ?_) | (with_reducible refine aw_skip ?_) | (with_reducible refine aw_ret ?_) | (with_reducible refine aw_exit ?_) | (with_reducible refine aw_block ?_) | (with_reducible refine xr_reg (by decide +kernel) ?_)
    | (with_reducible refine xr_nil ?_) | (with_reducible refine k_norm ?_) | (with_reducible refine k_ret ?_) | (with_reducible refine k_exit ?_) | (with_reducible refine b_norm ?_) | (with_reducible refine b_ret ?_) | (with_reducible refine b_exit ?_) | (with_reducible refine b_past (by decide) ?_)
    | (refine xr_cl (f := ?_) (fs := ?_) (cs := ?_) (args := ?_) (K := ?_) ?_ ?_ ?_ ?_ ?_
       rotate_left 5
       · simp only [ev]; rfl
       first
       | (· with_reducible exact Ty.ok81
          rotate_left 2
          refine hk_tag 81 ?_
          rotate_right 2)
       )
    | (refine xr_do (v := ?_) (h' := ?_) (by exact rfl) ?_ ?_; rotate_left 2)
    | (refine xr_st (v := ?_) (h' := ?_) (by exact rfl) ?_ ?_; rotate_left 2)
    | (refine aw_ift (by decide) ?_ ?_
       · simp only [ev, put_some, reduceIte, Nat.reduceEqDiff, *])
    | (refine aw_iff (by decide) ?_ ?_
       · simp only [ev, put_some, reduceIte, Nat.reduceEqDiff, *])
    | (refine aw_if (b := ?_) (by decide) ?_ (fun hb => ?_) (fun hb => ?_)
       rotate_left 1
       · simp only [ev, put_some, reduceIte, Nat.reduceEqDiff, *]; rfl)
    | (refine r_ret (vs := ?_) ?_ ?_
       rotate_left 1
       · simp only [resV, ev, put_some, reduceIte, Nat.reduceEqDiff, Option.map_some, *]; rfl)
    | (with_reducible refine pick_ok ?_ _ _ _ ?_ ?_
       rotate_left 1
       · assumption
       · first | omega | (simp only [List.length_nil]; omega)
       )
    | ((with_reducible refine HkTag.mk (n := 81) ?_); rintro _ _ ⟨rfl, hh⟩; replace hh := hh.symm; subst hh)
    )
  exact ⟨rfl, rfl⟩

theorem among_ok (c : Cur) (l : List Int) (vl : Value) (id : Nat) (h : Heap) (hc : CurAt h id c) (hp : c.pos + 1 < 1000000000000) (hs : Sl h vl 1 (ints l)) (hne : bid vl ≠ some id) (hl : 1 ≤ l.length) (hl2 : l.length ≤ 1000) :
    ACalls Try.prog 0 83 #[.pointer (some ⟨id, 0, none⟩), vl] h fun v h' => v = .int .i64 (l.getD (c.pick l.length).1.toNat 0) ∧ h' = h.set id (c.pick l.length).2.blk := by
  have hr := Cur.pick_range hc.2.2.2 hp l.length
  have hs' := hs.set_ne hne (c.pick l.length).2.blk
  obtain ⟨b, cp, rfl, hcp, hrow⟩ := hs'
  simp only [List.length_map] at hcp hs hne ⊢
  generalize hq : (c.pick l.length).1 = q at hr ⊢
  obtain ⟨k, rfl⟩ : ∃ k : Nat, q = k := ⟨q.toNat, by omega⟩
  have hk : k < l.length := by omega
  have h1 : (k : Int) < l.length := by omega
  obtain ⟨a, rfl, hld⟩ := Sl.row hrow (k := k) (by simpa using hk)
  rw [List.getElem_map] at hld
  have hg := getC_of_load hld
  rw [Nat.mul_one] at hg
  clear hs hrow
  refine acalls_fn Try.func83 rfl Try.ntmps83 (by simp) (by dsimp only [Try.f83]) ?_
  repeat' (first
    | ((with_reducible refine eq_go ?_); simp only [stp, ev, put_some, put_none, argT_list, List.getD_cons_zero, List.getD_cons_succ, reduceIte, Nat.reduceEqDiff, Option.map_some, Array.map_empty, List.map_toArray, List.map_cons, List.map_nil, List.append_toArray, Array.append_empty, Array.empty_append, List.nil_append, List.append_nil, and_self, if_true, decide_true, decide_false, Int.toNat_natCast, Int.natCast_nonneg, List.length_map, binV_add, binV_sub, binV_and, binV_shr, binV_shl, binV_str_eql, binV_str_neq, binV_mul, binV_eql, binV_neq, binV_lss, binV_leq, binV_gtr, binV_geq, unV_not, Bool.not_true, Bool.not_false, Bool.cond_true, Bool.cond_false, ldv, idxA, blt, lenV, List.size_toArray, List.length_cons, List.length_nil, Nat.zero_add, Array.getD_eq_getD_getElem?, List.getElem?_toArray, List.getElem?_cons_zero, List.getElem?_cons_succ, Option.getD_some, Option.isSome_some, Nat.add_assoc, List.toList_toArray, eq_self, Option.bind_some, List.append_assoc, List.cons_append, List.length_append, List.length_cons, List.length_nil, Nat.zero_add, Nat.add_zero, Nat.reduceAdd, Nat.reduceMul, Nat.reduceLeDiff, mset_some, mset_none, set_at, set_at0, killL_nil, killL_cons, getC_succ2, getC_succ3, getC_succ4, getC_succ5, getC_succ6, loadCs_succ2, loadCs_succ3, loadCs_succ4, loadCs_succ5, loadCs_succ6, setCs_succ2, setCs_succ3, setCs_succ4, setCs_succ5, setCs_succ6, getC_at, getC_at0, getC_zero, getC_succ, loadCs_at, loadCs_at0, loadCs_zero, loadCs_succ, setCs_at, setCs_at0, setCs_zero, setCs_succ, splice, List.set_cons_succ, List.set_cons_zero, List.getElem?_cons_zero, List.getElem?_cons_succ, List.drop_zero, List.drop_succ_cons, List.take_succ_cons, List.take_zero, newB, vcs, flat_int, flat_bool, flat_string, flat_slice, flat_pointer, flat_func, flat_nilFunc, List.all_cons, List.all_nil, Bool.and_true, Bool.and_self, Ty.ld3, Ty.sz3, Ty.zc3, Ty.by3, Ty.ld5, Ty.sz5, Ty.zc5, Ty.by5, Ty.ld24, Ty.sz24, Ty.sl24, Ty.zc24, Ty.by24, Ty.ld37, Ty.sz37, Ty.sl37, Ty.zc37, Ty.by37, Ty.ld103, Ty.sz103, Ty.zc103, Ty.by103, Ty.ld104, Ty.sz104, Ty.zc104, Ty.by104, Ty.ld106, Ty.sz106, Ty.zc106, Ty.by106, Nat.mul_one, *]; rfl)
    | (with_reducible refine aw_then ?_) | (with_reducible refine aw_skip ?_) | (with_reducible refine aw_ret ?_) | (with_reducible refine aw_exit ?_) | (with_reducible refine aw_block ?_) | (with_reducible refine xr_reg (by decide +kernel) ?_)
    | (with_reducible refine xr_nil ?_) | (with_reducible refine k_norm ?_) | (with_reducible refine k_ret ?_) | (with_reducible refine k_exit ?_) | (with_reducible refine b_norm ?_) | (with_reducible refine b_ret ?_) | (with_reducible refine b_exit ?_) | (with_reducible refine b_past (by decide) ?_)
    | (refine xr_cl (f := ?_) (fs := ?_) (cs := ?_) (args := ?_) (K := ?_) ?_ ?_ ?_ ?_ ?_
       rotate_left 5
       · simp only [ev]; rfl
       first
       | (· with_reducible exact Ty.ok81
          rotate_left 2
          refine hk_tag 81 ?_
          rotate_right 2)
       )
    | (refine xr_do (v := ?_) (h' := ?_) (by exact rfl) ?_ ?_; rotate_left 2)
    | (refine xr_st (v := ?_) (h' := ?_) (by exact rfl) ?_ ?_; rotate_left 2)
    | (refine aw_ift (by decide) ?_ ?_
       · simp only [ev, put_some, reduceIte, Nat.reduceEqDiff, *])
    | (refine aw_iff (by decide) ?_ ?_
       · simp only [ev, put_some, reduceIte, Nat.reduceEqDiff, *])
    | (refine aw_if (b := ?_) (by decide) ?_ (fun hb => ?_) (fun hb => ?_)
       rotate_left 1
       · simp only [ev, put_some, reduceIte, Nat.reduceEqDiff, *]; rfl)
    | (refine r_ret (vs := ?_) ?_ ?_
       rotate_left 1
       · simp only [resV, ev, put_some, reduceIte, Nat.reduceEqDiff, Option.map_some, *]; rfl)
    | (with_reducible refine pick_ok ?_ _ _ _ ?_ ?_
       rotate_left 1
       · assumption
       · first | omega | (simp only [List.length_nil]; omega)
       )
    | ((with_reducible refine HkTag.mk (n := 81) ?_); rintro _ _ ⟨rfl, hh⟩; replace hh := hh.symm; subst hh)
    )
  refine ⟨?_, rfl⟩
  simp only [oneOf, Int.toNat_natCast, List.getD_eq_getElem?_getD, List.getElem?_eq_getElem hk, Option.getD_some]
end Go.Proofs.Ytiddnhhjlipebaa.Am

