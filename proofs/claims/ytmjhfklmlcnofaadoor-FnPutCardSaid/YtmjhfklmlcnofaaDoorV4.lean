/- Walks of the reading of a draw: the next number, a number below a bound, a text of a list. Conditions: none. -/
import Derived.Test.YtmjhfklmlcnofaaDoorK3
import Derived.Test.YtmjhfklmlcnofaaDoorWk
import Derived.Test.YtmjhfklmlcnofaaDoorV3
namespace Go.Proofs.YtmjhfklmlcnofaaDoor.Am
open Go Go.Proofs
set_option linter.unusedVariables false
set_option linter.unusedSimpArgs false
set_option maxRecDepth 100000
set_option maxHeartbeats 8000000
/-- A cursor in a draw. -/
structure Cur where
  v : Value
  code : List Int
  pos : Nat
  seed : Int
def Cur.blk (c : Cur) : Blk := ⟨2, 1, [c.v, .int .i64 c.pos, .int .u64 c.seed]⟩
def bytesR (l : List Int) : List (List Value) := l.map fun n => [.int .u8 n]
def Cur.byte (c : Cur) : Int := if c.pos < c.code.length then c.code.getD c.pos 0 else 0
def Cur.sd (c : Cur) : Int := IntKind.u64.wrap (IntKind.u64.wrap (IntKind.u64.wrap (c.seed * 6364136223846793005) + c.byte) + 1442695040888963407)
def Cur.nx (c : Cur) : Cur := ⟨c.v, c.code, c.pos + 1, c.sd⟩
def Cur.get (c : Cur) : Int := if c.pos < c.code.length then c.byte else bits .and .u64 (c.sd.fdiv (2 ^ min (40 : Int).toNat IntKind.u64.bits)) 255
def Cur.ok (c : Cur) : Prop := c.pos ≤ 1000000000000 ∧ c.code.length ≤ 9223372036854775807 ∧ (∀ x ∈ c.code, 0 ≤ x ∧ x ≤ 255) ∧ 0 ≤ c.seed ∧ c.seed ≤ 18446744073709551615
def CurAt (h : Heap) (id : Nat) (c : Cur) : Prop := h[id]? = some c.blk ∧ Sl h c.v 1 (bytesR c.code) ∧ bid c.v ≠ some id ∧ c.ok
theorem Cur.byte_range {c : Cur} (h : c.ok) : 0 ≤ c.byte ∧ c.byte ≤ 255 := by
  unfold Cur.byte
  split
  · rename_i q
    rw [List.getD_eq_getElem?_getD, List.getElem?_eq_getElem q]
    exact h.2.2.1 _ (List.getElem_mem _)
  · omega
theorem u64_range (n : Int) : 0 ≤ IntKind.u64.wrap n ∧ IntKind.u64.wrap n ≤ 18446744073709551615 := by
  simp only [IntKind.wrap, IntKind.signed, IntKind.bits]; simp; omega
theorem and255 (a : Int) : 0 ≤ bits .and .u64 a 255 ∧ bits .and .u64 a 255 ≤ 255 := by
  have h : (BitVec.ofInt 64 a &&& BitVec.ofInt 64 255).toNat ≤ 255 := by
    rw [BitVec.toNat_and]; exact Nat.le_trans Nat.and_le_right (by decide)
  have e : bits .and .u64 a 255 = IntKind.u64.wrap ((BitVec.ofInt 64 a &&& BitVec.ofInt 64 255).toNat : Int) := rfl
  rw [e, wrap_u64_id (by omega)]; omega
theorem Cur.get_range {c : Cur} (h : c.ok) : 0 ≤ c.get ∧ c.get ≤ 255 := by
  unfold Cur.get
  split
  · exact Cur.byte_range h
  · exact and255 _
theorem Cur.nx_ok {c : Cur} (h : c.ok) (hp : c.pos < 1000000000000) : c.nx.ok := ⟨by simp only [Cur.nx]; omega, h.2.1, h.2.2.1, (u64_range _).1, (u64_range _).2⟩
theorem binV_shr40 {P : Program} {t : TypeId} {xo yo : Operand} (a : Int) : binV P .shr t xo yo (.int .u64 a) (.int .u64 40) = some (.int .u64 (a.fdiv (2 ^ min (40 : Int).toNat IntKind.u64.bits))) := binV_shr _ _ _ _ _ _ _ (by decide)
/-- The same, with the cursor's block in sight. -/
theorem next_at (c : Cur) (h L : Heap) (hs : Sl (h ++ c.blk :: L) c.v 1 (bytesR c.code)) (hc : c.ok) :
    ACalls Tryd.prog 0 58 #[.pointer (some ⟨h.length, 0, none⟩)] (h ++ c.blk :: L) fun v h' => v = .int .i64 c.get ∧ h' = h ++ c.nx.blk :: L := by
  have hbr := Cur.byte_range hc
  have hsd : c.sd = IntKind.u64.wrap (IntKind.u64.wrap (IntKind.u64.wrap (c.seed * 6364136223846793005) + c.byte) + 1442695040888963407) := rfl
  have hsr := u64_range (IntKind.u64.wrap (IntKind.u64.wrap (c.seed * 6364136223846793005) + c.byte) + 1442695040888963407)
  rw [← hsd] at hsr
  obtain ⟨hc1, hc2, hc3, hc4, hc5⟩ := hc
  have hf := hs.flat
  obtain ⟨vv, code, pos, seed⟩ := c
  simp only [Cur.blk, Cur.nx] at *
  generalize hsq : Cur.sd ⟨vv, code, pos, seed⟩ = sd at *
  obtain ⟨b, cp, hve, hcp, hrow⟩ := hs
  simp only [bytesR, Zv] at hve hcp hrow
  subst hve
  have hwp : IntKind.i64.wrap ((pos : Int) + 1) = ((pos + 1 : Nat) : Int) := by rw [wrap_id (by omega)]; omega
  rcases Nat.lt_or_ge pos code.length with hlt | hge
  · have h1 : (pos : Int) < code.length := by omega
    have h2 : ((pos + 1 : Nat) : Int) ≤ code.length := by omega
    obtain ⟨a, rfl, hld⟩ := hrow pos [.int .u8 code[pos]] (by rw [List.getElem?_map, List.getElem?_eq_getElem hlt]; rfl)
    have hg := getC_of_load hld
    have hby : Cur.byte ⟨.slice (some a) code.length cp, code, pos, seed⟩ = code[pos] := by simp [Cur.byte, hlt, List.getElem?_eq_getElem hlt]
    have hget : Cur.get ⟨.slice (some a) code.length cp, code, pos, seed⟩ = code[pos] := by simp only [Cur.get, if_pos hlt, hby]
    rw [hby] at hsd hbr
    rw [hget]
    have hwa : IntKind.i64.wrap code[pos] = code[pos] := wrap_id (by omega)
    have hwb : IntKind.u64.wrap code[pos] = code[pos] := wrap_u64_id (by omega)
    refine Z36 Tryd.func58 rfl Tryd.ntmps58 (by simp) (by dsimp only [Tryd.f58]) ?_
    repeat' (first | refine wS ?_ | refine wD ?_ | refine wT ?_ | refine wL ?_ | refine wB ?_ | refine wC ?_ | refine cw_if (fun hb => ?_) (fun hb => ?_) | refine wR ?_ | refine wV (ms := [0, 1, 3, 7, 0, 16, 48, 112, 240, 511]) ?_ | refine wV (ms := [0, 1, 3, 7, 0, 16, 48, 112, 255, 511, 1023, 2047]) ?_ | refine wX ?_)
    exact ⟨rfl, by rw [hsd]⟩
  · have h1 : ¬ (pos : Int) < code.length := by omega
    have h2 : ¬ ((pos + 1 : Nat) : Int) ≤ code.length := by omega
    have hby : Cur.byte ⟨.slice b code.length cp, code, pos, seed⟩ = 0 := by simp only [Cur.byte, if_neg (show ¬ pos < code.length by omega)]
    have hget : Cur.get ⟨.slice b code.length cp, code, pos, seed⟩ = bits .and .u64 (sd.fdiv (2 ^ min (40 : Int).toNat IntKind.u64.bits)) 255 := by
      rw [← hsq]; simp only [Cur.get, if_neg (show ¬ pos < code.length by omega)]
    rw [hby] at hsd
    have hr := and255 (sd.fdiv (2 ^ min (40 : Int).toNat IntKind.u64.bits))
    rw [hget]
    have hwb : IntKind.u64.wrap 0 = 0 := wrap_u64_id (by omega)
    have hsd2 := hsd.symm
    clear hsd
    generalize hX : bits .and .u64 (sd.fdiv (2 ^ min (40 : Int).toNat IntKind.u64.bits)) 255 = X at hr ⊢
    have hwa : IntKind.i64.wrap X = X := wrap_id (by omega)
    refine Z36 Tryd.func58 rfl Tryd.ntmps58 (by simp) (by dsimp only [Tryd.f58]) ?_
    have zq0 := @binV_shr40
    repeat' (first | refine wS ?_ | refine wD ?_ | refine wT ?_ | refine wL ?_ | refine wB ?_ | refine wC ?_ | refine cw_if (fun hb => ?_) (fun hb => ?_) | refine wR ?_ | refine wV (ms := [0, 1, 3, 7, 0, 16, 48, 112, 240, 511]) ?_ | refine wV (ms := [0, 1, 3, 7, 0, 16, 48, 112, 255, 511, 1023, 2047]) ?_ | refine wX ?_)
    exact ⟨rfl, rfl⟩
theorem Sl.set_ne {h : Heap} {v : Value} {e id : Nat} {rows : List (List Value)} (hs : Sl h v e rows) (hne : bid v ≠ some id) (b : Blk) : Sl (h.set id b) v e rows := by
  obtain ⟨bb, c, rfl, hc, hrow⟩ := hs
  refine ⟨bb, c, rfl, hc, fun i r hr => ?_⟩
  obtain ⟨a, rfl, hl⟩ := hrow i r hr
  refine ⟨a, rfl, ?_⟩
  have : id ≠ a.block := fun q => hne (by simp [bid, q])
  unfold loadCs at hl ⊢
  rw [List.getElem?_set_ne this]; exact hl
theorem next_ok (c : Cur) (id : Nat) (h : Heap) (hc : CurAt h id c) : ACalls Tryd.prog 0 58 #[.pointer (some ⟨id, 0, none⟩)] h fun v h' => v = .int .i64 c.get ∧ h' = h.set id c.nx.blk := by
  obtain ⟨hb, hs, hne, hok⟩ := hc
  have hlt := lt_of_get hb
  have e : h = h.take id ++ c.blk :: h.drop (id + 1) := by
    have := (List.getElem?_eq_some_iff.1 hb).2
    rw [← this, ← List.drop_eq_getElem_cons hlt, List.take_append_drop]
  have hl : (h.take id).length = id := by simp; omega
  have := next_at c (h.take id) (h.drop (id + 1)) (by rw [← e]; exact hs) hok
  rw [hl, ← e] at this
  refine this.mono fun v h' q => ⟨q.1, q.2.trans ?_⟩
  conv => rhs; rw [e]
  rw [List.set_append_right _ _ (by omega), hl, Nat.sub_self]; rfl
theorem CurAt.nx {h : Heap} {id : Nat} {c : Cur} (hc : CurAt h id c) (hp : c.pos < 1000000000000) : CurAt (h.set id c.nx.blk) id c.nx :=
  ⟨by rw [List.getElem?_set_self (lt_of_get hc.1)], hc.2.1.set_ne hc.2.2.1 _, hc.2.2.1, Cur.nx_ok hc.2.2.2 hp⟩
/-- A number below n. -/
def Cur.pick (c : Cur) (n : Int) : Int × Cur :=
  if n ≤ 1 then (0, c) else if 200 < n then ((c.get * 256 + c.nx.get).tmod n, c.nx.nx) else (c.get.tmod n, c.nx)
theorem pick_ok (c : Cur) (n : Int) (id : Nat) (h : Heap) (hc : CurAt h id c) (hp : c.pos + 1 < 1000000000000) :
    ACalls Tryd.prog 0 38 #[.pointer (some ⟨id, 0, none⟩), .int .i64 n] h fun v h' => v = .int .i64 (c.pick n).1 ∧ h' = h.set id (c.pick n).2.blk := by
  have hself : h.set id c.blk = h := set_self hc.1
  have hc1 := hc.nx (by omega)
  have hg0 := Cur.get_range hc.2.2.2
  have hg1 := Cur.get_range hc1.2.2.2
  have hw1 : IntKind.i64.wrap (c.get * 256) = c.get * 256 := wrap_id (by omega)
  have hw2 : IntKind.i64.wrap (c.get * 256 + c.nx.get) = c.get * 256 + c.nx.get := wrap_id (by omega)
  unfold Cur.pick
  by_cases h1 : n ≤ 1
  · simp only [if_pos h1, hself]
    refine Z36 Tryd.func38 rfl Tryd.ntmps38 (by simp) (by dsimp only [Tryd.f38]) ?_
    repeat' (first | refine wS ?_ | refine wD ?_ | refine wT ?_ | refine wL ?_ | refine wB ?_ | refine wC ?_ | refine cw_if (fun hb => ?_) (fun hb => ?_) | refine wR ?_ | (refine wK (K := ?_) ?_ ?_; rotate_left 1) | ((with_reducible refine next_ok ?_ _ _ ?_); rotate_left 1; (· assumption)) | refine hkp ?_)
    exact ⟨rfl, rfl⟩
  · have hn0 : n ≠ 0 := by omega
    have hrem : ∀ {P : Program} (t : TypeId) (xo yo : Operand) (a : Int), binV P .rem t xo yo (.int .i64 a) (.int .i64 n) = some (.int .i64 (a.tmod n)) := fun t xo yo a => binV_rem _ _ _ _ _ _ hn0
    by_cases h2 : 200 < n
    · simp only [if_neg h1, if_pos h2]
      refine Z36 Tryd.func38 rfl Tryd.ntmps38 (by simp) (by dsimp only [Tryd.f38]) ?_
      repeat' (first | refine wS ?_ | refine wD ?_ | refine wT ?_ | refine wL ?_ | refine wB ?_ | refine wC ?_ | refine cw_if (fun hb => ?_) (fun hb => ?_) | refine wR ?_ | (refine wK (K := ?_) ?_ ?_; rotate_left 1) | ((with_reducible refine next_ok ?_ _ _ ?_); rotate_left 1; (· assumption)) | refine hkp ?_)
      exact ⟨rfl, by rw [List.set_set]⟩
    · simp only [if_neg h1, if_neg h2]
      refine Z36 Tryd.func38 rfl Tryd.ntmps38 (by simp) (by dsimp only [Tryd.f38]) ?_
      repeat' (first | refine wS ?_ | refine wD ?_ | refine wT ?_ | refine wL ?_ | refine wB ?_ | refine wC ?_ | refine cw_if (fun hb => ?_) (fun hb => ?_) | refine wR ?_ | (refine wK (K := ?_) ?_ ?_; rotate_left 1) | ((with_reducible refine next_ok ?_ _ _ ?_); rotate_left 1; (· assumption)) | refine hkp ?_)
      exact ⟨rfl, rfl⟩
theorem Cur.pick_v (c : Cur) (n : Int) : (c.pick n).2.v = c.v ∧ (c.pick n).2.code = c.code := by
  unfold Cur.pick
  split
  · exact ⟨rfl, rfl⟩
  · split <;> exact ⟨rfl, rfl⟩
theorem Cur.pick_pos (c : Cur) (n : Int) : (c.pick n).2.pos ≤ c.pos + 2 := by
  unfold Cur.pick
  split
  · simp only; omega
  · split <;> simp only [Cur.nx] <;> omega
theorem Cur.pick_ok {c : Cur} (h : c.ok) (hp : c.pos + 1 < 1000000000000) (n : Int) : (c.pick n).2.ok := by
  unfold Cur.pick
  split
  · exact h
  · split
    · exact Cur.nx_ok (Cur.nx_ok h (by omega)) (by simp only [Cur.nx]; omega)
    · exact Cur.nx_ok h (by omega)
theorem Cur.pick_range {c : Cur} (h : c.ok) (hp : c.pos + 1 < 1000000000000) (n : Int) : 0 ≤ (c.pick n).1 ∧ ((c.pick n).1 = 0 ∨ (c.pick n).1 < n) := by
  have h1 := Cur.get_range h
  have h2 := Cur.get_range (Cur.nx_ok h (by omega))
  unfold Cur.pick
  split
  · exact ⟨Int.le_refl _, .inl rfl⟩
  · rename_i q
    split
    · exact ⟨Int.tmod_nonneg _ (by omega), .inr (Int.tmod_lt_of_pos _ (by omega))⟩
    · exact ⟨Int.tmod_nonneg _ (by omega), .inr (Int.tmod_lt_of_pos _ (by omega))⟩
theorem Cur.pick_v1 (c : Cur) (n : Int) : (c.pick n).2.v = c.v := (Cur.pick_v c n).1
theorem Cur.pick_v2 (c : Cur) (n : Int) : (c.pick n).2.code = c.code := (Cur.pick_v c n).2
/-- A cursor that has read at most k numbers. -/
def Cur.bud (c : Cur) (k : Nat) : Prop := c.ok ∧ c.pos ≤ k
theorem Cur.pick_bud {c : Cur} {k : Nat} (h : c.bud k) (hk : k < 100000000000) (n : Int) : (c.pick n).2.bud (k + 2) :=
  ⟨Cur.pick_ok h.1 (by have := h.2; omega) n, Nat.le_trans (Cur.pick_pos c n) (by have := h.2; omega)⟩
/-- A cursor stands where its block is written anew. -/
theorem CurAt.set {h : Heap} {id : Nat} {c c' : Cur} (hc : CurAt h id c) (hv : c'.v = c.v) (hcd : c'.code = c.code) (hok : c'.ok) : CurAt (h.set id c'.blk) id c' :=
  ⟨by rw [List.getElem?_set_self (lt_of_get hc.1)], by rw [hv, hcd]; exact hc.2.1.set_ne hc.2.2.1 _, by rw [hv]; exact hc.2.2.1, hok⟩
theorem CurAt.old {h : Heap} {id : Nat} {c : Cur} (hc : CurAt h id c) (L : Heap) : CurAt (h ++ L) id c := ⟨get_old hc.1, hc.2.1.old L, hc.2.2⟩
/-- A cursor of which the block is in sight, its text in the memory ahead. -/
theorem CurAt.at {h L : Heap} {c : Cur} (hs : Sl h c.v 1 (bytesR c.code)) (hne : bid c.v ≠ some h.length) (hok : c.ok) : CurAt (h ++ c.blk :: L) h.length c :=
  ⟨by rw [get_at0]; rfl, hs.old _, hne, hok⟩
theorem one_ok (c : Cur) (n : Int) (id : Nat) (h : Heap) (hc : CurAt h id c) (hp : c.pos + 1 < 1000000000000) :
    ACalls Tryd.prog 0 56 #[.pointer (some ⟨id, 0, none⟩), .int .i64 n] h fun v h' => v = .bool (decide ((c.pick n).1 = 0)) ∧ h' = h.set id (c.pick n).2.blk := by
  refine Z36 Tryd.func56 rfl Tryd.ntmps56 (by simp) (by dsimp only [Tryd.f56]) ?_
  repeat' (first | refine wS ?_ | refine wD ?_ | refine wT ?_ | refine wL ?_ | refine wB ?_ | refine wC ?_ | refine cw_if (fun hb => ?_) (fun hb => ?_) | refine wR ?_ | (refine wK (K := ?_) ?_ ?_; rotate_left 1) | ((with_reducible refine pick_ok ?_ _ _ _ ?_ ?_); rotate_left 1; (· assumption); (· exact pO)) | refine hkp ?_)
  exact ⟨rfl, rfl⟩
theorem among_ok (c : Cur) (l : List Int) (vl : Value) (id : Nat) (h : Heap) (hc : CurAt h id c) (hp : c.pos + 1 < 1000000000000) (hs : Sl h vl 1 (ints l)) (hne : bid vl ≠ some id) (hl : 1 ≤ l.length) (hl2 : l.length ≤ 1000) :
    ACalls Tryd.prog 0 47 #[.pointer (some ⟨id, 0, none⟩), vl] h fun v h' => v = .int .i64 (l.getD (c.pick l.length).1.toNat 0) ∧ h' = h.set id (c.pick l.length).2.blk := by
  have hr := Cur.pick_range hc.2.2.2 hp l.length
  have hs' := hs.set_ne hne (c.pick l.length).2.blk
  obtain ⟨b, cp, rfl, hcp, hrow⟩ := hs'
  simp only [ints, Zv] at hcp hs hne hrow ⊢
  generalize hq : (c.pick l.length).1 = q at hr ⊢
  obtain ⟨k, rfl⟩ : ∃ k : Nat, q = k := ⟨q.toNat, by omega⟩
  have hk : k < l.length := by omega
  have h1 : (k : Int) < l.length := by omega
  obtain ⟨a, rfl, hld⟩ := Sl.row hrow (k := k) (by simpa using hk)
  rw [List.getElem_map] at hld
  have hg := getC_of_load hld
  rw [Nat.mul_one] at hg
  clear hs hrow
  refine Z36 Tryd.func47 rfl Tryd.ntmps47 (by simp) (by dsimp only [Tryd.f47]) ?_
  have zq0 := @Nat.mul_one
  repeat' (first | refine wS ?_ | refine wD ?_ | refine wT ?_ | refine wL ?_ | refine wB ?_ | refine wC ?_ | refine cw_if (fun hb => ?_) (fun hb => ?_) | refine wR ?_ | (refine wK (K := ?_) ?_ ?_; rotate_left 1) | ((with_reducible refine pick_ok ?_ _ _ _ ?_ ?_); rotate_left 1; (· assumption); (· exact pO)) | refine hkp ?_)
  refine ⟨?_, rfl⟩
  simp only [oneOf, Zq, List.getD_eq_getElem?_getD, List.getElem?_eq_getElem hk, Z14]
theorem of_ok (c : Cur) (l : List ByteArray) (vl : Value) (id : Nat) (h : Heap) (hc : CurAt h id c) (hp : c.pos + 1 < 1000000000000) (hs : Sl h vl 1 (trs l)) (hne : bid vl ≠ some id) (hl : 1 ≤ l.length) (hl2 : l.length ≤ 1000) :
    ACalls Tryd.prog 0 61 #[.pointer (some ⟨id, 0, none⟩), vl] h fun v h' => v = .string (l.getD (c.pick l.length).1.toNat ByteArray.empty) ∧ h' = h.set id (c.pick l.length).2.blk := by
  have hr := Cur.pick_range hc.2.2.2 hp l.length
  have hs' := hs.set_ne hne (c.pick l.length).2.blk
  obtain ⟨b, cp, rfl, hcp, hrow⟩ := hs'
  simp only [trs, Zv] at hcp hs hne hrow ⊢
  generalize hq : (c.pick l.length).1 = q at hr ⊢
  obtain ⟨k, rfl⟩ : ∃ k : Nat, q = k := ⟨q.toNat, by omega⟩
  have hk : k < l.length := by omega
  have h1 : (k : Int) < l.length := by omega
  obtain ⟨a, rfl, hld⟩ := Sl.row hrow (k := k) (by simpa using hk)
  rw [List.getElem_map] at hld
  have hg := getC_of_load hld
  rw [Nat.mul_one] at hg
  clear hs hrow
  refine Z36 Tryd.func61 rfl Tryd.ntmps61 (by simp) (by dsimp only [Tryd.f61]) ?_
  have zq0 := @Nat.mul_one
  repeat' (first | refine wS ?_ | refine wD ?_ | refine wT ?_ | refine wL ?_ | refine wB ?_ | refine wC ?_ | refine cw_if (fun hb => ?_) (fun hb => ?_) | refine wR ?_ | (refine wK (K := ?_) ?_ ?_; rotate_left 1) | ((with_reducible refine pick_ok ?_ _ _ _ ?_ ?_); rotate_left 1; (· assumption); (· exact pO)) | refine hkp ?_)
  refine ⟨?_, rfl⟩
  simp only [oneOf, Zq, List.getD_eq_getElem?_getD, List.getElem?_eq_getElem hk, Z14]
end Go.Proofs.YtmjhfklmlcnofaaDoor.Am
namespace Go.Proofs.YtmjhfklmlcnofaaDoor.Am
open Go Go.Proofs
set_option linter.unusedVariables false
set_option linter.unusedSimpArgs false
set_option maxRecDepth 100000
set_option maxHeartbeats 8000000
theorem ba_ext {a b : ByteArray} (h : a.data.toList = b.data.toList) : a = b := by rw [← S_list a, ← S_list b, h]
theorem len_list (a : ByteArray) : a.data.toList.length = a.size := by rw [Array.length_toList]; rfl
theorem ext_pre (t : ByteArray) (m pos : Nat) (hm : m ≤ t.size) : (t.extract 0 m).extract pos (t.extract 0 m).size = t.extract pos m := by
  have hs : (t.extract 0 m).size = m := by rw [ByteArray.size_extract]; omega
  rw [hs]
  apply ba_ext
  rw [ext_list, ext_list, ext_list, Z19, List.take_take, Nat.min_self]
theorem ext_cut (t : ByteArray) (pos m a b : Nat) (hb : pos + b ≤ m) (hm : m ≤ t.size) : (t.extract pos m).extract a b = (t.extract pos t.size).extract a b := by
  apply ba_ext
  rw [ext_list, ext_list, ext_list, ext_list]
  congr 1
  have e : ∀ k, pos + b ≤ k → ((t.data.toList.take k).drop pos).take b = (t.data.toList.drop pos).take b := fun k hk => by
    rw [List.take_drop, List.take_take, Nat.min_eq_left (by omega), ← List.take_drop]
  rw [e m hb, e t.size (by omega)]
/-- A frame lies in the beginning of a text if it lies in the text and ends there. -/
theorem fit_pre (t : ByteArray) (m pos no n : Nat) (hm : m ≤ t.size) : fit ((t.extract 0 m).extract pos (t.extract 0 m).size) no n ↔ fit (t.extract pos t.size) no n ∧ pos + (8 + n) ≤ m := by
  rw [ext_pre t m pos hm]
  unfold fit
  have h1 : (t.extract pos m).size = m - pos := by rw [ByteArray.size_extract]; omega
  have h2 : (t.extract pos t.size).size = t.size - pos := by rw [ByteArray.size_extract]; omega
  rw [h1, h2]
  constructor
  · rintro ⟨a, b, c⟩
    rw [ext_cut t pos m 4 (4 + n) (by omega) hm, ext_cut t pos m 0 (8 + n) (by omega) hm] at c
    exact ⟨⟨a, by omega, c⟩, by omega⟩
  · rintro ⟨⟨a, b, c⟩, d⟩
    rw [ext_cut t pos m 4 (4 + n) (by omega) hm, ext_cut t pos m 0 (8 + n) (by omega) hm]
    exact ⟨a, by omega, c⟩
theorem rdF_acc (t : ByteArray) : ∀ (f pos : Nat) (acc : List ByteArray), acc <+: (rdF t f pos acc).1 ∧ pos ≤ (rdF t f pos acc).2
  | 0, pos, acc => ⟨List.prefix_refl _, Z4 _⟩
  | f + 1, pos, acc => by
      by_cases hf : ∃ n, fit (t.extract pos t.size) (acc.length + 1) n
      · obtain ⟨n, hf⟩ := hf
        rw [rdF_yes hf]
        have i := rdF_acc t f (pos + (8 + n)) (acc ++ [(t.extract pos t.size).extract 4 (4 + n)])
        exact ⟨List.IsPrefix.trans (List.prefix_append _ _) i.1, by have := i.2; omega⟩
      · rw [rdF_no fun n q => hf ⟨n, q⟩]
        exact ⟨List.prefix_refl _, Z4 _⟩
/-- The frames of the beginning are the first ones. -/
theorem rdF_pre (t : ByteArray) (m : Nat) (hm : m ≤ t.size) : ∀ (f pos : Nat) (acc : List ByteArray),
    (rdF (t.extract 0 m) f pos acc).1 <+: (rdF t f pos acc).1 ∧ ((rdF t f pos acc).2 ≤ m → rdF (t.extract 0 m) f pos acc = rdF t f pos acc)
  | 0, pos, acc => ⟨List.prefix_refl _, fun _ => rfl⟩
  | f + 1, pos, acc => by
      by_cases hf : ∃ n, fit (t.extract pos t.size) (acc.length + 1) n
      · obtain ⟨n, hf⟩ := hf
        by_cases hp : pos + (8 + n) ≤ m
        · have hf' := (fit_pre t m pos (acc.length + 1) n hm).2 ⟨hf, hp⟩
          rw [rdF_yes hf, rdF_yes hf', ext_pre t m pos hm, ext_cut t pos m 4 (4 + n) (by omega) hm]
          exact rdF_pre t m hm f (pos + (8 + n)) (acc ++ [(t.extract pos t.size).extract 4 (4 + n)])
        · have hno : ∀ n', ¬ fit ((t.extract 0 m).extract pos (t.extract 0 m).size) (acc.length + 1) n' := fun n' q => by
            have := (fit_pre t m pos (acc.length + 1) n' hm).1 q
            have e := fit_unique hf this.1
            subst e
            exact hp this.2
          rw [rdF_no hno, rdF_yes hf]
          have i := rdF_acc t f (pos + (8 + n)) (acc ++ [(t.extract pos t.size).extract 4 (4 + n)])
          exact ⟨List.IsPrefix.trans (List.prefix_append _ _) i.1, fun q => absurd i.2 (by omega)⟩
      · have hno : ∀ n', ¬ fit ((t.extract 0 m).extract pos (t.extract 0 m).size) (acc.length + 1) n' := fun n' q => hf ⟨n', ((fit_pre t m pos (acc.length + 1) n' hm).1 q).1⟩
        rw [rdF_no fun n q => hf ⟨n, q⟩, rdF_no hno]
        exact ⟨List.prefix_refl _, fun _ => rfl⟩
/-- Behind a beginning that is frames to its end the reading goes on. -/
theorem rdF_on (t : ByteArray) (m : Nat) (hm : m ≤ t.size) : ∀ (f pos : Nat) (acc : List ByteArray), pos ≤ m → (rdF (t.extract 0 m) f pos acc).2 = m → (rdF (t.extract 0 m) f pos acc).1.length < acc.length + f →
    ∃ f', f' = acc.length + f - (rdF (t.extract 0 m) f pos acc).1.length ∧ rdF t f pos acc = rdF t f' m (rdF (t.extract 0 m) f pos acc).1
  | 0, pos, acc, hp, h, h2 => by simp only [rdF] at h2; omega
  | f + 1, pos, acc, hp, h, h2 => by
      by_cases hf : ∃ n, fit ((t.extract 0 m).extract pos (t.extract 0 m).size) (acc.length + 1) n
      · obtain ⟨n, hf'⟩ := hf
        have hf := (fit_pre t m pos (acc.length + 1) n hm).1 hf'
        rw [rdF_yes hf'] at h h2 ⊢
        rw [rdF_yes hf.1]
        rw [ext_pre t m pos hm, ext_cut t pos m 4 (4 + n) (by omega) hm] at h h2 ⊢
        have i := rdF_on t m hm f (pos + (8 + n)) (acc ++ [(t.extract pos t.size).extract 4 (4 + n)]) hf.2 h (by rw [Z6]; simp only [Z3, Z2]; omega)
        rw [Z6] at i
        simp only [Z3, Z2] at i
        obtain ⟨f', e1, e2⟩ := i
        exact ⟨f', by omega, e2⟩
      · rw [rdF_no fun n q => hf ⟨n, q⟩] at h h2 ⊢
        simp only at h h2 ⊢
        subst h
        exact ⟨f + 1, by omega, rfl⟩
/-- One frame more at the end. -/
theorem rdF_app (u x : ByteArray) (hx : x.size ≤ 60) (hu : (rdF u 99 0 []).2 = u.size) (hl : (rdF u 99 0 []).1.length < 99) :
    rdF (u ++ frameT ((rdF u 99 0 []).1.length + 1) x) 99 0 [] = ((rdF u 99 0 []).1 ++ [x], u.size + (8 + x.size)) := by
  generalize hno : (rdF u 99 0 []).1.length + 1 = no
  have hfs := frameT_size no x
  have hts : (u ++ frameT no x).size = u.size + (x.size + 8) := by rw [ByteArray.size_append, hfs]
  have hpre : (u ++ frameT no x).extract 0 u.size = u := by
    apply ba_ext
    rw [ext_list, Z19, ByteArray.data_append, Array.toList_append, List.take_append_of_le_length (Nat.le_of_eq (len_list _).symm), List.take_of_length_le (Nat.le_of_eq (len_list _))]
  have hsuf : (u ++ frameT no x).extract u.size (u ++ frameT no x).size = frameT no x := by
    apply ba_ext
    rw [ext_list, List.take_of_length_le (Nat.le_of_eq (len_list _)), ByteArray.data_append, Array.toList_append]
    exact List.drop_left' (len_list _)
  obtain ⟨f', e1, e2⟩ := rdF_on (u ++ frameT no x) u.size (by omega) 99 0 [] (Nat.zero_le _) (by rw [hpre]; exact hu) (by rw [hpre]; simpa using hl)
  rw [hpre] at e1 e2
  rw [e2]
  simp only [Z2, Zf] at e1
  obtain ⟨g, rfl⟩ : ∃ g, f' = g + 1 := ⟨f' - 1, by omega⟩
  have hx4 : (frameT no x).extract 4 (4 + x.size) = x := by
    apply ba_ext
    rw [ext_list]
    have : (frameT no x).data.toList = digL no 2 ++ (digL x.size 2 ++ (x.data.toList ++ digL (sm (headT no x) (headT no x).size % 9973).toNat 4)) := by
      simp [frameT, headT, S, ByteArray.data_append, Z7]
    rw [this, ← Z7 (digL no 2), ← Z7 (digL no 2 ++ digL x.size 2)]
    rw [List.take_append_of_le_length (by simp only [Z6, digL_len, len_list]; omega), List.take_of_length_le (by simp only [Z6, digL_len, len_list]; omega)]
    exact List.drop_left' (by simp [digL_len])
  have hfit : fit ((u ++ frameT no x).extract u.size (u ++ frameT no x).size) ((rdF u 99 0 []).1.length + 1) x.size := by
    rw [hsuf, hno]
    refine ⟨hx, by omega, ?_⟩
    rw [hx4]
    apply ba_ext
    rw [ext_list, Z19, List.take_of_length_le (by rw [len_list]; omega)]
  rw [rdF_yes hfit, hsuf, hx4]
  have hend : ∀ n, ¬ fit ((u ++ frameT no x).extract (u.size + (8 + x.size)) (u ++ frameT no x).size) (((rdF u 99 0 []).1 ++ [x]).length + 1) n := fun n q => by
    have := q.2.1
    rw [ByteArray.size_extract] at this
    omega
  cases g with
  | zero => rfl
  | succ g => rw [rdF_no hend]
theorem prefix_take {α : Type} {a b : List α} (h : a <+: b) : b.take a.length = a ∧ a.length ≤ b.length := by
  obtain ⟨c, rfl⟩ := h
  exact ⟨by simp, by simp⟩
end Go.Proofs.YtmjhfklmlcnofaaDoor.Am
namespace Go.Proofs.YtmjhfklmlcnofaaDoor.Am
open Go Go.Proofs
set_option linter.unusedVariables false
set_option linter.unusedSimpArgs false
set_option maxRecDepth 100000
set_option maxHeartbeats 8000000
/-- A cursor whose text lies in the memory h, that has read k numbers at most. -/
def CS (h : Heap) (c : Cur) (k : Nat) : Prop := Sl h c.v 1 (bytesR c.code) ∧ bid c.v ≠ some h.length ∧ c.bud k
theorem CS.at {h L : Heap} {c : Cur} {k : Nat} (hc : CS h c k) : CurAt (h ++ c.blk :: L) h.length c := CurAt.at hc.1 hc.2.1 hc.2.2.1
theorem CS.pick {h : Heap} {c : Cur} {k : Nat} (hc : CS h c k) (hk : k < 1000000) (n : Int) : CS h (c.pick n).2 (k + 2) := ⟨by rw [Cur.pick_v1, Cur.pick_v2]; exact hc.1, by rw [Cur.pick_v1]; exact hc.2.1, Cur.pick_bud hc.2.2 (by omega) n⟩
theorem CS.mono {h : Heap} {c : Cur} {k m : Nat} (hc : CS h c k) (hm : k ≤ m) : CS h c m := ⟨hc.1, hc.2.1, hc.2.2.1, Nat.le_trans hc.2.2.2 hm⟩
theorem CS.range {h : Heap} {c : Cur} {k : Nat} (hc : CS h c k) (hk : k < 1000000) (n : Int) : 0 ≤ (c.pick n).1 ∧ ((c.pick n).1 = 0 ∨ (c.pick n).1 < n) := Cur.pick_range hc.2.2.1 (by have := hc.2.2.2; omega) n
theorem set0_blk (h L : Heap) (b b' : Blk) : (h ++ b :: L).set h.length b' = h ++ b' :: L := by rw [set_at0]; rfl
/-- The picks, told exactly; c: the memory written out, s: a block set. -/
theorem pick_s (c : Cur) (n : Int) (k : Nat) (h L : Heap) (hc : CS h c k) (hk : k < 1000000) :
    ACalls Tryd.prog dE 38 #[.pointer (some ⟨h.length, 0, none⟩), .int .i64 n] (h ++ c.blk :: L) fun v h' => v = .int .i64 (c.pick n).1 ∧ h' = (h ++ c.blk :: L).set h.length (c.pick n).2.blk :=
  up0E (pick_ok c n h.length (h ++ c.blk :: L) hc.at (by have := hc.2.2.2; omega))
theorem pick_c (c : Cur) (n : Int) (k : Nat) (h L : Heap) (hc : CS h c k) (hk : k < 1000000) :
    ACalls Tryd.prog dE 38 #[.pointer (some ⟨h.length, 0, none⟩), .int .i64 n] (h ++ c.blk :: L) fun v h' => v = .int .i64 (c.pick n).1 ∧ h' = h ++ (c.pick n).2.blk :: L :=
  (pick_s c n k h L hc hk).mono fun v h' q => ⟨q.1, by rw [q.2, set0_blk]⟩
theorem one_c (c : Cur) (n : Int) (k : Nat) (h L : Heap) (hc : CS h c k) (hk : k < 1000000) :
    ACalls Tryd.prog dE 56 #[.pointer (some ⟨h.length, 0, none⟩), .int .i64 n] (h ++ c.blk :: L) fun v h' => v = .bool (decide ((c.pick n).1 = 0)) ∧ h' = h ++ (c.pick n).2.blk :: L :=
  (up0E (one_ok c n h.length (h ++ c.blk :: L) hc.at (by have := hc.2.2.2; omega))).mono fun v h' q => ⟨q.1, by rw [q.2, set0_blk]⟩
theorem among_c (c : Cur) (l : List Int) (vl : Value) (k : Nat) (h L : Heap) (hc : CS h c k) (hk : k < 1000000) (hs : Sl (h ++ c.blk :: L) vl 1 (ints l)) (hne : bid vl ≠ some h.length) (hl : 1 ≤ l.length) (hl2 : l.length ≤ 1000) :
    ACalls Tryd.prog dE 47 #[.pointer (some ⟨h.length, 0, none⟩), vl] (h ++ c.blk :: L) fun v h' => v = .int .i64 (l.getD (c.pick l.length).1.toNat 0) ∧ h' = h ++ (c.pick l.length).2.blk :: L :=
  (up0E (among_ok c l vl h.length (h ++ c.blk :: L) hc.at (by have := hc.2.2.2; omega) hs hne hl hl2)).mono fun v h' q => ⟨q.1, by rw [q.2, set0_blk]⟩
theorem of_c (c : Cur) (l : List ByteArray) (vl : Value) (k : Nat) (h L : Heap) (hc : CS h c k) (hk : k < 1000000) (hs : Sl (h ++ c.blk :: L) vl 1 (trs l)) (hne : bid vl ≠ some h.length) (hl : 1 ≤ l.length) (hl2 : l.length ≤ 1000) :
    ACalls Tryd.prog dE 61 #[.pointer (some ⟨h.length, 0, none⟩), vl] (h ++ c.blk :: L) fun v h' => v = .string (l.getD (c.pick l.length).1.toNat ByteArray.empty) ∧ h' = h ++ (c.pick l.length).2.blk :: L :=
  (up0E (of_ok c l vl h.length (h ++ c.blk :: L) hc.at (by have := hc.2.2.2; omega) hs hne hl hl2)).mono fun v h' q => ⟨q.1, by rw [q.2, set0_blk]⟩
/-- Behind a call that has drawn, what it has made is forgotten. -/
theorem forget_s {f : FuncId} {args : Array Value} {h L : Heap} {c c' : Cur} (v0 : Value) (haf : af v0 = true) (hv : c'.v = c.v)
    (ha : ACalls Tryd.prog dE f args (h ++ c.blk :: L) fun v h' => v = v0 ∧ ∃ e, h' = h ++ c'.blk :: (L ++ e)) :
    ACalls Tryd.prog dE f args (h ++ c.blk :: L) fun v h' => v = v0 ∧ h' = (h ++ c.blk :: L).set h.length c'.blk := by
  refine acalls_forget v0 _ (.inl haf) (by simp) (fun id b hb hk x hx => ?_) (ha.mono fun v h' q => ⟨q.1, q.2.imp fun e he => by rw [he, set0_blk]; simp⟩)
  rw [set0_blk] at hb
  by_cases hi : id = h.length
  · subst hi
    simp at hb
    subst hb
    simp only [Cur.blk, List.mem_cons, Z38, or_false] at hx
    rcases hx with rfl | rfl | rfl
    · exact .inr ⟨c.blk, by simp, .inr rfl, by rw [hv]; simp [Cur.blk]⟩
    · exact .inl rfl
    · exact .inl rfl
  · refine .inr ⟨b, ?_, hk, hx⟩
    have : (h ++ c.blk :: L)[id]? = ((h ++ c.blk :: L).set h.length c'.blk)[id]? := by rw [List.getElem?_set_ne (fun q => hi q.symm)]
    rw [this, set0_blk]; exact hb
def T5 : List ByteArray := [⟨#[]⟩, ⟨#[97]⟩, ⟨#[48, 49, 48, 50]⟩, ⟨#[115, 111, 109, 101, 32, 119, 111, 114, 107]⟩, ⟨#[108, 97, 117, 110, 99, 104, 32, 49]⟩]
def zT (n : Nat) : ByteArray := bstr (List.replicate n 0)
/-- A drawn text. -/
def Cur.text (c : Cur) : ByteArray × Cur :=
  if ((c.pick 5).2.pick 20).1 = 0 then (zT (([60, 61] : List Int).getD (((c.pick 5).2.pick 20).2.pick 2).1.toNat 0).toNat, (((c.pick 5).2.pick 20).2.pick 2).2)
  else (T5.getD (c.pick 5).1.toNat ByteArray.empty, ((c.pick 5).2.pick 20).2)
theorem T5_size : ∀ s ∈ T5, s.size ≤ 9 := by decide
theorem zT_size : (zT 60).size = 60 ∧ (zT 61).size = 61 ∧ (zT 0).size = 0 := by decide +kernel
theorem Cur.text_size (c : Cur) : c.text.1.size ≤ 61 := by
  unfold Cur.text
  split
  · simp only
    generalize (((c.pick 5).2.pick 20).2.pick 2).1.toNat = n
    match n with
    | 0 => have := zT_size.1; simp only [Zk]; exact Nat.le_trans (Nat.le_of_eq this) (by omega)
    | 1 => have := zT_size.2.1; simp only [Zl, Zk]; exact Nat.le_of_eq this
    | n + 2 => simp only [Zl, List.getD_nil]; exact Nat.le_trans (Nat.le_of_eq zT_size.2.2) (by omega)
  · simp only
    rw [List.getD_eq_getElem?_getD]
    cases h : T5[(c.pick 5).1.toNat]? with
    | none => simp
    | some s => exact Nat.le_trans (T5_size s (List.mem_of_getElem? h)) (by omega)
theorem Cur.text_v (c : Cur) : c.text.2.v = c.v := by
  unfold Cur.text
  split <;> simp only [Cur.pick_v1]
theorem CS.text {h : Heap} {c : Cur} {k : Nat} (hc : CS h c k) (hk : k < 900000) : CS h c.text.2 (k + 6) := by
  unfold Cur.text
  split
  · exact ((hc.pick (by omega) 5).pick (by omega) 20).pick (by omega) 2
  · exact ((hc.pick (by omega) 5).pick (by omega) 20).mono (by omega)
theorem of5 (c : Cur) (vl : Value) (k : Nat) (h L : Heap) (hc : CS h c k) (hk : k < 1000000) (hs : Sl (h ++ c.blk :: L) vl 1 (trs T5)) (hne : bid vl ≠ some h.length) :
    ACalls Tryd.prog dE 61 #[.pointer (some ⟨h.length, 0, none⟩), vl] (h ++ c.blk :: L) fun v h' => v = .string (T5.getD (c.pick 5).1.toNat ByteArray.empty) ∧ h' = h ++ (c.pick 5).2.blk :: L :=
  of_c c T5 vl k h L hc hk hs hne (by decide) (by decide)
theorem among60 (c : Cur) (vl : Value) (k : Nat) (h L : Heap) (hc : CS h c k) (hk : k < 1000000) (hs : Sl (h ++ c.blk :: L) vl 1 (ints [60, 61])) (hne : bid vl ≠ some h.length) :
    ACalls Tryd.prog dE 47 #[.pointer (some ⟨h.length, 0, none⟩), vl] (h ++ c.blk :: L) fun v h' => v = .int .i64 (([60, 61] : List Int).getD (c.pick 2).1.toNat 0) ∧ h' = h ++ (c.pick 2).2.blk :: L :=
  among_c c [60, 61] vl k h L hc hk hs hne (by decide) (by decide)
theorem text_s (c : Cur) (k : Nat) (h L : Heap) (hc : CS h c k) (hk : k < 900000) :
    ACalls Tryd.prog dE 45 #[.pointer (some ⟨h.length, 0, none⟩)] (h ++ c.blk :: L) fun v h' => v = .string c.text.1 ∧ h' = (h ++ c.blk :: L).set h.length c.text.2.blk := by
  refine forget_s _ rfl c.text_v ?_
  have c1 := hc.pick (by omega) 5
  have c2 := c1.pick (by omega) 20
  have c3 := c2.pick (by omega) 2
  have hb5 : ∀ H : Heap, bsl Tryd.prog 31 H 5 [(0, .string ⟨#[]⟩), (1, .string ⟨#[97]⟩), (2, .string ⟨#[48, 49, 48, 50]⟩), (3, .string ⟨#[115, 111, 109, 101, 32, 119, 111, 114, 107]⟩), (4, .string ⟨#[108, 97, 117, 110, 99, 104, 32, 49]⟩)] = some (.slice (some ⟨H.length, 0, none⟩) 5 5, H ++ [⟨2, 1, txs T5⟩]) := fun H => by
    simp [bsl, Ty.sl31, Ty.zc9, fillL, newS, zeros, vcs, splice, Z1x, txs, T5]
  have hb2 : ∀ H : Heap, bsl Tryd.prog 69 H 2 [(0, .int .i64 60), (1, .int .i64 61)] = some (.slice (some ⟨H.length, 0, none⟩) 2 2, H ++ [⟨2, 1, (ints [60, 61]).flatten⟩]) := fun H => by
    simp [bsl, Ty.sl69, Ty.zc3, fillL, newS, zeros, vcs, splice, Z30, ints]
  have hs5 : ∀ b : Blk, Sl (h ++ b :: (L ++ [⟨2, 1, txs T5⟩])) (.slice (some ⟨h.length + (L.length + 1), 0, none⟩) 5 5) 1 (trs T5) := fun b =>
    Tx.slk (k := L.length + 1) (l := T5) (Z4 _) (by rw [Z0, List.getElem?_append_right (Z4 _), Nat.sub_self]; rfl)
  have hs2 : ∀ b : Blk, Sl (h ++ b :: (L ++ [⟨2, 1, txs T5⟩, ⟨2, 1, (ints [60, 61]).flatten⟩])) (.slice (some ⟨h.length + (L.length + 2), 0, none⟩) 2 2) 1 (ints [60, 61]) := fun b =>
    sl_at (k := L.length + 2) (rows := ints [60, 61]) (by rw [show L.length + 2 = (L.length + 1) + 1 from rfl, Z0, get_at]; rfl) (ints_len _) rfl (Z4 _)
  unfold Cur.text
  have hr2 := c2.range (by omega) 2
  by_cases h1 : ((c.pick 5).2.pick 20).1 = 0
  · have hd : decide (((c.pick 5).2.pick 20).1 = 0) = true := decide_eq_true h1
    simp only [if_pos h1]
    clear h1
    have hn : (([60, 61] : List Int).getD (((c.pick 5).2.pick 20).2.pick 2).1.toNat 0 = 60 ∨ ([60, 61] : List Int).getD (((c.pick 5).2.pick 20).2.pick 2).1.toNat 0 = 61) := by
      rcases (show (((c.pick 5).2.pick 20).2.pick 2).1 = 0 ∨ (((c.pick 5).2.pick 20).2.pick 2).1 = 1 by omega) with q | q <;> rw [q]
      · exact .inl rfl
      · exact .inr rfl
    rcases hn with hn | hn
    · have hmk : ∀ H : Heap, mkS Tryd.prog 22 H (.int .i64 60) (.int .i64 60) = _ := fun H => mkS_eq (k := .i64) Ty.sl22 Ty.zc5 Ty.by5 (n := 60) (by omega) (by omega)
      have z1 : (zeros [Value.int .u8 0] 60).length = 60 := by decide +kernel
      have z2 : (zeros [Value.int .u8 0] 60).take 60 = zeros [Value.int .u8 0] 60 := by rw [List.take_of_length_le (by rw [z1]; omega)]
      have z3 : byteL (zeros [Value.int .u8 0] 60) = some (List.replicate 60 0) := by decide +kernel
      simp only [hn]
      refine Z36 Tryd.func45 rfl Tryd.ntmps45 (by simp) (by dsimp only [Tryd.f45]) ?_
      repeat' (first | refine wS ?_ | refine wD ?_ | refine wT ?_ | refine wL ?_ | refine wB ?_ | refine wC ?_ | refine cw_if (fun hb => ?_) (fun hb => ?_) | refine wR ?_ | (refine wK (K := ?_) ?_ ?_; rotate_left 1) | ((with_reducible refine among60 _ _ ?_ _ _ ?_ ?_ ?_ ?_); rotate_left 1; (· assumption); (· exact pO); (· exact hs2 _); (· (simp [bid]; done))) | ((with_reducible refine one_c _ _ ?_ _ _ ?_ ?_); rotate_left 1; (· assumption); (· exact pO)) | ((with_reducible refine of5 _ _ ?_ _ _ ?_ ?_ ?_ ?_); rotate_left 1; (· assumption); (· exact pO); (· exact hs5 _); (· (simp [bid]; done))) | refine hkp ?_)
      exact ⟨rfl, _, rfl⟩
    · have hmk : ∀ H : Heap, mkS Tryd.prog 22 H (.int .i64 61) (.int .i64 61) = _ := fun H => mkS_eq (k := .i64) Ty.sl22 Ty.zc5 Ty.by5 (n := 61) (by omega) (by omega)
      have z1 : (zeros [Value.int .u8 0] 61).length = 61 := by decide +kernel
      have z2 : (zeros [Value.int .u8 0] 61).take 61 = zeros [Value.int .u8 0] 61 := by rw [List.take_of_length_le (by rw [z1]; omega)]
      have z3 : byteL (zeros [Value.int .u8 0] 61) = some (List.replicate 61 0) := by decide +kernel
      simp only [hn]
      refine Z36 Tryd.func45 rfl Tryd.ntmps45 (by simp) (by dsimp only [Tryd.f45]) ?_
      repeat' (first | refine wS ?_ | refine wD ?_ | refine wT ?_ | refine wL ?_ | refine wB ?_ | refine wC ?_ | refine cw_if (fun hb => ?_) (fun hb => ?_) | refine wR ?_ | (refine wK (K := ?_) ?_ ?_; rotate_left 1) | ((with_reducible refine among60 _ _ ?_ _ _ ?_ ?_ ?_ ?_); rotate_left 1; (· assumption); (· exact pO); (· exact hs2 _); (· (simp [bid]; done))) | ((with_reducible refine one_c _ _ ?_ _ _ ?_ ?_); rotate_left 1; (· assumption); (· exact pO)) | ((with_reducible refine of5 _ _ ?_ _ _ ?_ ?_ ?_ ?_); rotate_left 1; (· assumption); (· exact pO); (· exact hs5 _); (· (simp [bid]; done))) | refine hkp ?_)
      exact ⟨rfl, _, rfl⟩
  · have hd : decide (((c.pick 5).2.pick 20).1 = 0) = false := decide_eq_false h1
    simp only [if_neg h1]
    clear h1
    refine Z36 Tryd.func45 rfl Tryd.ntmps45 (by simp) (by dsimp only [Tryd.f45]) ?_
    repeat' (first | refine wS ?_ | refine wD ?_ | refine wT ?_ | refine wL ?_ | refine wB ?_ | refine wC ?_ | refine cw_if (fun hb => ?_) (fun hb => ?_) | refine wR ?_ | (refine wK (K := ?_) ?_ ?_; rotate_left 1) | ((with_reducible refine among60 _ _ ?_ _ _ ?_ ?_ ?_ ?_); rotate_left 1; (· assumption); (· exact pO); (· exact hs2 _); (· (simp [bid]; done))) | ((with_reducible refine one_c _ _ ?_ _ _ ?_ ?_); rotate_left 1; (· assumption); (· exact pO)) | ((with_reducible refine of5 _ _ ?_ _ _ ?_ ?_ ?_ ?_); rotate_left 1; (· assumption); (· exact pO); (· exact hs5 _); (· (simp [bid]; done))) | refine hkp ?_)
    exact ⟨rfl, _, rfl⟩
end Go.Proofs.YtmjhfklmlcnofaaDoor.Am
namespace Go.Proofs.YtmjhfklmlcnofaaDoor.Am
open Go Go.Proofs
set_option linter.unusedVariables false
set_option linter.unusedSimpArgs false
set_option maxRecDepth 100000
set_option maxHeartbeats 8000000
def newS1 (room : Int) : Store := ⟨room, ByteArray.empty, ByteArray.empty⟩
def newV (room : Int) : Value := if decide (0 ≤ room ∧ room ≤ 4000) = true then .tuple #[.agg (newS1 room).cells.toArray, .bool true] else .tuple #[.agg Store.zero.cells.toArray, .bool false]
def syncS (s : Store) : Store := ⟨s.room, s.sure ++ s.later, ByteArray.empty⟩
def syncV (s : Store) : Value := if storeOk s = true then .tuple #[.agg (syncS s).cells.toArray, .bool true] else .tuple #[.agg Store.zero.cells.toArray, .bool false]
def crashOk (s : Store) (keep : Int) : Bool := storeOk s && decide (0 ≤ keep ∧ keep ≤ s.later.size)
def crashS (s : Store) (keep : Int) : Store := ⟨s.room, s.sure ++ s.later.extract 0 keep.toNat, ByteArray.empty⟩
def crashV (s : Store) (keep : Int) : Value := if crashOk s keep = true then .tuple #[.agg (crashS s keep).cells.toArray, .bool true] else .tuple #[.agg Store.zero.cells.toArray, .bool false]
theorem newV_af (room : Int) : ∃ vs : Array Value, newV room = .tuple vs ∧ ∀ v, v ∈ vs → af v = true := by
  unfold newV; split <;> exact ⟨_, rfl, by simp [af, af1, Store.cells, Store.zero, newS1]⟩
theorem syncV_af (s : Store) : ∃ vs : Array Value, syncV s = .tuple vs ∧ ∀ v, v ∈ vs → af v = true := by
  unfold syncV; split <;> exact ⟨_, rfl, by simp [af, af1, Store.cells, Store.zero, syncS]⟩
theorem crashV_af (s : Store) (keep : Int) : ∃ vs : Array Value, crashV s keep = .tuple vs ∧ ∀ v, v ∈ vs → af v = true := by
  unfold crashV; split <;> exact ⟨_, rfl, by simp [af, af1, Store.cells, Store.zero, crashS]⟩
theorem implNewStore_ok (room : Int) (h : Heap) : ACalls Tryd.prog dE 30 #[.int .i64 room] h fun v h' => v = newV room ∧ h' = h := by
  refine acalls_pure (.inr (newV_af room)) ?_
  rcases Bool.eq_false_or_eq_true (decide (0 ≤ room ∧ room ≤ 4000)) with hk | hk
  · simp only [newV, hk, Z2x]
    refine Z36 Tryd.func30 rfl Tryd.ntmps30 (by simp) (by dsimp only [Tryd.f30]) ?_
    repeat' (first | refine wS ?_ | refine wD ?_ | refine wT ?_ | refine wL ?_ | refine wB ?_ | refine wC ?_ | refine cw_if (fun hb => ?_) (fun hb => ?_) | refine wRc ?_ | (refine wK (K := ?_) ?_ ?_; rotate_left 1) | (with_reducible exact isRoom_ok _ _) | refine hkp ?_)
    exact ⟨rfl, _, rfl⟩
  · simp only [newV, hk, Bool.false_eq_true, if_false]
    refine Z36 Tryd.func30 rfl Tryd.ntmps30 (by simp) (by dsimp only [Tryd.f30]) ?_
    repeat' (first | refine wS ?_ | refine wD ?_ | refine wT ?_ | refine wL ?_ | refine wB ?_ | refine wC ?_ | refine cw_if (fun hb => ?_) (fun hb => ?_) | refine wRc ?_ | (refine wK (K := ?_) ?_ ?_; rotate_left 1) | (with_reducible exact isRoom_ok _ _) | refine hkp ?_)
    exact ⟨rfl, _, rfl⟩
theorem good_new (room : Int) (h : Heap) : ACalls Tryd.prog dE 11 #[.agg #[.int .i64 room, .string ByteArray.empty, .string ByteArray.empty]] h fun v h' => v = .bool (decide (0 ≤ room ∧ room ≤ 4000)) ∧ h' = h := by
  refine (specGoodStore_ok (newS1 room) h ⟨by simp [newS1], by simp [newS1]⟩).mono fun v h' q => ⟨q.1.trans ?_, q.2⟩
  simp only [storeOk, newS1, ByteArray.size_empty]
  congr 1
  by_cases q : 0 ≤ room ∧ room ≤ 4000
  · have q2 : ((0 : Nat) : Int) + ((0 : Nat) : Int) ≤ room := by simpa using q.1
    simp only [q, q2, Z1g, Z1e, Z2b]
  · simp only [q, Z17, Bool.false_and]
theorem specNewStore_ok (room : Int) (h : Heap) : ACalls Tryd.prog dE 31 #[.int .i64 room] h fun v h' => v = newV room ∧ h' = h := by
  refine acalls_pure (.inr (newV_af room)) ?_
  rcases Bool.eq_false_or_eq_true (decide (0 ≤ room ∧ room ≤ 4000)) with hk | hk
  · simp only [newV, hk, Z2x]
    refine Z36 Tryd.func31 rfl Tryd.ntmps31 (by simp) (by dsimp only [Tryd.f31]) ?_
    repeat' (first | refine wS ?_ | refine wD ?_ | refine wT ?_ | refine wL ?_ | refine wB ?_ | refine wC ?_ | refine cw_if (fun hb => ?_) (fun hb => ?_) | refine wRc ?_ | (refine wK (K := ?_) ?_ ?_; rotate_left 1) | (with_reducible exact good_new _ _) | refine hkp ?_)
    exact ⟨rfl, _, rfl⟩
  · simp only [newV, hk, Bool.false_eq_true, if_false]
    refine Z36 Tryd.func31 rfl Tryd.ntmps31 (by simp) (by dsimp only [Tryd.f31]) ?_
    repeat' (first | refine wS ?_ | refine wD ?_ | refine wT ?_ | refine wL ?_ | refine wB ?_ | refine wC ?_ | refine cw_if (fun hb => ?_) (fun hb => ?_) | refine wRc ?_ | (refine wK (K := ?_) ?_ ?_; rotate_left 1) | (with_reducible exact good_new _ _) | refine hkp ?_)
    exact ⟨rfl, _, rfl⟩
theorem implSyncStore_ok (s : Store) (h : Heap) (hs : s.small) : ACalls Tryd.prog dE 23 #[.agg s.cells.toArray] h fun v h' => v = syncV s ∧ h' = h := by
  refine acalls_pure (.inr (syncV_af s)) ?_
  have hsm := hs
  rcases Bool.eq_false_or_eq_true (storeOk s) with hk | hk
  · simp only [syncV, hk, Z2x]
    have hadd : ∀ xo yo, binV Tryd.prog .add 9 xo yo (.string s.sure) (.string s.later) = some (.string (s.sure ++ s.later)) := fun xo yo =>
      binV_str_add _ _ _ _ _ (by obtain ⟨q1, q2⟩ := hs; omega)
    refine Z36 Tryd.func23 rfl Tryd.ntmps23 (by simp) (by dsimp only [Tryd.f23]) ?_
    have zq0 := @Store.cells_length
    have zq1 := @Store.cells_flat
    have zq2 := @Store.cells_take
    have zq3 := @Store.cells_splice
    have zq4 := @Store.get0
    have zq5 := @Store.get1
    have zq6 := @Store.get2
    repeat' (first | refine wS ?_ | refine wD ?_ | refine wT ?_ | refine wL ?_ | refine wB ?_ | refine wC ?_ | refine cw_if (fun hb => ?_) (fun hb => ?_) | refine wRc ?_ | (refine wK (K := ?_) ?_ ?_; rotate_left 1) | ((with_reducible refine isStore_ok _ _ ?_); (· first | assumption | exact hsm)) | refine hkp ?_)
    exact ⟨rfl, _, rfl⟩
  · simp only [syncV, hk, Bool.false_eq_true, if_false]
    refine Z36 Tryd.func23 rfl Tryd.ntmps23 (by simp) (by dsimp only [Tryd.f23]) ?_
    have zq0 := @Store.cells_length
    have zq1 := @Store.cells_flat
    have zq2 := @Store.cells_take
    have zq3 := @Store.cells_splice
    have zq4 := @Store.get0
    have zq5 := @Store.get1
    have zq6 := @Store.get2
    repeat' (first | refine wS ?_ | refine wD ?_ | refine wT ?_ | refine wL ?_ | refine wB ?_ | refine wC ?_ | refine cw_if (fun hb => ?_) (fun hb => ?_) | refine wRc ?_ | (refine wK (K := ?_) ?_ ?_; rotate_left 1) | ((with_reducible refine isStore_ok _ _ ?_); (· first | assumption | exact hsm)) | refine hkp ?_)
    exact ⟨rfl, _, rfl⟩
theorem specSyncStore_ok (s : Store) (h : Heap) (hs : s.small) : ACalls Tryd.prog dE 33 #[.agg s.cells.toArray] h fun v h' => v = syncV s ∧ h' = h := by
  refine acalls_pure (.inr (syncV_af s)) ?_
  have hsm := hs
  rcases Bool.eq_false_or_eq_true (storeOk s) with hk | hk
  · simp only [syncV, hk, Z2x]
    have hadd : ∀ xo yo, binV Tryd.prog .add 9 xo yo (.string s.sure) (.string s.later) = some (.string (s.sure ++ s.later)) := fun xo yo =>
      binV_str_add _ _ _ _ _ (by obtain ⟨q1, q2⟩ := hs; omega)
    refine Z36 Tryd.func33 rfl Tryd.ntmps33 (by simp) (by dsimp only [Tryd.f33]) ?_
    have zq0 := @Store.cells_length
    have zq1 := @Store.cells_flat
    have zq2 := @Store.cells_take
    have zq3 := @Store.cells_splice
    have zq4 := @Store.get0
    have zq5 := @Store.get1
    have zq6 := @Store.get2
    repeat' (first | refine wS ?_ | refine wD ?_ | refine wT ?_ | refine wL ?_ | refine wB ?_ | refine wC ?_ | refine cw_if (fun hb => ?_) (fun hb => ?_) | refine wRc ?_ | (refine wK (K := ?_) ?_ ?_; rotate_left 1) | ((with_reducible refine specGoodStore_ok _ _ ?_); (· first | assumption | exact hsm)) | refine hkp ?_)
    exact ⟨rfl, _, rfl⟩
  · simp only [syncV, hk, Bool.false_eq_true, if_false]
    refine Z36 Tryd.func33 rfl Tryd.ntmps33 (by simp) (by dsimp only [Tryd.f33]) ?_
    have zq0 := @Store.cells_length
    have zq1 := @Store.cells_flat
    have zq2 := @Store.cells_take
    have zq3 := @Store.cells_splice
    have zq4 := @Store.get0
    have zq5 := @Store.get1
    have zq6 := @Store.get2
    repeat' (first | refine wS ?_ | refine wD ?_ | refine wT ?_ | refine wL ?_ | refine wB ?_ | refine wC ?_ | refine cw_if (fun hb => ?_) (fun hb => ?_) | refine wRc ?_ | (refine wK (K := ?_) ?_ ?_; rotate_left 1) | ((with_reducible refine specGoodStore_ok _ _ ?_); (· first | assumption | exact hsm)) | refine hkp ?_)
    exact ⟨rfl, _, rfl⟩
theorem implCrashStore_ok (s : Store) (keep : Int) (h : Heap) (hs : s.small) : ACalls Tryd.prog dE 8 #[.agg s.cells.toArray, .int .i64 keep] h fun v h' => v = crashV s keep ∧ h' = h := by
  refine acalls_pure (.inr (crashV_af s keep)) ?_
  have hsm := hs
  rcases Bool.eq_false_or_eq_true (storeOk s) with hk1 | hk1
  · rcases Bool.eq_false_or_eq_true (decide (0 ≤ keep ∧ keep ≤ s.later.size)) with hk4 | hk4
    · simp only [crashV, crashOk, hk1, hk4, Z1e, Z2x]
      have hk5 := of_decide_eq_true hk4
      have hcut := fun h => cut_str_hi (h := h) Ty.st9 s.later keep hk5.1 hk5.2 .i64
      have hadd : ∀ xo yo, binV Tryd.prog .add 9 xo yo (.string s.sure) (.string (s.later.extract 0 keep.toNat)) = some (.string (s.sure ++ s.later.extract 0 keep.toNat)) := fun xo yo =>
        binV_str_add _ _ _ _ _ (by obtain ⟨q1, q2⟩ := hs; rw [ByteArray.size_extract]; omega)
      refine Z36 Tryd.func8 rfl Tryd.ntmps8 (by simp) (by dsimp only [Tryd.f8]) ?_
      have zq0 := @Store.cells_length
      have zq1 := @Store.cells_flat
      have zq2 := @Store.cells_take
      have zq3 := @Store.cells_splice
      have zq4 := @Store.get0
      have zq5 := @Store.get1
      have zq6 := @Store.get2
      repeat' (first | refine wS ?_ | refine wD ?_ | refine wT ?_ | refine wL ?_ | refine wB ?_ | refine wG ?_ | refine wY ?_ | refine gw_if (fun hb => ?_) (fun hb => ?_) | refine wC ?_ | refine cw_if (fun hb => ?_) (fun hb => ?_) | refine wRc ?_ | refine xe_reg (ms := [0, 1, 0, 4, 0, 16, 0, 112, 252, 511, 1023, 2047]) Ty.mx (by decide +kernel) (by decide +kernel) [[],[],[],[],[],[],[],[],[],[],[h.length + 1],[]] ?_ | refine wX ?_ | (refine wK (K := ?_) ?_ ?_; rotate_left 1) | (refine wM (v := ?_) ?_ ?_; rotate_left 1) | exact eqA | (refine xe_alloc (z := ?_) ?_ ?_ (by exact rfl) ?_; rotate_left 1; (· first | exact Ty.zc3 | exact Ty.zc9 | exact Ty.zc25); (· decide)) | (refine xe_do (v := ?_) (ids := []) (by exact rfl) (by decide +kernel) (by exact rfl) (by exact rfl) ?_ ?_; rotate_left 1) | (refine xe_st (v := ?_) (a := ?_) (h' := ?_) (ids := []) (by decide +kernel) (by exact rfl) ?_ ?_ ?_ ?_ ?_; rotate_left 3; (· exact eqA); (· exact rfl); (· simp)) | (refine xe_pure (ids := []) (f := ?_) (fs := ?_) (cs := ?_) (args := ?_) (v := ?_) ?_ ?_ ?_ (by decide +kernel) (by exact rfl) (by exact rfl) ?_ ?_; rotate_left 5; (· simp only [ev]; rfl); (· first | with_reducible exact Ty.ok39 | with_reducible exact Ty.ok40); (· exact eqA); (· first | ((with_reducible refine isStore_ok _ _ ?_); (· first | assumption | exact hsm)) | ((with_reducible refine withinE _ _ _ _)))) | ((with_reducible refine isStore_ok _ _ ?_); (· first | assumption | exact hsm)) | (with_reducible exact withinE _ _ _ _) | refine hkp ?_)
      exact ⟨rfl, _, rfl⟩
    · simp only [crashV, crashOk, hk1, hk4, Bool.and_false, Bool.false_eq_true, if_false]
      refine Z36 Tryd.func8 rfl Tryd.ntmps8 (by simp) (by dsimp only [Tryd.f8]) ?_
      have zq0 := @Store.cells_length
      have zq1 := @Store.cells_flat
      have zq2 := @Store.cells_take
      have zq3 := @Store.cells_splice
      have zq4 := @Store.get0
      have zq5 := @Store.get1
      have zq6 := @Store.get2
      repeat' (first | refine wS ?_ | refine wD ?_ | refine wT ?_ | refine wL ?_ | refine wB ?_ | refine wG ?_ | refine wY ?_ | refine gw_if (fun hb => ?_) (fun hb => ?_) | refine wC ?_ | refine cw_if (fun hb => ?_) (fun hb => ?_) | refine wRc ?_ | refine wV (ms := [0, 1, 0, 4, 0, 16, 0, 112, 252, 511, 1023, 2047]) ?_ | refine wX ?_ | (refine wK (K := ?_) ?_ ?_; rotate_left 1) | (refine wM (v := ?_) ?_ ?_; rotate_left 1) | ((with_reducible refine isStore_ok _ _ ?_); (· first | assumption | exact hsm)) | (with_reducible exact withinE _ _ _ _) | refine hkp ?_)
      exact ⟨rfl, _, rfl⟩
  · simp only [crashV, crashOk, hk1, Bool.false_and, Bool.false_eq_true, if_false]
    refine Z36 Tryd.func8 rfl Tryd.ntmps8 (by simp) (by dsimp only [Tryd.f8]) ?_
    have zq0 := @Store.cells_length
    have zq1 := @Store.cells_flat
    have zq2 := @Store.cells_take
    have zq3 := @Store.cells_splice
    have zq4 := @Store.get0
    have zq5 := @Store.get1
    have zq6 := @Store.get2
    repeat' (first | refine wS ?_ | refine wD ?_ | refine wT ?_ | refine wL ?_ | refine wB ?_ | refine wG ?_ | refine wY ?_ | refine gw_if (fun hb => ?_) (fun hb => ?_) | refine wC ?_ | refine cw_if (fun hb => ?_) (fun hb => ?_) | refine wRc ?_ | refine wV (ms := [0, 1, 0, 4, 0, 16, 0, 112, 252, 511, 1023, 2047]) ?_ | refine wX ?_ | (refine wK (K := ?_) ?_ ?_; rotate_left 1) | (refine wM (v := ?_) ?_ ?_; rotate_left 1) | ((with_reducible refine isStore_ok _ _ ?_); (· first | assumption | exact hsm)) | (with_reducible exact withinE _ _ _ _) | refine hkp ?_)
    exact ⟨rfl, _, rfl⟩
theorem specCrashStore_ok (s : Store) (keep : Int) (h : Heap) (hs : s.small) : ACalls Tryd.prog dE 9 #[.agg s.cells.toArray, .int .i64 keep] h fun v h' => v = crashV s keep ∧ h' = h := by
  refine acalls_pure (.inr (crashV_af s keep)) ?_
  have hsm := hs
  rcases Bool.eq_false_or_eq_true (storeOk s) with hk1 | hk1
  · rcases Bool.eq_false_or_eq_true (decide (0 ≤ keep ∧ keep ≤ s.later.size)) with hk4 | hk4
    · simp only [crashV, crashOk, hk1, hk4, Z1e, Z2x]
      have hk5 := of_decide_eq_true hk4
      have hcut := fun h => cut_str_hi (h := h) Ty.st9 s.later keep hk5.1 hk5.2 .i64
      have hadd : ∀ xo yo, binV Tryd.prog .add 9 xo yo (.string s.sure) (.string (s.later.extract 0 keep.toNat)) = some (.string (s.sure ++ s.later.extract 0 keep.toNat)) := fun xo yo =>
        binV_str_add _ _ _ _ _ (by obtain ⟨q1, q2⟩ := hs; rw [ByteArray.size_extract]; omega)
      refine Z36 Tryd.func9 rfl Tryd.ntmps9 (by simp) (by dsimp only [Tryd.f9]) ?_
      have zq0 := @Store.cells_length
      have zq1 := @Store.cells_flat
      have zq2 := @Store.cells_take
      have zq3 := @Store.cells_splice
      have zq4 := @Store.get0
      have zq5 := @Store.get1
      have zq6 := @Store.get2
      repeat' (first | refine wS ?_ | refine wD ?_ | refine wT ?_ | refine wL ?_ | refine wB ?_ | refine wG ?_ | refine wY ?_ | refine gw_if (fun hb => ?_) (fun hb => ?_) | refine wC ?_ | refine cw_if (fun hb => ?_) (fun hb => ?_) | refine wRc ?_ | refine xe_reg (ms := [0, 1, 0, 4, 0, 16, 0, 112, 252, 511, 1023, 2047]) Ty.mx (by decide +kernel) (by decide +kernel) [[],[],[],[],[],[],[],[],[],[],[h.length + 1],[]] ?_ | refine wX ?_ | (refine wK (K := ?_) ?_ ?_; rotate_left 1) | (refine wM (v := ?_) ?_ ?_; rotate_left 1) | exact eqA | (refine xe_alloc (z := ?_) ?_ ?_ (by exact rfl) ?_; rotate_left 1; (· first | exact Ty.zc3 | exact Ty.zc9 | exact Ty.zc25); (· decide)) | (refine xe_do (v := ?_) (ids := []) (by exact rfl) (by decide +kernel) (by exact rfl) (by exact rfl) ?_ ?_; rotate_left 1) | (refine xe_st (v := ?_) (a := ?_) (h' := ?_) (ids := []) (by decide +kernel) (by exact rfl) ?_ ?_ ?_ ?_ ?_; rotate_left 3; (· exact eqA); (· exact rfl); (· simp)) | (refine xe_pure (ids := []) (f := ?_) (fs := ?_) (cs := ?_) (args := ?_) (v := ?_) ?_ ?_ ?_ (by decide +kernel) (by exact rfl) (by exact rfl) ?_ ?_; rotate_left 5; (· simp only [ev]; rfl); (· first | with_reducible exact Ty.ok11 | with_reducible exact Ty.ok41); (· exact eqA); (· first | ((with_reducible refine specGoodStore_ok _ _ ?_); (· first | assumption | exact hsm)) | ((with_reducible refine l1InE _ _ _ _)))) | ((with_reducible refine specGoodStore_ok _ _ ?_); (· first | assumption | exact hsm)) | (with_reducible exact l1InE _ _ _ _) | refine hkp ?_)
      exact ⟨rfl, _, rfl⟩
    · simp only [crashV, crashOk, hk1, hk4, Bool.and_false, Bool.false_eq_true, if_false]
      refine Z36 Tryd.func9 rfl Tryd.ntmps9 (by simp) (by dsimp only [Tryd.f9]) ?_
      have zq0 := @Store.cells_length
      have zq1 := @Store.cells_flat
      have zq2 := @Store.cells_take
      have zq3 := @Store.cells_splice
      have zq4 := @Store.get0
      have zq5 := @Store.get1
      have zq6 := @Store.get2
      repeat' (first | refine wS ?_ | refine wD ?_ | refine wT ?_ | refine wL ?_ | refine wB ?_ | refine wG ?_ | refine wY ?_ | refine gw_if (fun hb => ?_) (fun hb => ?_) | refine wC ?_ | refine cw_if (fun hb => ?_) (fun hb => ?_) | refine wRc ?_ | refine wV (ms := [0, 1, 0, 4, 0, 16, 0, 112, 252, 511, 1023, 2047]) ?_ | refine wX ?_ | (refine wK (K := ?_) ?_ ?_; rotate_left 1) | (refine wM (v := ?_) ?_ ?_; rotate_left 1) | ((with_reducible refine specGoodStore_ok _ _ ?_); (· first | assumption | exact hsm)) | (with_reducible exact l1InE _ _ _ _) | refine hkp ?_)
      exact ⟨rfl, _, rfl⟩
  · simp only [crashV, crashOk, hk1, Bool.false_and, Bool.false_eq_true, if_false]
    refine Z36 Tryd.func9 rfl Tryd.ntmps9 (by simp) (by dsimp only [Tryd.f9]) ?_
    have zq0 := @Store.cells_length
    have zq1 := @Store.cells_flat
    have zq2 := @Store.cells_take
    have zq3 := @Store.cells_splice
    have zq4 := @Store.get0
    have zq5 := @Store.get1
    have zq6 := @Store.get2
    repeat' (first | refine wS ?_ | refine wD ?_ | refine wT ?_ | refine wL ?_ | refine wB ?_ | refine wG ?_ | refine wY ?_ | refine gw_if (fun hb => ?_) (fun hb => ?_) | refine wC ?_ | refine cw_if (fun hb => ?_) (fun hb => ?_) | refine wRc ?_ | refine wV (ms := [0, 1, 0, 4, 0, 16, 0, 112, 252, 511, 1023, 2047]) ?_ | refine wX ?_ | (refine wK (K := ?_) ?_ ?_; rotate_left 1) | (refine wM (v := ?_) ?_ ?_; rotate_left 1) | ((with_reducible refine specGoodStore_ok _ _ ?_); (· first | assumption | exact hsm)) | (with_reducible exact l1InE _ _ _ _) | refine hkp ?_)
    exact ⟨rfl, _, rfl⟩
theorem storeOk_iff (s : Store) : storeOk s = true ↔ (0 ≤ s.room ∧ s.room ≤ 4000) ∧ (s.sure.size : Int) + s.later.size ≤ s.room := by simp [storeOk]
theorem putS_good {s : Store} (hk : storeOk s = true) (t : ByteArray) : storeOk (putS s t) = true := by
  unfold putS
  split
  · exact hk
  · split
    · exact hk
    · split
      · exact hk
      · split
        · exact hk
        · rw [storeOk_iff] at hk ⊢
          simp only [ByteArray.size_append, frameT_size]
          omega
theorem syncS_good {s : Store} (hk : storeOk s = true) : storeOk (syncS s) = true := by
  rw [storeOk_iff] at hk ⊢
  simp only [syncS, ByteArray.size_append, ByteArray.size_empty]
  omega
theorem crashS_good {s : Store} {keep : Int} (hk : crashOk s keep = true) : storeOk (crashS s keep) = true := by
  simp only [crashOk, Bool.and_eq_true] at hk
  obtain ⟨h1, h2⟩ := hk
  have h3 := of_decide_eq_true h2
  rw [storeOk_iff] at h1 ⊢
  simp only [crashS, ByteArray.size_append, ByteArray.size_empty, ByteArray.size_extract]
  omega
theorem good_small {s : Store} (hk : storeOk s = true) : s.small := by
  rw [storeOk_iff] at hk
  constructor <;> omega
end Go.Proofs.YtmjhfklmlcnofaaDoor.Am
namespace Go.Proofs.YtmjhfklmlcnofaaDoor.Am
open Go Go.Proofs
set_option linter.unusedVariables false
set_option linter.unusedSimpArgs false
set_option maxRecDepth 100000
set_option maxHeartbeats 8000000
theorem aw_forget {P : Program} {G : Glo} {N : Nat} {Q : Exit → Tmps → Heap → Prop} {c : Code} {T : Tmps} {h : Heap} (R : List Nat) (hk : ∀ T', (∀ t ∈ R, T' t = T t) → AW P G N c Q T' h) : AW P G N c Q T h := hk T fun _ _ => rfl
theorem spoilt_x (c : Cur) (t wi : ByteArray) (k : Nat) (h L : Heap) (hc : CS h c k) (hk : k < 800000) (ht : t.size ≤ 4000) (hwi : 1 ≤ wi.size ∧ wi.size ≤ 100) :
    ACalls Tryd.prog dE 57 #[.pointer (some ⟨h.length, 0, none⟩), .string t, .string wi] (h ++ c.blk :: L)
    fun v h' => ∃ (t' : ByteArray) (c' : Cur) (E : Heap), v = .string t' ∧ h' = h ++ c'.blk :: (L ++ E) ∧ CS h c' (k + 30) ∧ t'.size ≤ t.size + 2 := by
  have c0 := hc.pick (by omega) 2
  have r0 := hc.range (by omega) 2
  obtain ⟨n0, hn0⟩ : ∃ n : Nat, (c.pick 2).1 = n := ⟨(c.pick 2).1.toNat, by omega⟩
  have hn1 : n0 ≤ 1 := by omega
  have hw0 : IntKind.i64.wrap (1 + (n0 : Int)) = ((n0 + 1 : Nat) : Int) := by rw [wrap_id (by omega)]; omega
  refine Z36 Tryd.func57 rfl Tryd.ntmps57 (by simp) (by dsimp only [Tryd.f57]) ?_
  repeat' (first | refine wS ?_ | refine wD ?_ | refine wT ?_ | refine wL ?_ | refine wB ?_ | refine wG ?_ | refine wY ?_ | refine gw_if (fun hb => ?_) (fun hb => ?_) | refine wC ?_ | refine cw_if (fun hb => ?_) (fun hb => ?_) | refine wR ?_ | refine wV (ms := [0, 0, 3, 0, 15, 0, 0, 96, 255, 511]) ?_ | refine wV (ms := [0, 0, 3, 0, 15, 0, 0, 64, 224, 511, 1023]) ?_ | refine wV (ms := [0, 0, 3, 0, 0, 16, 56, 127, 255]) ?_ | refine wX ?_ | (refine wK (K := ?_) ?_ ?_; rotate_left 1) | (refine wM (v := ?_) ?_ ?_; rotate_left 1) | (refine xd_bs (v := ?_) (h' := ?_) (L := ?_) (by decide +kernel) ?_ ?_ ?_; rotate_left 3; (· exact eqA); (· exact rfl)) | ((with_reducible refine pick_c _ _ ?_ _ _ ?_ ?_); rotate_left 1; (· assumption); (· exact pO)) | refine hkp ?_)
  refine aw_forget [0, 1, 2, 7] ?_
  intro T hR
  simp only [Z37, Z38, Z39, implies_true, and_true, stp, ev, ZB, reduceIte, Nat.reduceEqDiff, Z2x, Z13, Zy] at hR
  obtain ⟨h0, h1, h2, h7⟩ := hR
  refine aw_loop (n := n0 + 1) (fun m T' h' => ∃ (cc : Cur) (t' : ByteArray) (E : Heap), h' = h ++ cc.blk :: (L ++ E) ∧ CS h cc (k + 2 + 6 * (2 - m)) ∧ m ≤ 2 ∧ T' 0 = .pointer (some ⟨h.length, 0, none⟩) ∧
    T' 1 = .string t' ∧ T' 2 = .string wi ∧ T' 7 = .int .i64 (m : Nat) ∧ t'.size + m ≤ t.size + 2)
    ⟨(c.pick 2).2, t, [], by simp, c0.mono (by omega), by omega, h0, h1, h2, h7, by omega⟩ ?_
  clear h0 h1 h2 h7 hn0 r0 c0 hc hw0
  rintro m T' h' ⟨cc, t', E, rfl, hcs, hm, h0, h1, h2, h7, hsz⟩
  by_cases hgo : 0 < m ∧ 0 < t'.size
  · obtain ⟨hm0, ht0⟩ := hgo
    have hlm : decide ((0 : Int) < (m : Int)) = true := decide_eq_true (by omega)
    have hlt : decide ((0 : Int) < (t'.size : Int)) = true := decide_eq_true (by omega)
    have hwm : IntKind.i64.wrap ((m : Int) - 1) = ((m - 1 : Nat) : Int) := by rw [wrap_id (by omega)]; omega
    have r1 := hcs.range (by omega) t'.size
    have c1 := hcs.pick (by omega) t'.size
    have r2 := c1.range (by omega) wi.size
    have c2 := c1.pick (by omega) wi.size
    have r3 := c2.range (by omega) 3
    have c3 := c2.pick (by omega) 3
    obtain ⟨i, hi⟩ : ∃ n : Nat, (cc.pick t'.size).1 = n := ⟨(cc.pick t'.size).1.toNat, by omega⟩
    have hil : i < t'.size := by omega
    obtain ⟨j, hj⟩ : ∃ n : Nat, ((cc.pick t'.size).2.pick wi.size).1 = n := ⟨((cc.pick t'.size).2.pick wi.size).1.toNat, by omega⟩
    have hjl : j < wi.size := by omega
    have hix : idxV Tryd.prog 9 (.string wi) (.int .i64 (j : Nat)) = _ := bt_idx Ty.st9 wi hjl .i64
    have hw1 : IntKind.i64.wrap ((i : Int) + 1) = ((i + 1 : Nat) : Int) := by rw [wrap_id (by omega)]; omega
    have hcut1 := fun h => cut_str_hi (P := Tryd.prog) (h := h) Ty.st9 t' (i : Int) (by omega) (by omega) .i64
    have hcut2 := fun h => cut_str_lo (P := Tryd.prog) (h := h) Ty.st9 t' (i : Int) (by omega) (by omega) .i64
    have hcut3 := fun h => cut_str_lo (P := Tryd.prog) (h := h) Ty.st9 t' ((i + 1 : Nat) : Int) (by omega) (by omega) .i64
    simp only [Zq] at hcut1 hcut2 hcut3
    have z0 : (t'.extract 0 i).size ≤ i := by rw [ByteArray.size_extract]; omega
    have z1 : (t'.extract i t'.size).size ≤ t'.size - i := by rw [ByteArray.size_extract]; omega
    have z2 : (t'.extract (i + 1) t'.size).size ≤ t'.size - (i + 1) := by rw [ByteArray.size_extract]; omega
    have z3 : (bstr [bt wi j]).size = 1 := rfl
    have hadd1 : ∀ xo yo, binV Tryd.prog .add 9 xo yo (.string (t'.extract 0 i)) (.string (bstr [bt wi j])) = some (.string (t'.extract 0 i ++ bstr [bt wi j])) := fun xo yo => binV_str_add _ _ _ _ _ (by omega)
    have z4 : (t'.extract 0 i ++ bstr [bt wi j]).size ≤ i + 1 := by rw [ByteArray.size_append]; omega
    have hadd2 : ∀ xo yo, binV Tryd.prog .add 9 xo yo (.string (t'.extract 0 i ++ bstr [bt wi j])) (.string (t'.extract i t'.size)) = some (.string (t'.extract 0 i ++ bstr [bt wi j] ++ t'.extract i t'.size)) := fun xo yo => binV_str_add _ _ _ _ _ (by omega)
    have hadd3 : ∀ xo yo, binV Tryd.prog .add 9 xo yo (.string (t'.extract 0 i ++ bstr [bt wi j])) (.string (t'.extract (i + 1) t'.size)) = some (.string (t'.extract 0 i ++ bstr [bt wi j] ++ t'.extract (i + 1) t'.size)) := fun xo yo => binV_str_add _ _ _ _ _ (by omega)
    have hadd4 : ∀ xo yo, binV Tryd.prog .add 9 xo yo (.string (t'.extract 0 i)) (.string (t'.extract (i + 1) t'.size)) = some (.string (t'.extract 0 i ++ t'.extract (i + 1) t'.size)) := fun xo yo => binV_str_add _ _ _ _ _ (by omega)
    rcases (show (((cc.pick t'.size).2.pick wi.size).2.pick 3).1 = 0 ∨ (((cc.pick t'.size).2.pick wi.size).2.pick 3).1 = 1 ∨ (((cc.pick t'.size).2.pick wi.size).2.pick 3).1 = 2 by omega) with q | q | q
    · have e1 : decide ((((cc.pick t'.size).2.pick wi.size).2.pick 3).1 = 0) = true := decide_eq_true q
      clear q r1 r2 r3
      repeat' (first | refine wS ?_ | refine wD ?_ | refine wT ?_ | refine wL ?_ | refine wB ?_ | refine wG ?_ | refine wY ?_ | refine gw_if (fun hb => ?_) (fun hb => ?_) | refine wC ?_ | refine cw_if (fun hb => ?_) (fun hb => ?_) | refine wR ?_ | refine wV (ms := [0, 0, 3, 0, 15, 0, 0, 96, 255, 511]) ?_ | refine wV (ms := [0, 0, 3, 0, 15, 0, 0, 64, 224, 511, 1023]) ?_ | refine wV (ms := [0, 0, 3, 0, 0, 16, 56, 127, 255]) ?_ | refine wX ?_ | (refine wK (K := ?_) ?_ ?_; rotate_left 1) | (refine wM (v := ?_) ?_ ?_; rotate_left 1) | (refine xd_bs (v := ?_) (h' := ?_) (L := ?_) (by decide +kernel) ?_ ?_ ?_; rotate_left 3; (· exact eqA); (· exact rfl)) | ((with_reducible refine pick_c _ _ ?_ _ _ ?_ ?_); rotate_left 1; (· assumption); (· exact pO)) | refine hkp ?_)
      refine ⟨m - 1, by omega, _, t'.extract 0 i ++ bstr [bt wi j] ++ t'.extract i t'.size, E ++ [_], rfl, c3.mono (by omega), by omega, ?_, ?_, ?_, ?_, ?_⟩
      · simp only [Zb, reduceIte, Nat.reduceEqDiff]; exact h0
      · simp only [Zb, reduceIte, Nat.reduceEqDiff]
      · simp only [Zb, reduceIte, Nat.reduceEqDiff]; exact h2
      · simp only [Zb, reduceIte, Nat.reduceEqDiff, hwm]
      · simp only [ByteArray.size_append]; omega
    · have e1 : decide ((((cc.pick t'.size).2.pick wi.size).2.pick 3).1 = 0) = false := decide_eq_false (by omega)
      have e2 : decide ((((cc.pick t'.size).2.pick wi.size).2.pick 3).1 = 1) = true := decide_eq_true q
      clear q r1 r2 r3
      repeat' (first | refine wS ?_ | refine wD ?_ | refine wT ?_ | refine wL ?_ | refine wB ?_ | refine wG ?_ | refine wY ?_ | refine gw_if (fun hb => ?_) (fun hb => ?_) | refine wC ?_ | refine cw_if (fun hb => ?_) (fun hb => ?_) | refine wR ?_ | refine wV (ms := [0, 0, 3, 0, 15, 0, 0, 96, 255, 511]) ?_ | refine wV (ms := [0, 0, 3, 0, 15, 0, 0, 64, 224, 511, 1023]) ?_ | refine wV (ms := [0, 0, 3, 0, 0, 16, 56, 127, 255]) ?_ | refine wX ?_ | (refine wK (K := ?_) ?_ ?_; rotate_left 1) | (refine wM (v := ?_) ?_ ?_; rotate_left 1) | (refine xd_bs (v := ?_) (h' := ?_) (L := ?_) (by decide +kernel) ?_ ?_ ?_; rotate_left 3; (· exact eqA); (· exact rfl)) | ((with_reducible refine pick_c _ _ ?_ _ _ ?_ ?_); rotate_left 1; (· assumption); (· exact pO)) | refine hkp ?_)
      refine ⟨m - 1, by omega, _, t'.extract 0 i ++ bstr [bt wi j] ++ t'.extract (i + 1) t'.size, E ++ [_], rfl, c3.mono (by omega), by omega, ?_, ?_, ?_, ?_, ?_⟩
      · simp only [Zb, reduceIte, Nat.reduceEqDiff]; exact h0
      · simp only [Zb, reduceIte, Nat.reduceEqDiff]
      · simp only [Zb, reduceIte, Nat.reduceEqDiff]; exact h2
      · simp only [Zb, reduceIte, Nat.reduceEqDiff, hwm]
      · simp only [ByteArray.size_append]; omega
    · have e1 : decide ((((cc.pick t'.size).2.pick wi.size).2.pick 3).1 = 0) = false := decide_eq_false (by omega)
      have e2 : decide ((((cc.pick t'.size).2.pick wi.size).2.pick 3).1 = 1) = false := decide_eq_false (by omega)
      clear q r1 r2 r3
      repeat' (first | refine wS ?_ | refine wD ?_ | refine wT ?_ | refine wL ?_ | refine wB ?_ | refine wG ?_ | refine wY ?_ | refine gw_if (fun hb => ?_) (fun hb => ?_) | refine wC ?_ | refine cw_if (fun hb => ?_) (fun hb => ?_) | refine wR ?_ | refine wV (ms := [0, 0, 3, 0, 15, 0, 0, 96, 255, 511]) ?_ | refine wV (ms := [0, 0, 3, 0, 15, 0, 0, 64, 224, 511, 1023]) ?_ | refine wV (ms := [0, 0, 3, 0, 0, 16, 56, 127, 255]) ?_ | refine wX ?_ | (refine wK (K := ?_) ?_ ?_; rotate_left 1) | (refine wM (v := ?_) ?_ ?_; rotate_left 1) | (refine xd_bs (v := ?_) (h' := ?_) (L := ?_) (by decide +kernel) ?_ ?_ ?_; rotate_left 3; (· exact eqA); (· exact rfl)) | ((with_reducible refine pick_c _ _ ?_ _ _ ?_ ?_); rotate_left 1; (· assumption); (· exact pO)) | refine hkp ?_)
      refine ⟨m - 1, by omega, _, t'.extract 0 i ++ t'.extract (i + 1) t'.size, E ++ [_], rfl, c3.mono (by omega), by omega, ?_, ?_, ?_, ?_, ?_⟩
      · simp only [Zb, reduceIte, Nat.reduceEqDiff]; exact h0
      · simp only [Zb, reduceIte, Nat.reduceEqDiff]
      · simp only [Zb, reduceIte, Nat.reduceEqDiff]; exact h2
      · simp only [Zb, reduceIte, Nat.reduceEqDiff, hwm]
      · simp only [ByteArray.size_append]; omega
  · rcases (show m = 0 ∨ (0 < m ∧ t'.size = 0) by omega) with q | ⟨q, q2⟩
    · subst q
      have hlm : decide ((0 : Int) < ((0 : Nat) : Int)) = false := rfl
      repeat' (first | refine wS ?_ | refine wD ?_ | refine wT ?_ | refine wL ?_ | refine wB ?_ | refine wG ?_ | refine wY ?_ | refine gw_if (fun hb => ?_) (fun hb => ?_) | refine wC ?_ | refine cw_if (fun hb => ?_) (fun hb => ?_) | refine wR ?_ | refine wV (ms := [0, 0, 3, 0, 15, 0, 0, 96, 255, 511]) ?_ | refine wV (ms := [0, 0, 3, 0, 15, 0, 0, 64, 224, 511, 1023]) ?_ | refine wV (ms := [0, 0, 3, 0, 0, 16, 56, 127, 255]) ?_ | refine wX ?_ | (refine wK (K := ?_) ?_ ?_; rotate_left 1) | (refine wM (v := ?_) ?_ ?_; rotate_left 1) | (refine xd_bs (v := ?_) (h' := ?_) (L := ?_) (by decide +kernel) ?_ ?_ ?_; rotate_left 3; (· exact eqA); (· exact rfl)) | ((with_reducible refine pick_c _ _ ?_ _ _ ?_ ?_); rotate_left 1; (· assumption); (· exact pO)) | refine hkp ?_)
      exact ⟨t', cc, E, rfl, rfl, hcs.mono (by omega), by omega⟩
    · have hlm : decide ((0 : Int) < (m : Int)) = true := decide_eq_true (by omega)
      have hlt : decide ((0 : Int) < (t'.size : Int)) = false := decide_eq_false (by omega)
      clear q2 hgo
      repeat' (first | refine wS ?_ | refine wD ?_ | refine wT ?_ | refine wL ?_ | refine wB ?_ | refine wG ?_ | refine wY ?_ | refine gw_if (fun hb => ?_) (fun hb => ?_) | refine wC ?_ | refine cw_if (fun hb => ?_) (fun hb => ?_) | refine wR ?_ | refine wV (ms := [0, 0, 3, 0, 15, 0, 0, 96, 255, 511]) ?_ | refine wV (ms := [0, 0, 3, 0, 15, 0, 0, 64, 224, 511, 1023]) ?_ | refine wV (ms := [0, 0, 3, 0, 0, 16, 56, 127, 255]) ?_ | refine wX ?_ | (refine wK (K := ?_) ?_ ?_; rotate_left 1) | (refine wM (v := ?_) ?_ ?_; rotate_left 1) | (refine xd_bs (v := ?_) (h' := ?_) (L := ?_) (by decide +kernel) ?_ ?_ ?_; rotate_left 3; (· exact eqA); (· exact rfl)) | ((with_reducible refine pick_c _ _ ?_ _ _ ?_ ?_); rotate_left 1; (· assumption); (· exact pO)) | refine hkp ?_)
      exact ⟨t', cc, E, rfl, rfl, hcs.mono (by omega), by omega⟩
end Go.Proofs.YtmjhfklmlcnofaaDoor.Am
