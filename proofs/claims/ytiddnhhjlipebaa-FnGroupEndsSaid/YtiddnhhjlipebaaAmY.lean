/- Regions whose order is open, with writes: which operation writes which blocks is told ahead. Conditions: none. -/
import Derived.Test.YtiddnhhjlipebaaAmX
namespace Go.Proofs.Ytiddnhhjlipebaa.Am
open Go
set_option linter.unusedVariables false
set_option linter.unusedSimpArgs false

theorem getC_succ2 (b : Blk) (l : Heap) (a n o : Nat) : getC (b :: l) (a + (n + 1)) o = getC l (a + n) o := getC_succ b l (a + n) o
theorem loadCs_succ2 (b : Blk) (l : Heap) (a n o k : Nat) : loadCs (b :: l) (a + (n + 1)) o k = loadCs l (a + n) o k := loadCs_succ b l (a + n) o k
theorem setCs_succ2 (b : Blk) (l : Heap) (a n o : Nat) (vs : List Value) : setCs (b :: l) (a + (n + 1)) o vs = (setCs l (a + n) o vs).map (b :: ·) := setCs_succ b l (a + n) o vs
theorem getC_succ3 (b : Blk) (l : Heap) (a c n o : Nat) : getC (b :: l) (a + (c + (n + 1))) o = getC l (a + (c + n)) o := getC_succ b l (a + (c + n)) o
theorem loadCs_succ3 (b : Blk) (l : Heap) (a c n o k : Nat) : loadCs (b :: l) (a + (c + (n + 1))) o k = loadCs l (a + (c + n)) o k := loadCs_succ b l (a + (c + n)) o k
theorem setCs_succ3 (b : Blk) (l : Heap) (a c n o : Nat) (vs : List Value) : setCs (b :: l) (a + (c + (n + 1))) o vs = (setCs l (a + (c + n)) o vs).map (b :: ·) := setCs_succ b l (a + (c + n)) o vs
theorem getC_succ4 (b : Blk) (l : Heap) (a c d n o : Nat) : getC (b :: l) (a + (c + (d + (n + 1)))) o = getC l (a + (c + (d + n))) o := getC_succ b l (a + (c + (d + n))) o
theorem loadCs_succ4 (b : Blk) (l : Heap) (a c d n o k : Nat) : loadCs (b :: l) (a + (c + (d + (n + 1)))) o k = loadCs l (a + (c + (d + n))) o k := loadCs_succ b l (a + (c + (d + n))) o k
theorem setCs_succ4 (b : Blk) (l : Heap) (a c d n o : Nat) (vs : List Value) : setCs (b :: l) (a + (c + (d + (n + 1)))) o vs = (setCs l (a + (c + (d + n))) o vs).map (b :: ·) := setCs_succ b l (a + (c + (d + n))) o vs
theorem getC_succ5 (b : Blk) (l : Heap) (a c d f n o : Nat) : getC (b :: l) (a + (c + (d + (f + (n + 1))))) o = getC l (a + (c + (d + (f + n)))) o := getC_succ b l (a + (c + (d + (f + n)))) o
theorem loadCs_succ5 (b : Blk) (l : Heap) (a c d f n o k : Nat) : loadCs (b :: l) (a + (c + (d + (f + (n + 1))))) o k = loadCs l (a + (c + (d + (f + n)))) o k := loadCs_succ b l (a + (c + (d + (f + n)))) o k
theorem setCs_succ5 (b : Blk) (l : Heap) (a c d f n o : Nat) (vs : List Value) : setCs (b :: l) (a + (c + (d + (f + (n + 1))))) o vs = (setCs l (a + (c + (d + (f + n)))) o vs).map (b :: ·) := setCs_succ b l (a + (c + (d + (f + n)))) o vs
theorem getC_succ6 (b : Blk) (l : Heap) (a c d f g n o : Nat) : getC (b :: l) (a + (c + (d + (f + (g + (n + 1)))))) o = getC l (a + (c + (d + (f + (g + n))))) o := getC_succ b l (a + (c + (d + (f + (g + n))))) o
theorem loadCs_succ6 (b : Blk) (l : Heap) (a c d f g n o k : Nat) : loadCs (b :: l) (a + (c + (d + (f + (g + (n + 1)))))) o k = loadCs l (a + (c + (d + (f + (g + n))))) o k := loadCs_succ b l (a + (c + (d + (f + (g + n))))) o k
theorem setCs_succ6 (b : Blk) (l : Heap) (a c d f g n o : Nat) (vs : List Value) : setCs (b :: l) (a + (c + (d + (f + (g + (n + 1)))))) o vs = (setCs l (a + (c + (d + (f + (g + n))))) o vs).map (b :: ·) := setCs_succ b l (a + (c + (d + (f + (g + n))))) o vs

/-- What comes behind a call, with the callee's number. -/
structure HkTag (n : Nat) (p : Prop) : Prop where
  h : p
theorem hk_tag (n : Nat) {p : Prop} (h : HkTag n p) : p := h.h

def killL (h : Heap) (ids : List Nat) : Heap := ids.foldl (fun h id => h.set id ⟨0, 0, []⟩) h
theorem killL_nil (h : Heap) : killL h [] = h := rfl
theorem killL_cons (h : Heap) (id : Nat) (ids : List Nat) : killL h (id :: ids) = killL (h.set id ⟨0, 0, []⟩) ids := rfl
theorem killL_length (ids : List Nat) : ∀ (h : Heap), (killL h ids).length = h.length := by
  induction ids with
  | nil => intro h; rfl
  | cons i ids ih => intro h; rw [killL_cons, ih]; simp
theorem killL_get (ids : List Nat) : ∀ (h : Heap) (id : Nat) (b : Blk), (killL h ids)[id]? = some b → b.k = 0 ∨ h[id]? = some b := by
  induction ids with
  | nil => intro h id b hb; exact .inr hb
  | cons i ids ih =>
    intro h id b hb
    rw [killL_cons] at hb
    rcases ih _ id b hb with h1 | h1
    · exact .inl h1
    · by_cases hi : i = id
      · subst hi
        by_cases hl : i < h.length
        · rw [List.getElem?_set_self hl] at h1; cases h1; exact .inl rfl
        · rw [List.getElem?_eq_none (by simp; omega)] at h1; cases h1
      · rw [List.getElem?_set_ne hi] at h1; exact .inr h1
theorem killL_dead (ids : List Nat) : ∀ (h : Heap) (id : Nat) (b : Blk), id ∈ ids → (killL h ids)[id]? = some b → b.k = 0 := by
  induction ids with
  | nil => intro h id b hi; simp at hi
  | cons i ids ih =>
    intro h id b hi hb
    rw [killL_cons] at hb
    rcases List.mem_cons.1 hi with rfl | hi
    · rcases killL_get ids _ _ _ hb with h1 | h1
      · exact h1
      · by_cases hl : id < h.length
        · rw [List.getElem?_set_self hl] at h1; cases h1; rfl
        · rw [List.getElem?_eq_none (by simp; omega)] at h1; cases h1
    · exact ih _ _ _ hi hb
theorem killL_live (ids : List Nat) : ∀ (h : Heap) (id : Nat), id ∉ ids → (killL h ids)[id]? = h[id]? := by
  induction ids with
  | nil => intro h id _; rfl
  | cons i ids ih =>
    intro h id hi
    rw [killL_cons, ih _ _ (fun q => hi (List.mem_cons_of_mem _ q)), List.getElem?_set_ne (fun q => hi (by rw [q]; exact List.mem_cons_self))]

/-- The blocks that an unordered operation writes. -/
def deadOf (D : List (List Nat)) (ms : List Nat) (n j : Nat) : List Nat := (List.range n).flatMap fun i => if i == j || ordB ms i j then [] else D.getD i []

theorem deadOf_mem {D : List (List Nat)} {ms : List Nat} {n j i id : Nat} (hi : i < n) (hj : i ≠ j) (ho : ordB ms i j = false) (hid : id ∈ D.getD i []) : id ∈ deadOf D ms n j := by
  unfold deadOf
  rw [List.mem_flatMap]
  refine ⟨i, List.mem_range.2 hi, ?_⟩
  have : (i == j || ordB ms i j) = false := by simp [hj, ho]
  rw [this]
  exact hid

def PreOk2 (al : List Bool) (n : Nat) (pre : List (Nat × Nat)) : Prop := PreOk al pre ∧ ∀ (i s e : Nat), pre[i]? = some (s, e) → e ≤ n
theorem PreOk2.nil (n : Nat) : PreOk2 [] n [] := ⟨PreOk.nil, fun i s e h => by simp at h⟩
theorem PreOk2.snoc {al : List Bool} {n n' : Nat} {pre : List (Nat × Nat)} (h : PreOk2 al n pre) {a : Bool} (hn : n ≤ n') (ha : a = false → n = n') : PreOk2 (al ++ [a]) n' (pre ++ [(n, n')]) := by
  refine ⟨h.1.snoc ha, fun i s e hi => ?_⟩
  by_cases hl : i < pre.length
  · rw [List.getElem?_append_left hl] at hi
    exact Nat.le_trans (h.2 i s e hi) hn
  · rw [List.getElem?_append_right (by omega)] at hi
    have := (List.getElem?_eq_some_iff.1 hi).1
    simp at this
    rw [show i - pre.length = 0 by omega] at hi
    simp at hi; omega

structure XE (P : Program) (G : Glo) (ops : Array Oper) (ms : List Nat) (D : List (List Nat)) (Q : Exit → Tmps → Heap → Prop) (l : List Oper) (j : Nat) (T : Tmps) (h : Heap) (al : List Bool) : Prop where
  ad : ∀ pre, PreOk2 al h.length pre → ADraw P G ops ms D Q l j T h pre

theorem ids_plain {A : Nat → Prop} {x : Value} (h : af1 x = true) : IdsP A x :=
  ((VRel.of_af (n := 0) (m := fun _ => ⟨0, 0, 0, 0⟩) (by cases x <;> simp_all [af, af1] : af x = true)).ids).mono fun id q => absurd q (Nat.not_lt_zero _)

section
variable {P : Program} {G : Glo} {N : Nat} {Q : Exit → Tmps → Heap → Prop} {ops : Array Oper} {ms : List Nat} {D : List (List Nat)} {T : Tmps} {h : Heap} {rest : List Oper} {j : Nat} {al : List Bool}
  {op : Op} {ty : TypeId} {pos : String} {aft : Array Edge} {d : Nat} {v : Value}

theorem xe_reg {id : Nat} {l : List Oper} (hm : P.follows .mixedOrders = true) {ms : List Nat} (hms : ancM l [] = ms) (hok : drawOk G N l.toArray ms = true) (D : List (List Nat))
    (hd : XE P G l.toArray ms D Q l 0 T h []) : AW P G N (.region id l.toArray true) Q T h := by
  subst hms
  exact aw_draw hm D hok (hd.ad [] (PreOk2.nil _))

theorem xe_nil (hq : Q .normal T h) : XE P G ops ms D Q [] j T h al := ⟨fun _ _ => hq⟩

theorem vok_kill {pre : List (Nat × Nat)} {ids : List Nat} {n : Nat} (hp : PreOk al pre) (ho : ordAll ms al j = true) (hids : deadOf D ms n j = ids) : VOk n ms D pre j h (killL h ids) :=
  ⟨killL_length _ _, fun id b hb => killL_get _ _ _ _ hb, fun i s e hi hn id h1 h2 => by have := hp.ord ho i s e hi hn; omega,
    fun i hi hj hn id hid b hb => killL_dead ids _ _ _ (by rw [← hids]; exact deadOf_mem hi hj hn hid) hb⟩

/-- The general step. -/
theorem xe_gen {o : Oper} {h' : Heap} {a : Bool} {ids : List Nat} (ho : ordAll ms al j = true) (hids : deadOf D ms ops.size j = ids) (hw : wantedA ops T o = true) (hle : h.length ≤ h'.length) (ha : a = false → h.length = h'.length)
    (hA : StepA (killL h ids) h h' (D.getD j [])) (hs : AOp P G o T (killL h ids) fun v' h2 => v' = v ∧ StepB (killL h ids) h2 h' (D.getD j []))
    (hk : XE P G ops ms D Q rest (j + 1) (put T o.dst v) h' (al ++ [a])) : XE P G ops ms D Q (o :: rest) j T h al :=
  ⟨fun pre hp => ⟨fun _ => ⟨killL h ids, v, h', vok_kill hp.1 ho hids, hA, .inl fun i s e hi hn => hp.1.ord ho i s e hi hn, hs, hk.ad _ (hp.snoc hle ha)⟩, fun hn => absurd (hw.symm.trans hn) (by simp)⟩⟩

theorem stepA_none {V : Heap} {L : Heap} : StepA V h (h ++ L) [] := ⟨by simp, fun id hid _ => List.getElem?_append_left hid, fun id hid => by simp at hid, fun id hid => by simp at hid⟩
theorem stepB_none {V L : Heap} (hl : V.length = h.length) : StepB V (V ++ L) (h ++ L) [] := by
  refine ⟨by simp [hl], fun id hid _ => List.getElem?_append_left hid, fun id hid => ?_⟩
  rcases hid with hid | hid
  · simp at hid
  · rw [List.getElem?_append_right hid, List.getElem?_append_right (by omega), hl]

/-- An operation that writes nothing. -/
theorem xe_do {ids : List Nat} (hpl : plainOp op = true) (ho : ordAll ms al j = true) (hids : deadOf D ms ops.size j = ids) (hD : D.getD j [] = []) (hs : stp P (killL h ids) (ev T) op = some (v, killL h ids))
    (hk : XE P G ops ms D Q rest (j + 1) (put T (some d) v) h (al ++ [false])) : XE P G ops ms D Q (⟨some d, op, ty, pos, aft, none⟩ :: rest) j T h al := by
  have e0 : h ++ [] = h := List.append_nil h
  have e1 : killL h ids ++ [] = killL h ids := List.append_nil _
  refine xe_gen (h' := h) (a := false) ho hids (wanted_none rfl) (Nat.le_refl _) (fun _ => rfl) ?_ (aop_stp hs ⟨rfl, ?_⟩) hk
  · rw [hD]; have := stepA_none (V := killL h ids) (h := h) (L := []); rw [e0] at this; exact this
  · rw [hD]; have := stepB_none (V := killL h ids) (h := h) (L := []) (killL_length _ _); rw [e0, e1] at this; exact this

/-- A cell that is made while others work. -/
theorem xe_alloc {t : TypeId} {z : List Value} (hz : zcT P t = some z) (hpl : z.all af1 = true) (hD : D.getD j [] = [])
    (hk : XE P G ops ms D Q rest (j + 1) (put T (some d) (.pointer (some ⟨h.length, 0, none⟩))) (h ++ [⟨2, 1, z⟩]) (al ++ [true])) : XE P G ops ms D Q (⟨some d, .alloc t, ty, pos, aft, none⟩ :: rest) j T h al := by
  refine ⟨fun pre hp => ⟨fun _ => ?_, fun hn => absurd ((wanted_none (o := ⟨some d, .alloc t, ty, pos, aft, none⟩) (ops := ops) (T := T) rfl).symm.trans hn) (by simp)⟩⟩
  have hV : (h.map fun _ => (⟨0, 0, []⟩ : Blk)).length = h.length := by simp
  have hdead : ∀ (id : Nat) (b : Blk), (h.map fun _ => (⟨0, 0, []⟩ : Blk))[id]? = some b → b.k = 0 := by
    intro id b hb
    rw [List.getElem?_map] at hb
    cases hq : h[id]? with
    | none => rw [hq] at hb; cases hb
    | some x => rw [hq] at hb; cases hb; rfl
  rw [hD]
  refine ⟨h.map fun _ => ⟨0, 0, []⟩, .pointer (some ⟨h.length, 0, none⟩), h ++ [⟨2, 1, z⟩], ⟨hV, fun id b hb => .inl (hdead id b hb), fun i s e _ _ id _ _ b hb => hdead id b hb, fun i _ _ _ id _ b hb => hdead id b hb⟩,
    stepA_none, .inr fun i s e hi hn => ⟨?_, ?_⟩, ?_, hk.ad _ (hp.snoc (by simp) (fun q => by cases q))⟩
  · refine .ptr _ ?_
    have := hp.2 i s e hi
    simp only; omega
  · intro id b hid hb hk x hx
    rcases hid with hid | hid
    · simp at hid
    · rw [List.getElem?_append_right hid] at hb
      have := (List.getElem?_eq_some_iff.1 hb).1
      simp at this
      rw [show id - h.length = 0 by omega] at hb
      simp at hb; subst hb
      exact ids_plain (List.all_eq_true.1 hpl x hx)
  · refine aop_stp (v := .pointer (some ⟨h.length, 0, none⟩)) (h' := (h.map fun _ => (⟨0, 0, []⟩ : Blk)) ++ [⟨2, 1, z⟩]) ?_ ⟨rfl, stepB_none hV⟩
    simp only [stp, hz, Option.map_some, newB, List.length_map]

/-- A write to one block. -/
theorem xe_st {ids : List Nat} {t : TypeId} {x y : Operand} {a : Addr} {h' : Heap} (ho : ordAll ms al j = true) (hids : deadOf D ms ops.size j = ids) (hx : ev T x = .pointer (some a)) (hD : D.getD j [] = [a.block]) (hni : a.block ∉ ids)
    (hs : stp P h (ev T) (.store t x y) = some (v, h')) (hk : XE P G ops ms D Q rest (j + 1) T h' (al ++ [false])) : XE P G ops ms D Q (⟨none, .store t x y, ty, pos, aft, none⟩ :: rest) j T h al := by
  simp only [stp, stv, hx] at hs
  obtain ⟨h2, hs2, he⟩ := map_some hs
  simp only [Prod.mk.injEq] at he
  obtain ⟨rfl, rfl⟩ := he
  split at hs2
  · rename_i _ _ aa l hxe hy
    cases hxe
    split at hs2
    · rename_i hsz
      unfold setCs at hs2
      cases hb : h[a.block]? with
      | none => rw [hb] at hs2; simp at hs2
      | some b =>
        rw [hb] at hs2
        simp only at hs2
        split at hs2
        · rename_i hc
          cases hs2
          have hlt := lt_of_get hb
          have hVb : (killL h ids)[a.block]? = some b := by rw [killL_live _ _ _ hni]; exact hb
          have hstp : stp P (killL h ids) (ev T) (.store t x y) = some (undef, (killL h ids).set a.block ⟨2, b.e, splice b.cs a.off l⟩) := by
            simp only [stp, stv, hx, hy, if_pos hsz]
            unfold setCs
            rw [hVb]
            simp only [if_pos hc, Option.map_some]
          refine xe_gen (v := undef) (h' := h.set a.block ⟨2, b.e, splice b.cs a.off l⟩) (a := false) ho hids (wanted_none rfl) (by simp) (fun _ => by simp) ?_ (aop_stp hstp ⟨rfl, ?_⟩) hk
          · rw [hD]
            refine ⟨by simp, fun id hid hn => ?_, fun id hid => ?_, fun id hid => ?_⟩
            · rw [List.getElem?_set_ne (fun q => hn (by rw [q]; simp))]
            · simp at hid; omega
            · simp at hid; subst hid; exact ⟨b, hVb, by rw [hc.1]; simp⟩
          · rw [hD]
            refine ⟨by simp [killL_length], fun id hid hn => ?_, fun id hid => ?_⟩
            · rw [List.getElem?_set_ne (fun q => hn (by rw [q]; simp))]
            · rcases hid with hid | hid
              · simp at hid; subst hid
                rw [List.getElem?_set_self hlt, List.getElem?_set_self (by rw [killL_length]; exact hlt)]
              · rw [killL_length] at hid
                rw [List.getElem?_eq_none (by simp; omega), List.getElem?_eq_none (by simp [killL_length]; omega)]
        · cases hs2
    · cases hs2
  · cases hs2

section
variable {fo : Operand} {f : FuncId} {fs cs args : Array Value} {as : Array Operand} {ats : Array TypeId}

/-- A call that writes nothing and makes blocks, if any. -/
theorem xe_cl {ids : List Nat} {L : Heap} {a : Bool} (hv : ev T fo = .func (.func f) fs cs) (hc : callOk P f = true) (hargs : fs ++ as.map (ev T) ++ cs = args) (ho : ordAll ms al j = true) (hids : deadOf D ms ops.size j = ids)
    (hD : D.getD j [] = []) (haL : a = false → L = []) (hca : ACalls P G f args (killL h ids) fun v' h' => v' = v ∧ h' = killL h ids ++ L)
    (hk : XE P G ops ms D Q rest (j + 1) (put T (some d) v) (h ++ L) (al ++ [a])) : XE P G ops ms D Q (⟨some d, .call ⟨.value fo, as, ats⟩, ty, pos, aft, none⟩ :: rest) j T h al := by
  have hc2 : ACalls P G f args (killL h ids) fun v' h2 => v' = v ∧ StepB (killL h ids) h2 (h ++ L) (D.getD j []) :=
    hca.mono fun v' h' q => ⟨q.1, by rw [hD, q.2]; exact stepB_none (killL_length _ _)⟩
  exact xe_gen (h' := h ++ L) (a := a) ho hids (wanted_none rfl) (by simp) (fun q => by rw [haL q]; simp) (by rw [hD]; exact stepA_none) (aop_call rfl rfl hv hc (by rw [hargs]; exact hc2)) hk

/-- A call that writes blocks of its own, where no unordered operation writes. -/
theorem xe_clw {h' : Heap} {a : Bool} {E : List Nat} (hv : ev T fo = .func (.func f) fs cs) (hc : callOk P f = true) (hargs : fs ++ as.map (ev T) ++ cs = args) (ho : ordAll ms al j = true) (hids : deadOf D ms ops.size j = [])
    (hD : D.getD j [] = E) (hca : ACalls P G f args h fun v' h2 => v' = v ∧ h2 = h') (hle : h.length ≤ h'.length) (ha : a = false → h.length = h'.length)
    (hsame : ∀ id, id < h.length → id ∉ E → h'[id]? = h[id]?) (hE : ∀ id, id ∈ E → ∃ b : Blk, h[id]? = some b ∧ b.k ≠ 0)
    (hk : XE P G ops ms D Q rest (j + 1) (put T (some d) v) h' (al ++ [a])) : XE P G ops ms D Q (⟨some d, .call ⟨.value fo, as, ats⟩, ty, pos, aft, none⟩ :: rest) j T h al := by
  have hc2 : ACalls P G f args (killL h []) fun v' h2 => v' = v ∧ StepB (killL h []) h2 h' (D.getD j []) :=
    hca.mono fun v' h2 q => ⟨q.1, by rw [hD, q.2]; exact ⟨rfl, hsame, fun id _ => rfl⟩⟩
  refine xe_gen (h' := h') (a := a) ho hids (wanted_none rfl) hle ha ?_ (aop_call rfl rfl hv hc (by rw [hargs]; exact hc2)) hk
  rw [hD]; exact ⟨hle, hsame, fun id hid => by obtain ⟨b, hb, _⟩ := hE id hid; exact lt_of_get hb, hE⟩

/-- A call that writes one block. -/
theorem xe_cset {id : Nat} {b b0 : Blk} (hv : ev T fo = .func (.func f) fs cs) (hc : callOk P f = true) (hargs : fs ++ as.map (ev T) ++ cs = args) (ho : ordAll ms al j = true) (hids : deadOf D ms ops.size j = [])
    (hD : D.getD j [] = [id]) (hca : ACalls P G f args h fun v' h2 => v' = v ∧ h2 = h.set id b) (hb : h[id]? = some b0) (hk0 : b0.k ≠ 0)
    (hk : XE P G ops ms D Q rest (j + 1) (put T (some d) v) (h.set id b) (al ++ [false])) : XE P G ops ms D Q (⟨some d, .call ⟨.value fo, as, ats⟩, ty, pos, aft, none⟩ :: rest) j T h al :=
  xe_clw hv hc hargs ho hids hD hca (by simp) (fun _ => by simp) (fun i hi hn => by rw [List.getElem?_set_ne (fun q => hn (by rw [q]; simp))])
    (fun i hi => by simp at hi; subst hi; exact ⟨b0, hb, hk0⟩) hk
end
end
end Go.Proofs.Ytiddnhhjlipebaa.Am
