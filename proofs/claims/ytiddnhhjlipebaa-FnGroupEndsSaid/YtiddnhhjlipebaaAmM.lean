/- A region whose order is open: what each of its operations comes to in a memory in which the effects of those that stand in no order to it are hidden. Conditions: none. -/
import Derived.Test.YtiddnhhjlipebaaAmL
namespace Go.Proofs.Ytiddnhhjlipebaa.Am
open Go
set_option linter.unusedVariables false
set_option linter.unusedSimpArgs false

def predsM (o : Oper) : List Nat := (o.after.toList.filter (Region.binds .any)).map (·.on)

def ancM : List Oper → List Nat → List Nat
  | [], acc => acc
  | o :: rest, acc => ancM rest (acc ++ [(predsM o).foldl (fun s i => s ||| 2 ^ i ||| acc.getD i 0) 0])

def ordB (ms : List Nat) (i j : Nat) : Bool := (ms.getD j 0).testBit i || (ms.getD i 0).testBit j

def opTmp (t : Nat) : Operand → Bool
  | .tmp u => u == t
  | _ => false

/-- Does an operation look at a slot? -/
def looksB (ops : Array Oper) (o : Oper) (t : Nat) : Bool :=
  o.op.operands.any (opTmp t) || (match o.guard with | some (g, _) => (ops[g]?).bind (·.dst) == some t | none => false)

def drawOk (G : Glo) (N : Nat) (ops : Array Oper) (ms : List Nat) : Bool :=
  ops.toList.zipIdx.all fun (o, j) => operOk G N ops o && (predsM o).all (fun i => decide (i < j)) &&
    ops.toList.zipIdx.all fun (o', i) => i == j || (match o'.dst with | some t => (!(looksB ops o t) && !(o.dst == some t)) || ordB ms i j | none => true)

/-- Ancestors, by the edges. -/
inductive Anc (ops : Array Oper) : Nat → Nat → Prop where
  | dir {i j : Nat} {o : Oper} (ho : ops[j]? = some o) (hi : i ∈ predsM o) : Anc ops i j
  | step {i p j : Nat} {o : Oper} (ho : ops[j]? = some o) (hp : p ∈ predsM o) (h : Anc ops i p) : Anc ops i j

theorem foldl_bits (acc : List Nat) (b : Nat) (l : List Nat) : ∀ (s : Nat), (l.foldl (fun s i => s ||| 2 ^ i ||| acc.getD i 0) s).testBit b = true →
    s.testBit b = true ∨ ∃ i, i ∈ l ∧ (b = i ∨ (acc.getD i 0).testBit b = true) := by
  induction l with
  | nil => intro s h; exact .inl h
  | cons i l ih =>
    intro s h
    simp only [List.foldl_cons] at h
    rcases ih _ h with h1 | ⟨k, h1, h2⟩
    · simp only [Nat.testBit_or, Bool.or_eq_true, Nat.testBit_two_pow, decide_eq_true_eq] at h1
      rcases h1 with (h1 | h1) | h1
      · exact .inl h1
      · exact .inr ⟨i, by simp, .inl h1.symm⟩
      · exact .inr ⟨i, by simp, .inr h1⟩
    · exact .inr ⟨k, by simp [h1], h2⟩

theorem ancM_ok (ops : Array Oper) (l : List Oper) : ∀ (acc : List Nat), (∀ k, l[k]? = ops[acc.length + k]?) →
    (∀ (j x : Nat), acc[j]? = some x → ∀ i, x.testBit i = true → Anc ops i j) →
    ∀ (j x : Nat), (ancM l acc)[j]? = some x → ∀ i, x.testBit i = true → Anc ops i j := by
  induction l with
  | nil => intro acc _ h; exact h
  | cons o rest ih =>
    intro acc hl h
    simp only [ancM]
    refine ih _ (fun k => ?_) ?_
    · have := hl (k + 1)
      simp only [List.length_append, List.length_cons, List.length_nil]
      rw [show acc.length + (0 + 1) + k = acc.length + (k + 1) from by omega, ← this]; rfl
    · intro j x hj i hx
      by_cases hja : j < acc.length
      · rw [List.getElem?_append_left hja] at hj; exact h j x hj i hx
      · rw [List.getElem?_append_right (by omega)] at hj
        have hj0 : j = acc.length := by
          rcases Nat.lt_or_ge (j - acc.length) 1 with h1 | h1
          · omega
          · rw [List.getElem?_eq_none (by simpa using h1)] at hj; cases hj
        subst hj0
        simp at hj
        subst hj
        have ho : ops[acc.length]? = some o := by have := hl 0; simpa using this.symm
        rcases foldl_bits acc i (predsM o) 0 hx with h1 | ⟨p, h1, h2⟩
        · simp at h1
        · rcases h2 with rfl | h2
          · exact .dir ho h1
          · rw [List.getD_eq_getElem?_getD] at h2
            cases hp : acc[p]? with
            | none => rw [hp] at h2; simp at h2
            | some y => rw [hp] at h2; exact .step ho h1 (h p y hp i (by simpa using h2))

theorem ordB_anc {ops : Array Oper} {i j : Nat} (h : ordB (ancM ops.toList []) i j = true) : Anc ops i j ∨ Anc ops j i := by
  have key := ancM_ok ops ops.toList [] (by simp) (by intro j x hj; simp at hj)
  have one : ∀ a b, ((ancM ops.toList []).getD b 0).testBit a = true → Anc ops a b := by
    intro a b hb
    rw [List.getD_eq_getElem?_getD] at hb
    cases hm : (ancM ops.toList [])[b]? with
    | none => rw [hm] at hb; simp at hb
    | some x => rw [hm] at hb; exact key b x hm a (by simpa using hb)
  unfold ordB at h
  rw [Bool.or_eq_true] at h
  rcases h with h | h
  · exact .inl (one i j h)
  · exact .inr (one j i h)

/-! ### the names that a value has -/

inductive IdsP (A : Nat → Prop) : Value → Prop where
  | bool (b : Bool) : IdsP A (.bool b)
  | int (k : IntKind) (i : Int) : IdsP A (.int k i)
  | string (s : ByteArray) : IdsP A (.string s)
  | nilFunc : IdsP A .nilFunc
  | nilIface : IdsP A .nilIface
  | ptrNone : IdsP A (.pointer none)
  | ptr (a : Addr) (h : A a.block) : IdsP A (.pointer (some a))
  | sliceNone (l c : Nat) : IdsP A (.slice none l c)
  | slice (a : Addr) (l c : Nat) (h : A a.block) : IdsP A (.slice (some a) l c)
  | func (fn : Fn) (fs cs : Array Value) (h1 : ∀ (i : Nat) (h : i < fs.size), IdsP A fs[i]) (h2 : ∀ (i : Nat) (h : i < cs.size), IdsP A cs[i]) : IdsP A (.func fn fs cs)
  | iface (t : TypeId) (v : Value) (h : IdsP A v) : IdsP A (.iface t v)
  | agg (cs : Array Value) (h : ∀ (i : Nat) (h : i < cs.size), IdsP A cs[i]) : IdsP A (.agg cs)
  | tuple (cs : Array Value) (h : ∀ (i : Nat) (h : i < cs.size), IdsP A cs[i]) : IdsP A (.tuple cs)

theorem VRel.ids {n : Nat} {m : Map} {u x : Value} (h : VRel n m u x) : IdsP (fun id => id < n) u := by
  induction h with
  | bool b => exact .bool b
  | int k i => exact .int k i
  | string s => exact .string s
  | nilFunc => exact .nilFunc
  | nilIface => exact .nilIface
  | ptrNone => exact .ptrNone
  | ptr a h1 h2 => exact .ptr a h2
  | sliceNone l c => exact .sliceNone l c
  | slice a l c h1 h2 => exact .slice a l c h2
  | sliceIn a y l c c' h1 h2 => exact .slice a l c h2
  | func fn fs cs fs' cs' hf hc _ _ i1 i2 => exact .func fn fs cs (fun i h => i1 i h (by omega)) (fun i h => i2 i h (by omega))
  | iface t v v' _ ih => exact .iface t v ih
  | agg cs cs' hs _ ih => exact .agg cs (fun i h => ih i h (by omega))
  | tuple cs cs' hs _ ih => exact .tuple cs (fun i h => ih i h (by omega))

theorem IdsP.and {A B : Nat → Prop} {u : Value} (h : IdsP A u) : IdsP B u → IdsP (fun id => A id ∧ B id) u := by
  induction h with
  | bool b => intro _; exact .bool b
  | int k i => intro _; exact .int k i
  | string s => intro _; exact .string s
  | nilFunc => intro _; exact .nilFunc
  | nilIface => intro _; exact .nilIface
  | ptrNone => intro _; exact .ptrNone
  | ptr a h1 => intro h; cases h with | ptr _ h2 => exact .ptr a ⟨h1, h2⟩
  | sliceNone l c => intro _; exact .sliceNone l c
  | slice a l c h1 => intro h; cases h with | slice _ _ _ h2 => exact .slice a l c ⟨h1, h2⟩
  | func fn fs cs _ _ i1 i2 => intro h; cases h with | func _ _ _ g1 g2 => exact .func fn fs cs (fun i h => i1 i h (g1 i h)) (fun i h => i2 i h (g2 i h))
  | iface t v _ ih => intro h; cases h with | iface _ _ g => exact .iface t v (ih g)
  | agg cs _ ih => intro h; cases h with | agg _ g => exact .agg cs (fun i h => ih i h (g i h))
  | tuple cs _ ih => intro h; cases h with | tuple _ g => exact .tuple cs (fun i h => ih i h (g i h))

theorem IdsP.mono {A B : Nat → Prop} {u : Value} (hab : ∀ id, A id → B id) (h : IdsP A u) : IdsP B u := by
  induction h with
  | bool b => exact .bool b
  | int k i => exact .int k i
  | string s => exact .string s
  | nilFunc => exact .nilFunc
  | nilIface => exact .nilIface
  | ptrNone => exact .ptrNone
  | ptr a h1 => exact .ptr a (hab _ h1)
  | sliceNone l c => exact .sliceNone l c
  | slice a l c h1 => exact .slice a l c (hab _ h1)
  | func fn fs cs _ _ i1 i2 => exact .func fn fs cs i1 i2
  | iface t v _ ih => exact .iface t v ih
  | agg cs _ ih => exact .agg cs ih
  | tuple cs _ ih => exact .tuple cs ih

theorem IdsP.all {A : Nat → Prop} {u x : Value} {n : Nat} {m : Map} (h : VRel n m u x) (ha : ∀ id, A id) : IdsP A u := h.ids.mono fun id _ => ha id

theorem VRel.change {n n' : Nat} {m m' : Map} {A : Nat → Prop} {u x : Value} (h : VRel n m u x) (hA : ∀ id, A id → id < n' ∧ m' id = m id) : IdsP A u → VRel n' m' u x := by
  induction h with
  | bool b => intro _; exact .bool b
  | int k i => intro _; exact .int k i
  | string s => intro _; exact .string s
  | nilFunc => intro _; exact .nilFunc
  | nilIface => intro _; exact .nilIface
  | ptrNone => intro _; exact .ptrNone
  | ptr a h1 h2 =>
    intro h; cases h with | ptr _ h3 =>
    obtain ⟨q1, q2⟩ := hA _ h3
    have : place m a = place m' a := by unfold place; rw [q2]
    rw [this]; exact .ptr a h1 q1
  | sliceNone l c => intro _; exact .sliceNone l c
  | slice a l c h1 h2 =>
    intro h; cases h with | slice _ _ _ h3 =>
    obtain ⟨q1, q2⟩ := hA _ h3
    have : place m a = place m' a := by unfold place; rw [q2]
    rw [this]; exact .slice a l c h1 q1
  | sliceIn a y l c c' h1 h2 h3 h4 h5 h6 h7 h8 =>
    intro h; cases h with | slice _ _ _ h9 =>
    obtain ⟨q1, q2⟩ := hA _ h9
    have : place m' a = place m a := by unfold place; rw [q2]
    exact .sliceIn a y l c c' h1 q1 h3 h4 (by rw [q2]; exact h5) (fun q => by rw [this]; exact h6 q) (by rw [q2]; exact h7) (by rw [q2]; exact h8)
  | func fn fs cs fs' cs' hf hc _ _ i1 i2 =>
    intro h; cases h with | func _ _ _ g1 g2 => exact .func fn fs cs fs' cs' hf hc (fun i q1 q2 => i1 i q1 q2 (g1 i q1)) (fun i q1 q2 => i2 i q1 q2 (g2 i q1))
  | iface t v v' _ ih => intro h; cases h with | iface _ _ g => exact .iface t v v' (ih g)
  | agg cs cs' hs _ ih => intro h; cases h with | agg _ g => exact .agg cs cs' hs (fun i q1 q2 => ih i q1 q2 (g i q1))
  | tuple cs cs' hs _ ih => intro h; cases h with | tuple _ g => exact .tuple cs cs' hs (fun i q1 q2 => ih i q1 q2 (g i q1))

/-- What a step changes: the blocks of D, and new ones. -/
structure StepA (V H H' : Heap) (D : List Nat) : Prop where
  le : H.length ≤ H'.length
  same : ∀ id, id < H.length → id ∉ D → H'[id]? = H[id]?
  dlt : ∀ id, id ∈ D → id < H.length
  dlive : ∀ id, id ∈ D → ∃ b : Blk, V[id]? = some b ∧ b.k ≠ 0

structure StepB (V h' H' : Heap) (D : List Nat) : Prop where
  hlen : h'.length = H'.length
  same : ∀ id, id < V.length → id ∉ D → h'[id]? = V[id]?
  new : ∀ id, (id ∈ D ∨ V.length ≤ id) → H'[id]? = h'[id]?

/-- What a step hands on names nothing that an unordered one has made. -/
def ScOk (ms : List Nat) (pre : List (Nat × Nat)) (j : Nat) (v : Value) (H H' : Heap) (D : List Nat) : Prop :=
  (∀ (i s e : Nat), pre[i]? = some (s, e) → ordB ms i j = false → s = e) ∨
  (∀ (i s e : Nat), pre[i]? = some (s, e) → ordB ms i j = false → IdsP (fun id => ¬ (s ≤ id ∧ id < e)) v ∧
    ∀ (id : Nat) (b : Blk), (id ∈ D ∨ H.length ≤ id) → H'[id]? = some b → b.k ≠ 0 → ∀ x, x ∈ b.cs → IdsP (fun id => ¬ (s ≤ id ∧ id < e)) x)

structure VOk (n : Nat) (ms : List Nat) (D : List (List Nat)) (pre : List (Nat × Nat)) (j : Nat) (H V : Heap) : Prop where
  len : V.length = H.length
  sub : ∀ (id : Nat) (b : Blk), V[id]? = some b → b.k = 0 ∨ H[id]? = some b
  pre : ∀ (i s e : Nat), pre[i]? = some (s, e) → ordB ms i j = false → ∀ id, s ≤ id → id < e → ∀ b : Blk, V[id]? = some b → b.k = 0
  dead : ∀ i, i < n → i ≠ j → ordB ms i j = false → ∀ id, id ∈ D.getD i [] → ∀ b : Blk, V[id]? = some b → b.k = 0

section
variable {P : Program} {G : Glo} {N : Nat} {Q : Exit → Tmps → Heap → Prop}

def ADraw (P : Program) (G : Glo) (ops : Array Oper) (ms : List Nat) (D : List (List Nat)) (Q : Exit → Tmps → Heap → Prop) :
    List Oper → Nat → Tmps → Heap → List (Nat × Nat) → Prop
  | [], _, T, H, _ => Q .normal T H
  | o :: rest, j, T, H, pre =>
    (wantedA ops T o = true → ∃ V v H', VOk ops.size ms D pre j H V ∧ StepA V H H' (D.getD j []) ∧ ScOk ms pre j v H H' (D.getD j []) ∧ AOp P G o T V (fun v' h' => v' = v ∧ StepB V h' H' (D.getD j [])) ∧
      ADraw P G ops ms D Q rest (j + 1) (put T o.dst v) H' (pre ++ [(H.length, H'.length)])) ∧
    (wantedA ops T o = false → D.getD j [] = [] ∧ ADraw P G ops ms D Q rest (j + 1) (put T o.dst undef) H (pre ++ [(H.length, H.length)]))

/-- The whole of a region, in the order of its text. -/
structure Text (P : Program) (G : Glo) (ops : Array Oper) (ms : List Nat) (D : List (List Nat)) (T : Nat → Tmps) (H : Nat → Heap) (v : Nat → Value) (k : Nat) : Prop where
  tmp : ∀ j o, ops[j]? = some o → k ≤ j → T (j + 1) = put (T j) o.dst (v j)
  op : ∀ j o, ops[j]? = some o → k ≤ j → (wantedA ops (T j) o = true ∧ ∃ V, (V.length = (H j).length ∧ (∀ (id : Nat) (b : Blk), V[id]? = some b → b.k = 0 ∨ (H j)[id]? = some b) ∧
      (∀ i, i < j → ordB ms i j = false → ∀ id, (H i).length ≤ id → id < (H (i + 1)).length → ∀ b : Blk, V[id]? = some b → b.k = 0) ∧
      (∀ i, i < ops.size → i ≠ j → ordB ms i j = false → ∀ id, id ∈ D.getD i [] → ∀ b : Blk, V[id]? = some b → b.k = 0)) ∧
      StepA V (H j) (H (j + 1)) (D.getD j []) ∧
      ((∀ i, i < j → ordB ms i j = false → (H i).length = (H (i + 1)).length) ∨
        (∀ i, i < j → ordB ms i j = false → IdsP (fun id => ¬ ((H i).length ≤ id ∧ id < (H (i + 1)).length)) (v j) ∧
          ∀ (id : Nat) (b : Blk), (id ∈ D.getD j [] ∨ (H j).length ≤ id) → (H (j + 1))[id]? = some b → b.k ≠ 0 → ∀ x, x ∈ b.cs →
            IdsP (fun id => ¬ ((H i).length ≤ id ∧ id < (H (i + 1)).length)) x)) ∧
      AOp P G o (T j) V (fun v' h' => v' = v j ∧ StepB V h' (H (j + 1)) (D.getD j []))) ∨
    (wantedA ops (T j) o = false ∧ v j = undef ∧ H (j + 1) = H j ∧ D.getD j [] = [])

theorem text_of_adraw {ops : Array Oper} {ms : List Nat} {D : List (List Nat)} (l : List Oper) : ∀ (j : Nat) (T0 : Nat → Tmps) (H0 : Nat → Heap) (pre : List (Nat × Nat)),
    (∀ k, l[k]? = ops[j + k]?) → pre.length = j → (∀ i, i < j → pre[i]? = some ((H0 i).length, (H0 (i + 1)).length)) →
    ADraw P G ops ms D Q l j (T0 j) (H0 j) pre →
    ∃ T H v, (∀ i, i ≤ j → T i = T0 i) ∧ (∀ i, i ≤ j → H i = H0 i) ∧ Text P G ops ms D T H v j ∧ Q .normal (T (j + l.length)) (H (j + l.length)) := by
  induction l with
  | nil =>
    intro j T0 H0 pre hl hpl hpre h
    have hsz : ops.size ≤ j := by
      have := hl 0
      simp at this
      exact this
    have none : ∀ k o, ops[k]? = some o → j ≤ k → False := by
      intro k o ho hk
      have := (Array.getElem?_eq_some_iff.1 ho).1; omega
    exact ⟨T0, H0, fun _ => undef, fun _ _ => rfl, fun _ _ => rfl, ⟨fun k o ho hk => (none k o ho hk).elim, fun k o ho hk => (none k o ho hk).elim⟩, by simpa [ADraw] using h⟩
  | cons o rest ih =>
    intro j T0 H0 pre hl hpl hpre h
    have hoj : ops[j]? = some o := by have := hl 0; simpa using this.symm
    have hjn : j < ops.size := (Array.getElem?_eq_some_iff.1 hoj).1
    have hl' : ∀ k, rest[k]? = ops[j + 1 + k]? := fun k => by
      have := hl (k + 1)
      rw [show j + 1 + k = j + (k + 1) from by omega, ← this]; rfl
    have build : ∀ (vj : Value) (H' : Heap), ADraw P G ops ms D Q rest (j + 1) (put (T0 j) o.dst vj) H' (pre ++ [((H0 j).length, H'.length)]) →
        ((wantedA ops (T0 j) o = true ∧ ∃ V, VOk ops.size ms D pre j (H0 j) V ∧ StepA V (H0 j) H' (D.getD j []) ∧ ScOk ms pre j vj (H0 j) H' (D.getD j []) ∧ AOp P G o (T0 j) V (fun v' h' => v' = vj ∧ StepB V h' H' (D.getD j []))) ∨
          (wantedA ops (T0 j) o = false ∧ vj = undef ∧ H' = H0 j ∧ D.getD j [] = [])) →
        ∃ T H v, (∀ i, i ≤ j → T i = T0 i) ∧ (∀ i, i ≤ j → H i = H0 i) ∧ Text P G ops ms D T H v j ∧ Q .normal (T (j + (o :: rest).length)) (H (j + (o :: rest).length)) := by
      intro vj H' hrest hop
      obtain ⟨T, H, v, hT, hH, ht, hq⟩ := ih (j + 1) (fun i => if i = j + 1 then put (T0 j) o.dst vj else T0 i) (fun i => if i = j + 1 then H' else H0 i)
        (pre ++ [((H0 j).length, H'.length)]) hl' (by simp [hpl]) (fun i hi => by
          by_cases hij : i = j
          · subst hij
            rw [List.getElem?_append_right (by omega)]
            simp [hpl]
          · rw [List.getElem?_append_left (by omega), hpre i (by omega)]
            simp only [if_neg (show i ≠ j + 1 from by omega), if_neg (show i + 1 ≠ j + 1 from by omega)])
        (by simpa using hrest)
      have hTj : T j = T0 j := by rw [hT j (by omega)]; simp
      have hHj : H j = H0 j := by rw [hH j (by omega)]; simp
      have hT1 : T (j + 1) = put (T0 j) o.dst vj := by rw [hT (j + 1) (by omega)]; simp
      have hH1 : H (j + 1) = H' := by rw [hH (j + 1) (by omega)]; simp
      have hHi : ∀ i, i ≤ j → H i = H0 i := fun i hi => by rw [hH i (by omega)]; simp only [if_neg (show i ≠ j + 1 from by omega)]
      refine ⟨T, H, fun i => if i = j then vj else v i, fun i hi => by rw [hT i (by omega)]; simp only [if_neg (show i ≠ j + 1 from by omega)], hHi, ?_, ?_⟩
      · refine ⟨fun k o' ho' hk => ?_, fun k o' ho' hk => ?_⟩
        · by_cases hkj : k = j
          · subst hkj
            rw [hoj] at ho'; cases ho'
            simp only [if_true]
            rw [hT1, hTj]
          · simp only [if_neg hkj]; exact ht.tmp k o' ho' (by omega)
        · by_cases hkj : k = j
          · subst hkj
            rw [hoj] at ho'; cases ho'
            simp only [if_true]
            rw [hTj, hHj, hH1]
            rcases hop with ⟨h1, V, h2, h2', hsc, h3⟩ | ⟨h1, h2, h3, h4⟩
            · refine .inl ⟨h1, V, ⟨h2.len, h2.sub, fun i hi hord id hs he => ?_, h2.dead⟩, h2', ?_, h3⟩
              · exact h2.pre i _ _ (by rw [hpre i hi, ← hHi i (by omega), ← hHi (i + 1) (by omega)]) hord id hs he
              · rcases hsc with hsc | hsc
                · exact .inl fun i hi hord => hsc i _ _ (by rw [hpre i hi, ← hHi i (by omega), ← hHi (i + 1) (by omega)]) hord
                · exact .inr fun i hi hord => hsc i _ _ (by rw [hpre i hi, ← hHi i (by omega), ← hHi (i + 1) (by omega)]) hord
            · exact .inr ⟨h1, h2, h3, h4⟩
          · simp only [if_neg hkj]; exact ht.op k o' ho' (by omega)
      · have : j + 1 + rest.length = j + (o :: rest).length := by simp; omega
        rw [this] at hq; exact hq
    obtain ⟨hy, hn⟩ := h
    cases hw : wantedA ops (T0 j) o with
    | true =>
      obtain ⟨V, vj, H', hV, hA, hsc, ha, hrest⟩ := hy hw
      exact build vj H' hrest (.inl ⟨hw, V, hV, hA, hsc, ha⟩)
    | false =>
      obtain ⟨hD, hrest⟩ := hn hw
      exact build undef (H0 j) hrest (.inr ⟨hw, rfl, rfl, hD⟩)

end
end Go.Proofs.Ytiddnhhjlipebaa.Am
