/- A region whose order is open does, in every order that its edges allow, what it does in the order of its text. Conditions: none. -/
import Derived.Test.YtiddnhhjlipebaaAmM
namespace Go.Proofs.Ytiddnhhjlipebaa.Am
open Go
set_option linter.unusedVariables false
set_option linter.unusedSimpArgs false

section
variable {P : Program} {G : Glo} {N : Nat} {ops : Array Oper} {ms : List Nat} {D : List (List Nat)} {T : Nat → Tmps} {H : Nat → Heap} {v : Nat → Value}

def Tch (H : Nat → Heap) (D : List (List Nat)) (i id : Nat) : Prop := ((H i).length ≤ id ∧ id < (H (i + 1)).length) ∨ id ∈ D.getD i []

structure DrawFacts (P : Program) (G : Glo) (N : Nat) (ops : Array Oper) (ms : List Nat) (D : List (List Nat)) (T : Nat → Tmps) (H : Nat → Heap) (v : Nat → Value) : Prop where
  text : Text P G ops ms D T H v 0
  hms : ms = ancM ops.toList []
  ok : drawOk G N ops ms = true

theorem DrawFacts.okAt (f : DrawFacts P G N ops ms D T H v) {j : Nat} {o : Oper} (ho : ops[j]? = some o) :
    operOk G N ops o = true ∧ (∀ p, p ∈ predsM o → p < j) ∧
    ∀ (i : Nat) (o' : Oper) (t : Nat), ops[i]? = some o' → i ≠ j → o'.dst = some t → (looksB ops o t = true ∨ o.dst = some t) → ordB ms i j = true := by
  have h := f.ok
  unfold drawOk at h
  rw [List.all_eq_true] at h
  have hj : (o, j) ∈ ops.toList.zipIdx := by
    rw [List.mem_zipIdx_iff_getElem?]; simpa using ho
  have h1 := h _ hj
  simp only [Bool.and_eq_true, List.all_eq_true, decide_eq_true_eq] at h1
  obtain ⟨⟨h1, h2⟩, h3⟩ := h1
  refine ⟨h1, h2, fun i o' t ho' hij hd hl => ?_⟩
  have hi : (o', i) ∈ ops.toList.zipIdx := by
    rw [List.mem_zipIdx_iff_getElem?]; simpa using ho'
  have h4 := h3 _ hi
  simp only [Bool.or_eq_true, beq_iff_eq, hd, Bool.and_eq_true, Bool.not_eq_true'] at h4
  rcases h4 with h4 | h4 | h4
  · exact absurd h4 hij
  · rcases hl with hl | hl
    · rw [hl] at h4; exact absurd h4.1 (by simp)
    · rw [hl] at h4; simp at h4
  · exact h4

theorem DrawFacts.anc_lt (f : DrawFacts P G N ops ms D T H v) {i j : Nat} (h : Anc ops i j) : i < j := by
  induction h with
  | dir ho hi => exact (f.okAt ho).2.1 _ hi
  | step ho hp _ ih => exact Nat.lt_trans ih ((f.okAt ho).2.1 _ hp)

theorem anc_closed {S : Nat → Prop} (hc : ∀ i o, S i → ops[i]? = some o → ∀ p, p ∈ predsM o → S p) {i j : Nat} (h : Anc ops i j) :
    (∀ o, ops[j]? = some o → ∀ p, p ∈ predsM o → S p) → S i := by
  induction h with
  | dir ho hi => intro hj; exact hj _ ho _ hi
  | step ho hp _ ih => intro hj; exact ih fun o ho' => hc _ _ (hj _ ho _ hp) ho'

theorem DrawFacts.le1 (f : DrawFacts P G N ops ms D T H v) {j : Nat} (hj : j < ops.size) : (H j).length ≤ (H (j + 1)).length := by
  obtain ⟨o, ho⟩ : ∃ o, ops[j]? = some o := ⟨_, Array.getElem?_eq_getElem hj⟩
  rcases f.text.op j o ho (Nat.zero_le _) with ⟨_, V, _, hA, _⟩ | ⟨_, _, h, _⟩
  · exact hA.le
  · rw [h]; exact Nat.le_refl _

theorem DrawFacts.le (f : DrawFacts P G N ops ms D T H v) {i j : Nat} (hij : i ≤ j) (hj : j ≤ ops.size) : (H i).length ≤ (H j).length := by
  induction j with
  | zero => have : i = 0 := by omega
            subst this; exact Nat.le_refl _
  | succ j ih =>
    rcases Nat.lt_or_ge i (j + 1) with h | h
    · exact Nat.le_trans (ih (by omega) (by omega)) (f.le1 (by omega))
    · have : i = j + 1 := by omega
      subst this; exact Nat.le_refl _

theorem DrawFacts.same (f : DrawFacts P G N ops ms D T H v) {j : Nat} (hj : j < ops.size) {id : Nat} (hid : id < (H j).length) (hD : id ∉ D.getD j []) :
    (H (j + 1))[id]? = (H j)[id]? := by
  obtain ⟨o, ho⟩ : ∃ o, ops[j]? = some o := ⟨_, Array.getElem?_eq_getElem hj⟩
  rcases f.text.op j o ho (Nat.zero_le _) with ⟨_, V, _, hA, _⟩ | ⟨_, _, h, _⟩
  · exact hA.same id hid hD
  · rw [h]

/-- Who wrote a block last, ahead of an operation. -/
theorem DrawFacts.blk (f : DrawFacts P G N ops ms D T H v) : ∀ (j : Nat), j ≤ ops.size → ∀ (id : Nat) (b : Blk), (H j)[id]? = some b →
    (∃ i, i < j ∧ Tch H D i id ∧ (H (i + 1))[id]? = some b ∧ ∀ k, k < j → Tch H D k id → k ≤ i) ∨ ((∀ i, i < j → ¬ Tch H D i id) ∧ (H 0)[id]? = some b) := by
  intro j
  induction j with
  | zero => intro _ id b hb; exact .inr ⟨fun i hi => by omega, hb⟩
  | succ j ih =>
    intro hj id b hb
    by_cases ht : Tch H D j id
    · exact .inl ⟨j, by omega, ht, hb, fun k hk _ => by omega⟩
    · have hlt := lt_of_get hb
      have hid : id < (H j).length := by
        rcases Nat.lt_or_ge id (H j).length with h | h
        · exact h
        · exact absurd (.inl ⟨h, hlt⟩) ht
      have hD : id ∉ D.getD j [] := fun h => ht (.inr h)
      rw [f.same (by omega) hid hD] at hb
      rcases ih (by omega) id b hb with ⟨i, h1, h2, h3, h4⟩ | ⟨h1, h2⟩
      · refine .inl ⟨i, by omega, h2, h3, fun k hk hk2 => ?_⟩
        rcases Nat.lt_or_ge k j with h | h
        · exact h4 k h hk2
        · have : k = j := by omega
          subst this; exact absurd hk2 ht
      · refine .inr ⟨fun i hi hi2 => ?_, h2⟩
        rcases Nat.lt_or_ge i j with h | h
        · exact h1 i h hi2
        · have : i = j := by omega
          subst this; exact ht hi2

theorem DrawFacts.tmp (f : DrawFacts P G N ops ms D T H v) (t : Nat) : ∀ (j : Nat), j ≤ ops.size →
    (∃ i o, i < j ∧ ops[i]? = some o ∧ o.dst = some t ∧ T j t = v i ∧ ∀ k o', k < j → ops[k]? = some o' → o'.dst = some t → k ≤ i) ∨
    ((∀ i o, i < j → ops[i]? = some o → o.dst ≠ some t) ∧ T j t = T 0 t) := by
  intro j
  induction j with
  | zero => intro _; exact .inr ⟨fun i o hi => by omega, rfl⟩
  | succ j ih =>
    intro hj
    obtain ⟨o, ho⟩ : ∃ o, ops[j]? = some o := ⟨_, Array.getElem?_eq_getElem (show j < ops.size by omega)⟩
    have hT := f.text.tmp j o ho (Nat.zero_le _)
    by_cases hd : o.dst = some t
    · refine .inl ⟨j, o, by omega, ho, hd, ?_, fun k o' hk _ _ => by omega⟩
      rw [hT, hd]; simp [put_some]
    · have hTj : T (j + 1) t = T j t := by
        rw [hT]
        cases hdd : o.dst with
        | none => rfl
        | some d => rw [put_some, if_neg]; rintro rfl; exact hd hdd
      rcases ih (by omega) with ⟨i, oi, h1, h2, h3, h4, h5⟩ | ⟨h1, h2⟩
      · refine .inl ⟨i, oi, by omega, h2, h3, by rw [hTj]; exact h4, fun k o' hk hk2 hk3 => ?_⟩
        rcases Nat.lt_or_ge k j with h | h
        · exact h5 k o' h hk2 hk3
        · have : k = j := by omega
          subst this
          rw [ho] at hk2; cases hk2; exact absurd hk3 hd
      · refine .inr ⟨fun i o' hi hi2 hi3 => ?_, by rw [hTj]; exact h2⟩
        rcases Nat.lt_or_ge i j with h | h
        · exact h1 i o' h hi2 hi3
        · have : i = j := by omega
          subst this
          rw [ho] at hi2; cases hi2; exact hd hi3

/-- The names that step i may hand on. -/
def Av (ops : Array Oper) (ms : List Nat) (H : Nat → Heap) (i id : Nat) : Prop :=
  id < (H (i + 1)).length ∧ ∀ k, k < i → ordB ms k i = false → ¬ ((H k).length ≤ id ∧ id < (H (k + 1)).length)

/-- A run that has done the operations of S: the frame and the memory. -/
structure DInv (P : Program) (G : Glo) (N : Nat) (ops : Array Oper) (ms : List Nat) (D : List (List Nat)) (T : Nat → Tmps) (H : Nat → Heap) (v : Nat → Value)
    (m0 : Map) (w0 : World) (S : Nat → Prop) (a : Act) (w : World) (m : Map) (HS : Heap) : Prop where
  closed : ∀ i o, S i → ops[i]? = some o → ∀ p, p ∈ predsM o → S p
  lt : ∀ i, S i → i < ops.size
  defers : a.defers = []
  size : a.tmps.size = N
  tmp : ∀ t, ∃ u, VRel (H ops.size).length m u (a.tmps.getD t undef) ∧
    ((∃ i o, S i ∧ ops[i]? = some o ∧ o.dst = some t ∧ u = v i ∧ ∀ k o', S k → ops[k]? = some o' → o'.dst = some t → k ≤ i) ∨
     ((∀ i o, S i → ops[i]? = some o → o.dst ≠ some t) ∧ u = T 0 t ∧ IdsP (fun id => id < (H 0).length) u))
  val : ∀ i, S i → IdsP (Av ops ms H i) (v i)
  cells : ∀ i, S i → ∀ (id : Nat) (b : Blk), Tch H D i id → (H (i + 1))[id]? = some b → b.k = 1 ∨ b.k = 2 → ∀ x, x ∈ b.cs → IdsP (Av ops ms H i) x
  base : ∀ (id : Nat) (b : Blk), (H 0)[id]? = some b → b.k = 1 ∨ b.k = 2 → ∀ x, x ∈ b.cs → IdsP (fun id => id < (H 0).length) x
  hlen : HS.length = (H ops.size).length
  blk1 : ∀ (id : Nat) (b : Blk), HS[id]? = some b → b.k ≠ 0 →
    (∃ i, S i ∧ Tch H D i id ∧ (H (i + 1))[id]? = some b ∧ ∀ k, S k → Tch H D k id → k ≤ i) ∨ ((∀ i, S i → ¬ Tch H D i id) ∧ (H 0)[id]? = some b)
  blk2 : ∀ (id : Nat) (b : Blk), b.k ≠ 0 →
    ((∃ i, S i ∧ Tch H D i id ∧ (H (i + 1))[id]? = some b ∧ ∀ k, S k → Tch H D k id → k ≤ i) ∨ ((∀ i, S i → ¬ Tch H D i id) ∧ (H 0)[id]? = some b)) → HS[id]? = some b
  wr : WRel G m HS w
  grow : Grow m0 (H 0) w0 m HS w

theorem WRel.sub {m : Map} {HS V : Heap} {w : World} (r : WRel G m HS w) (hlen : V.length ≤ HS.length) (hG : ∀ g, g < G.n → g < V.length)
    (hs : ∀ (id : Nat) (b : Blk), V[id]? = some b → b.k ≠ 0 → HS[id]? = some b ∧ (b.k = 1 ∨ b.k = 2 → ∀ x, x ∈ b.cs → IdsP (fun id => id < V.length) x)) : WRel G m V w := by
  refine ⟨?_, ?_, ?_, ?_, ?_, fun g hg => ⟨hG g hg, (r.glob g hg).2⟩, fun g o hg => ⟨(r.tab g o hg).1, fun id b hb ho => (r.tab g o hg).2 id b (hs id b hb (Blk.own_live ho)).1 ho⟩⟩
  · intro id b hb hk j x hx
    obtain ⟨h1, h2⟩ := hs id b hb (by omega)
    obtain ⟨x', q1, q2, q3⟩ := r.cell id b h1 hk j x hx
    exact ⟨x', q1, q2.change (fun id hid => ⟨hid, rfl⟩) (h2 hk x (List.mem_of_getElem? hx)), q3⟩
  · intro id b hb hk; exact r.room id b (hs id b hb (by omega)).1 hk
  · intro id b hb hk; exact r.iter id b (hs id b hb (by omega)).1 hk
  · intro id b hb hk; exact r.live id b (hs id b hb hk).1 hk
  · intro id id' b b' hb hb' ho hk hne
    exact r.apart id id' b b' (hs id b hb (Blk.own_live ho)).1 (hs id' b' hb' hk).1 ho hk hne

/-- What V hides is hidden from S, too; what it shows S shows. -/
theorem DInv.view {m0 : Map} {w0 : World} {S : Nat → Prop} {a : Act} {w : World} {m : Map} {HS : Heap} (f : DrawFacts P G N ops ms D T H v)
    (d : DInv P G N ops ms D T H v m0 w0 S a w m HS) {j : Nat} {o : Oper} (ho : ops[j]? = some o) (hjS : ¬ S j) (hpre : ∀ p, p ∈ predsM o → S p)
    {V : Heap} (hVl : V.length = (H j).length) (hV1 : ∀ (id : Nat) (b : Blk), V[id]? = some b → b.k = 0 ∨ (H j)[id]? = some b)
    (hV2 : ∀ i, i < j → ordB ms i j = false → ∀ id, (H i).length ≤ id → id < (H (i + 1)).length → ∀ b : Blk, V[id]? = some b → b.k = 0)
    (hV3 : ∀ i, i < ops.size → i ≠ j → ordB ms i j = false → ∀ id, id ∈ D.getD i [] → ∀ b : Blk, V[id]? = some b → b.k = 0) :
    ∀ (id : Nat) (b : Blk), V[id]? = some b → b.k ≠ 0 → HS[id]? = some b ∧ (b.k = 1 ∨ b.k = 2 → ∀ x, x ∈ b.cs → IdsP (fun id => id < V.length) x) := by
  intro id b hb hk
  have hjn : j < ops.size := (Array.getElem?_eq_some_iff.1 ho).1
  have hb' := (hV1 id b hb).resolve_left hk
  have hidV := lt_of_get hb
  have hpred : ∀ o', ops[j]? = some o' → ∀ p, p ∈ predsM o' → S p := fun o' ho' => by rw [ho] at ho'; cases ho'; exact hpre
  have ord : ∀ i, i ≠ j → i < ops.size → Tch H D i id → Anc ops i j ∨ Anc ops j i := by
    intro i hi hin ht
    have : ordB ms i j = true := by
      cases hq : ordB ms i j with
      | true => rfl
      | false =>
        rcases ht with ⟨h1, h2⟩ | h1
        · rcases Nat.lt_or_ge i j with h | h
          · exact absurd (hV2 i h hq id h1 h2 b hb) hk
          · have := f.le (i := j) (j := i) (by omega) (by omega)
            omega
        · exact absurd (hV3 i hin hi hq id h1 b hb) hk
    rw [f.hms] at this
    exact ordB_anc this
  have ordS : ∀ i, S i → Tch H D i id → Anc ops i j := by
    intro i hi ht
    rcases ord i (fun h => hjS (h ▸ hi)) (d.lt i hi) ht with h | h
    · exact h
    · exact absurd (anc_closed d.closed h (fun o' ho' => d.closed i o' hi ho')) hjS
  rcases f.blk j (by omega) id b hb' with ⟨i, h1, h2, h3, h4⟩ | ⟨h1, h2⟩
  · have hanc : Anc ops i j := by
      rcases ord i (by omega) (by omega) h2 with h | h
      · exact h
      · have := f.anc_lt h; omega
    have hSi : S i := anc_closed d.closed hanc hpred
    refine ⟨d.blk2 id b hk (.inl ⟨i, hSi, h2, h3, fun k hk2 hk3 => h4 k (f.anc_lt (ordS k hk2 hk3)) hk3⟩), fun hk2 x hx => ?_⟩
    refine (d.cells i hSi id b h2 h3 hk2 x hx).mono fun id' hid' => ?_
    have := f.le (i := i + 1) (j := j) (by omega) (by omega)
    have := hid'.1
    omega
  · refine ⟨d.blk2 id b hk (.inr ⟨fun i hi ht => h1 i (f.anc_lt (ordS i hi ht)) ht, h2⟩), fun hk2 x hx => ?_⟩
    refine (d.base id b h2 hk2 x hx).mono fun id' hid' => ?_
    have := f.le (i := 0) (j := j) (by omega) (by omega)
    omega

theorem DInv.tmpAt {m0 : Map} {w0 : World} {S : Nat → Prop} {a : Act} {w : World} {m : Map} {HS : Heap} (f : DrawFacts P G N ops ms D T H v)
    (d : DInv P G N ops ms D T H v m0 w0 S a w m HS) {j : Nat} {o : Oper} (ho : ops[j]? = some o) (hjS : ¬ S j) (hpre : ∀ p, p ∈ predsM o → S p)
    {t : Nat} (hl : looksB ops o t = true) : VRel (H j).length m (T j t) (a.tmps.getD t undef) := by
  have hjn : j < ops.size := (Array.getElem?_eq_some_iff.1 ho).1
  have hpred : ∀ o', ops[j]? = some o' → ∀ p, p ∈ predsM o' → S p := fun o' ho' => by rw [ho] at ho'; cases ho'; exact hpre
  have ord : ∀ i o', ops[i]? = some o' → i ≠ j → o'.dst = some t → Anc ops i j ∨ Anc ops j i := by
    intro i o' hi hij hd
    have := (f.okAt ho).2.2 i o' t hi hij hd (.inl hl)
    rw [f.hms] at this
    exact ordB_anc this
  have ordS : ∀ i o', S i → ops[i]? = some o' → o'.dst = some t → Anc ops i j := by
    intro i o' hi hio hd
    rcases ord i o' hio (fun h => hjS (h ▸ hi)) hd with h | h
    · exact h
    · exact absurd (anc_closed d.closed h (fun o' ho' => d.closed i o' hi ho')) hjS
  obtain ⟨u, hu, hcase⟩ := d.tmp t
  rcases hcase with ⟨i, oi, h1, h2, h3, rfl, h5⟩ | ⟨h1, rfl, h3⟩
  · have hanc := ordS i oi h1 h2 h3
    have hij := f.anc_lt hanc
    rcases f.tmp t j (by omega) with ⟨i', o', g1, g2, g3, g4, g5⟩ | ⟨g1, g2⟩
    · have ha' : Anc ops i' j := by
        rcases ord i' o' g2 (by omega) g3 with h | h
        · exact h
        · have := f.anc_lt h; omega
      have hS' := anc_closed d.closed ha' hpred
      have e1 := h5 i' o' hS' g2 g3
      have e2 := g5 i oi hij h2 h3
      have : i' = i := by omega
      subst this
      rw [g4]
      refine hu.change (fun id hid => ⟨?_, rfl⟩) (d.val i' h1)
      have := f.le (i := i' + 1) (j := j) (by omega) (by omega)
      have := hid.1
      omega
    · exact absurd h3 (g1 i oi hij h2)
  · rcases f.tmp t j (by omega) with ⟨i', o', g1, g2, g3, g4, g5⟩ | ⟨g1, g2⟩
    · have ha' : Anc ops i' j := by
        rcases ord i' o' g2 (by omega) g3 with h | h
        · exact h
        · have := f.anc_lt h; omega
      exact absurd g3 (h1 i' o' (anc_closed d.closed ha' hpred) g2)
    · rw [g2]
      refine hu.change (fun id hid => ⟨?_, rfl⟩) h3
      have := f.le (i := 0) (j := j) (by omega) (by omega)
      omega

end
end Go.Proofs.Ytiddnhhjlipebaa.Am
