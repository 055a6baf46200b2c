/- A region whose order is open: one more operation, whichever is ready; and the rule. Conditions: none. -/
import Derived.Test.YtiddnhhjlipebaaAmN
namespace Go.Proofs.Ytiddnhhjlipebaa.Am
open Go
set_option linter.unusedVariables false
set_option linter.unusedSimpArgs false

theorem IdsP.forall {A : Nat → Prop} {B : Nat → Nat → Prop} {u : Value} (h : IdsP A u) : (∀ i, IdsP (B i) u) → IdsP (fun id => ∀ i, B i id) u := by
  induction h with
  | bool b => intro _; exact .bool b
  | int k i => intro _; exact .int k i
  | string s => intro _; exact .string s
  | nilFunc => intro _; exact .nilFunc
  | nilIface => intro _; exact .nilIface
  | ptrNone => intro _; exact .ptrNone
  | ptr a h1 => intro g; exact .ptr a fun i => by have := g i; cases this; assumption
  | sliceNone l c => intro _; exact .sliceNone l c
  | slice a l c h1 => intro g; exact .slice a l c fun i => by have := g i; cases this; assumption
  | func fn fs cs _ _ i1 i2 =>
    intro g
    exact .func fn fs cs (fun k hk => i1 k hk fun i => by have := g i; cases this with | func _ _ _ q1 q2 => exact q1 k hk)
      (fun k hk => i2 k hk fun i => by have := g i; cases this with | func _ _ _ q1 q2 => exact q2 k hk)
  | iface t v _ ih => intro g; exact .iface t v (ih fun i => by have := g i; cases this; assumption)
  | agg cs _ ih => intro g; exact .agg cs fun k hk => ih k hk fun i => by have := g i; cases this with | agg _ q => exact q k hk
  | tuple cs _ ih => intro g; exact .tuple cs fun k hk => ih k hk fun i => by have := g i; cases this with | tuple _ q => exact q k hk

section
variable {P : Program} {G : Glo} {N : Nat} {ops : Array Oper} {ms : List Nat} {D : List (List Nat)} {T : Nat → Tmps} {H : Nat → Heap} {v : Nat → Value}

open Classical in
noncomputable def HS2 (H : Nat → Heap) (D : List (List Nat)) (n j : Nat) (HS : Heap) : Heap :=
  (List.range (H n).length).map fun id => if Tch H D j id then ((H (j + 1))[id]?).getD ⟨0, 0, []⟩ else (HS[id]?).getD ⟨0, 0, []⟩

def M2 (H : Nat → Heap) (j : Nat) (m m' : Map) : Map := fun id => if (H j).length ≤ id ∧ id < (H (j + 1)).length then m' id else m id

theorem getD_put {a : Act} {d : Option Tmp} {v' : Value} {t : Nat} (hd : ∀ u, d = some u → u < a.tmps.size) :
    ((a.put d v').tmps.getD t undef = v' ∧ d = some t) ∨ ((a.put d v').tmps.getD t undef = a.tmps.getD t undef ∧ d ≠ some t) := by
  cases d with
  | none => exact .inr ⟨rfl, by simp⟩
  | some d =>
    by_cases ht : t = d
    · subst ht
      left
      refine ⟨?_, rfl⟩
      simp only [Act.put]
      rw [Array.getD_eq_getD_getElem?, Array.getElem?_setIfInBounds_self_of_lt (hd t rfl)]; rfl
    · right
      refine ⟨?_, fun h => ht (Option.some.inj h).symm⟩
      simp only [Act.put]
      rw [Array.getD_eq_getD_getElem?, Array.getD_eq_getD_getElem?, Array.getElem?_setIfInBounds_ne (Ne.symm ht)]

theorem put_size {a : Act} {d : Option Tmp} {v' : Value} : (a.put d v').tmps.size = a.tmps.size := by cases d <;> simp [Act.put]
theorem put_defers {a : Act} {d : Option Tmp} {v' : Value} : (a.put d v').defers = a.defers := by cases d <;> rfl

theorem DInv.step {m0 : Map} {w0 : World} {S : Nat → Prop} {a : Act} {w : World} {m : Map} {HS : Heap} (f : DrawFacts P G N ops ms D T H v)
    (d : DInv P G N ops ms D T H v m0 w0 S a w m HS) {j : Nat} {o : Oper} (ho : ops[j]? = some o) (hjS : ¬ S j) (hpre : ∀ p, p ∈ predsM o → S p)
    {V h' : Heap} {v' : Value} {m' : Map} {w' : World} (hVl : V.length = (H j).length)
    (hView : ∀ (id : Nat) (b : Blk), V[id]? = some b → b.k ≠ 0 → HS[id]? = some b)
    (hV2 : ∀ i, i < j → ordB ms i j = false → ∀ id, (H i).length ≤ id → id < (H (i + 1)).length → ∀ b : Blk, V[id]? = some b → b.k = 0)
    (hV3 : ∀ i, i < ops.size → i ≠ j → ordB ms i j = false → ∀ id, id ∈ D.getD i [] → ∀ b : Blk, V[id]? = some b → b.k = 0)
    (hA : StepA V (H j) (H (j + 1)) (D.getD j [])) (hB : StepB V h' (H (j + 1)) (D.getD j []))
    (hSC : (∀ i, i < j → ordB ms i j = false → (H i).length = (H (i + 1)).length) ∨
        (∀ i, i < j → ordB ms i j = false → IdsP (fun id => ¬ ((H i).length ≤ id ∧ id < (H (i + 1)).length)) (v j) ∧
          ∀ (id : Nat) (b : Blk), (id ∈ D.getD j [] ∨ (H j).length ≤ id) → (H (j + 1))[id]? = some b → b.k ≠ 0 → ∀ x, x ∈ b.cs →
            IdsP (fun id => ¬ ((H i).length ≤ id ∧ id < (H (i + 1)).length)) x))
    (hv : VRel h'.length m' (v j) v') (r' : WRel G m' h' w') (g : Grow m V w m' h' w') :
    DInv P G N ops ms D T H v m0 w0 (fun i => i = j ∨ S i) (a.put o.dst v') w' (M2 H j m m') (HS2 H D ops.size j HS) := by
  have hjn : j < ops.size := (Array.getElem?_eq_some_iff.1 ho).1
  have hL1 := f.le1 hjn
  have hLn := f.le (i := j + 1) (j := ops.size) (by omega) (by omega)
  have hL0 := f.le (i := 0) (j := j) (by omega) (by omega)
  have hdst : ∀ t, o.dst = some t → t < N := by
    intro t ht
    have := (f.okAt ho).1
    simp only [operOk, ht, Bool.and_eq_true, decide_eq_true_eq] at this
    exact this.1.2
  have hm1 : ∀ id, id < (H (j + 1)).length → M2 H j m m' id = m' id := by
    intro id hid
    unfold M2
    split
    · rfl
    · rename_i hn
      exact (g.agree id (by rw [hVl]; omega)).symm
  have hm2 : ∀ id, ¬ ((H j).length ≤ id ∧ id < (H (j + 1)).length) → M2 H j m m' id = m id := by
    intro id hid; unfold M2; rw [if_neg hid]
  have tlt : ∀ id, Tch H D j id → id < (H (j + 1)).length := by
    rintro id (⟨_, h⟩ | h)
    · exact h
    · have := hA.dlt id h; omega
  -- who else touches what j touches stands ahead of it
  have ordD : ∀ k, S k → ∀ id, Tch H D k id → Tch H D j id → k < j := by
    intro k hk id htk htj
    have hkn := d.lt k hk
    have hkj : k ≠ j := fun h => hjS (h ▸ hk)
    have fromAnc : ordB ms k j = true → k < j := by
      intro hq
      rw [f.hms] at hq
      rcases ordB_anc hq with h | h
      · exact f.anc_lt h
      · exact absurd (anc_closed d.closed h (fun o' ho' => d.closed k o' hk ho')) hjS
    by_cases hD : id ∈ D.getD j []
    · obtain ⟨b, hb, hbk⟩ := hA.dlive id hD
      apply fromAnc
      cases hq : ordB ms k j with
      | true => rfl
      | false =>
        rcases htk with ⟨h1, h2⟩ | h1
        · rcases Nat.lt_or_ge k j with h | h
          · exact absurd (hV2 k h hq id h1 h2 b hb) hbk
          · have := hA.dlt id hD
            have := f.le (i := j) (j := k) (by omega) (by omega)
            omega
        · exact absurd (hV3 k hkn hkj hq id h1 b hb) hbk
    · rcases htj with ⟨h1, h2⟩ | h1
      · rcases Nat.lt_or_ge k j with h | h
        · exact h
        · exfalso
          obtain ⟨ok, hok⟩ : ∃ ok, ops[k]? = some ok := ⟨_, Array.getElem?_eq_getElem hkn⟩
          rcases htk with ⟨h3, h4⟩ | h3
          · have := f.le (i := j + 1) (j := k) (by omega) (by omega)
            omega
          · rcases f.text.op k ok hok (Nat.zero_le _) with ⟨_, Vk, ⟨_, _, hp2, _⟩, hAk, _⟩ | ⟨_, _, _, h5⟩
            · obtain ⟨b, hb, hbk⟩ := hAk.dlive id h3
              have hq : ordB ms j k = true := by
                cases hq : ordB ms j k with
                | true => rfl
                | false => exact absurd (hp2 j (by omega) hq id h1 h2 b hb) hbk
              rw [f.hms] at hq
              rcases ordB_anc hq with h | h
              · exact hjS (anc_closed d.closed h (fun o' ho' => d.closed k o' hk ho'))
              · have := f.anc_lt h; omega
            · rw [h5] at h3; simp at h3
      · exact absurd h1 hD
  -- what S hands on names nothing of j's
  have avoid : ∀ i, S i → ∀ id, Av ops ms H i id → ¬ ((H j).length ≤ id ∧ id < (H (j + 1)).length) := by
    intro i hi id hav hr
    have hin := d.lt i hi
    rcases Nat.lt_or_ge i j with h | h
    · have := f.le (i := i + 1) (j := j) (by omega) (by omega)
      have := hav.1
      omega
    · have hij : i ≠ j := fun h => hjS (h ▸ hi)
      have hq : ordB ms j i = false := by
        cases hq : ordB ms j i with
        | false => rfl
        | true =>
          rw [f.hms] at hq
          obtain ⟨oi, hoi⟩ : ∃ oi, ops[i]? = some oi := ⟨_, Array.getElem?_eq_getElem hin⟩
          rcases ordB_anc hq with h | h
          · exact absurd (anc_closed d.closed h (fun o' ho' => d.closed i o' hi ho')) hjS
          · have := f.anc_lt h; omega
      exact hav.2 j (by omega) hq hr
  have avoid0 : ∀ id, id < (H 0).length → ¬ ((H j).length ≤ id ∧ id < (H (j + 1)).length) := fun id h1 h2 => by omega
  have get2 : ∀ (id : Nat) (b : Blk), (HS2 H D ops.size j HS)[id]? = some b → b.k ≠ 0 →
      (Tch H D j id ∧ (H (j + 1))[id]? = some b) ∨ (¬ Tch H D j id ∧ HS[id]? = some b) := by
    intro id b hb hk
    unfold HS2 at hb
    simp only [List.getElem?_map, Option.map_eq_some_iff] at hb
    obtain ⟨id', h1, h2⟩ := hb
    have hid : id < (H ops.size).length := by
      obtain ⟨q, _⟩ := List.getElem?_eq_some_iff.1 h1; simpa using q
    rw [List.getElem?_range hid] at h1
    cases h1
    by_cases ht : Tch H D j id
    · rw [if_pos ht] at h2
      refine .inl ⟨ht, ?_⟩
      rw [List.getElem?_eq_getElem (tlt id ht)] at h2 ⊢
      simpa using h2
    · rw [if_neg ht] at h2
      refine .inr ⟨ht, ?_⟩
      rw [List.getElem?_eq_getElem (by rw [d.hlen]; exact hid)] at h2 ⊢
      simpa using h2
  have put2 : ∀ (id : Nat) (b : Blk), (Tch H D j id ∧ (H (j + 1))[id]? = some b) ∨ (¬ Tch H D j id ∧ HS[id]? = some b) → (HS2 H D ops.size j HS)[id]? = some b := by
    intro id b hb
    have hid : id < (H ops.size).length := by
      rcases hb with ⟨h1, h2⟩ | ⟨h1, h2⟩
      · have := lt_of_get h2; omega
      · have := lt_of_get h2; rw [← d.hlen]; exact this
    unfold HS2
    simp only [List.getElem?_map, List.getElem?_range hid, Option.map_some]
    rcases hb with ⟨h1, h2⟩ | ⟨h1, h2⟩
    · rw [if_pos h1, h2]; rfl
    · rw [if_neg h1, h2]; rfl
  -- a block of the new memory lies in what the operation left, or where it did not look
  have inout : ∀ (id : Nat) (b : Blk), (HS2 H D ops.size j HS)[id]? = some b → b.k ≠ 0 →
      (h'[id]? = some b ∧ id < (H (j + 1)).length) ∨ (HS[id]? = some b ∧ ¬ ((H j).length ≤ id ∧ id < (H (j + 1)).length) ∧ ∀ b' : Blk, V[id]? = some b' → b'.k = 0) := by
    intro id b hb hk
    rcases get2 id b hb hk with ⟨h1, h2⟩ | ⟨h1, h2⟩
    · left
      refine ⟨?_, tlt id h1⟩
      rw [← hB.new id (by
        rcases h1 with ⟨q, _⟩ | q
        · exact .inr (by rw [hVl]; exact q)
        · exact .inl q)]
      exact h2
    · by_cases hVlive : ∃ b' : Blk, V[id]? = some b' ∧ b'.k ≠ 0
      · obtain ⟨b', q1, q2⟩ := hVlive
        have := hView id b' q1 q2
        rw [h2] at this
        cases this
        have hid := lt_of_get q1
        left
        refine ⟨by rw [hB.same id hid (fun hq => h1 (.inr hq))]; exact q1, by rw [hVl] at hid; omega⟩
      · right
        refine ⟨h2, fun hq => h1 (.inl hq), fun b' hb' => ?_⟩
        cases hq : decide (b'.k = 0) with
        | true => simpa using hq
        | false => exact absurd ⟨b', hb', by simpa using hq⟩ hVlive
  have hlenh' : h'.length = (H (j + 1)).length := hB.hlen
  have chg : ∀ {u x : Value}, VRel h'.length m' u x → VRel (H ops.size).length (M2 H j m m') u x := fun {u x} hu =>
    hu.change (A := fun id => id < h'.length) (fun id hid => ⟨by omega, hm1 id (by omega)⟩) hu.ids
  have out : ∀ (id : Nat) (b : Blk), HS[id]? = some b → b.k ≠ 0 → (∀ b' : Blk, V[id]? = some b' → b'.k = 0) → w'.heap[(m id).b]? = w.heap[(m id).b]? := by
    intro id b hb hk hd
    refine g.keeps _ (d.wr.live id b hb hk) fun id2 b2 hb2 ho2 => ?_
    have h2 := hView id2 b2 hb2 (Blk.own_live ho2)
    refine d.wr.apart id2 id b2 b h2 hb ho2 hk ?_
    rintro rfl
    exact Blk.own_live ho2 (hd b2 hb2)
  have cellsAv : ∀ (id : Nat) (b : Blk), HS[id]? = some b → b.k = 1 ∨ b.k = 2 → ∀ x, x ∈ b.cs → IdsP (fun id => ¬ ((H j).length ≤ id ∧ id < (H (j + 1)).length)) x := by
    intro id b hb hk x hx
    rcases d.blk1 id b hb (by omega) with ⟨i, h1, h2, h3, _⟩ | ⟨_, h2⟩
    · exact (d.cells i h1 id b h2 h3 hk x hx).mono fun id' hid' => avoid i h1 id' hid'
    · exact (d.base id b h2 hk x hx).mono fun id' hid' => avoid0 id' hid'
  have avj : ∀ u : Value, IdsP (fun id => id < (H (j + 1)).length) u → ((∀ i, i < j → ordB ms i j = false → (H i).length = (H (i + 1)).length) ∨
      ∀ i, i < j → ordB ms i j = false → IdsP (fun id => ¬ ((H i).length ≤ id ∧ id < (H (i + 1)).length)) u) → IdsP (Av ops ms H j) u := by
    intro u hu hs
    rcases hs with hs | hs
    · refine hu.mono fun id hid => ⟨hid, fun k hk hq hr => ?_⟩
      have := hs k hk hq
      omega
    · have h2 : IdsP (fun id => ∀ k, k < j → ordB ms k j = false → ¬ ((H k).length ≤ id ∧ id < (H (k + 1)).length)) u := by
        refine (IdsP.forall (B := fun k id => k < j → ordB ms k j = false → ¬ ((H k).length ≤ id ∧ id < (H (k + 1)).length)) hu fun k => ?_)
        by_cases hk : k < j ∧ ordB ms k j = false
        · exact (hs k hk.1 hk.2).mono fun id hid _ _ => hid
        · exact hu.mono fun id _ h1 h2 => absurd ⟨h1, h2⟩ hk
      exact hu.and h2
  refine ⟨?_, ?_, ?_, ?_, ?_, ?_, ?_, d.base, by unfold HS2; simp, ?_, ?_, ?_, ?_⟩
  · rintro i oi (rfl | hi) hoi p hp
    · rw [ho] at hoi; cases hoi; exact .inr (hpre p hp)
    · exact .inr (d.closed i oi hi hoi p hp)
  · rintro i (rfl | hi)
    · exact hjn
    · exact d.lt i hi
  · rw [put_defers]; exact d.defers
  · rw [put_size]; exact d.size
  · intro t
    rcases getD_put (a := a) (d := o.dst) (v' := v') (t := t) (fun u hu => by rw [d.size]; exact hdst u hu) with ⟨h1, h2⟩ | ⟨h1, h2⟩
    · rw [h1]
      refine ⟨v j, chg hv, .inl ⟨j, o, .inl rfl, ho, h2, rfl, ?_⟩⟩
      rintro k ok (rfl | hk) hok hkd
      · exact Nat.le_refl _
      · have hkj : k ≠ j := fun h => hjS (h ▸ hk)
        have hq := (f.okAt ho).2.2 k ok t hok hkj hkd (.inr h2)
        rw [f.hms] at hq
        rcases ordB_anc hq with h | h
        · exact Nat.le_of_lt (f.anc_lt h)
        · exact absurd (anc_closed d.closed h (fun o' ho' => d.closed k o' hk ho')) hjS
    · rw [h1]
      obtain ⟨u, hu, hc⟩ := d.tmp t
      rcases hc with ⟨i, oi, g1, g2, g3, rfl, g5⟩ | ⟨g1, rfl, g3⟩
      · refine ⟨v i, hu.change (A := fun id => Av ops ms H i id) (fun id hid => ⟨?_, hm2 id (avoid i g1 id hid)⟩) (d.val i g1), .inl ⟨i, oi, .inr g1, g2, g3, rfl, ?_⟩⟩
        · have := f.le (i := i + 1) (j := ops.size) (by have := d.lt i g1; omega) (by omega)
          have := hid.1
          omega
        · rintro k ok (rfl | hk) hok hkd
          · rw [ho] at hok; cases hok; exact absurd hkd h2
          · exact g5 k ok hk hok hkd
      · refine ⟨T 0 t, hu.change (A := fun id => id < (H 0).length) (fun id hid => ⟨by omega, hm2 id (avoid0 id hid)⟩) g3, .inr ⟨?_, rfl, g3⟩⟩
        rintro i oi (rfl | hi) hoi hd
        · rw [ho] at hoi; cases hoi; exact h2 hd
        · exact g1 i oi hi hoi hd
  · rintro i (rfl | hi)
    · refine avj _ (hv.ids.mono fun id hid => by omega) ?_
      rcases hSC with hs | hs
      · exact .inl hs
      · exact .inr fun k hk hq => (hs k hk hq).1
    · exact d.val i hi
  · rintro i (rfl | hi) id b ht hb hk x hx
    · have htt : id ∈ D.getD i [] ∨ (H i).length ≤ id := by
        rcases ht with ⟨q, _⟩ | q
        · exact .inr q
        · exact .inl q
      have hb' : h'[id]? = some b := by
        rw [← hB.new id (by rcases htt with q | q; · exact .inl q
                            · exact .inr (by rw [hVl]; exact q))]
        exact hb
      obtain ⟨q, hq⟩ := List.getElem?_of_mem hx
      obtain ⟨x', p1, p2, _⟩ := r'.cell id b hb' hk q x hq
      refine avj _ (p2.ids.mono fun id hid => by omega) ?_
      rcases hSC with hs | hs
      · exact .inl hs
      · exact .inr fun k hk' hq' => (hs k hk' hq').2 id b htt hb (by omega) x hx
    · exact d.cells i hi id b ht hb hk x hx
  · intro id b hb hk
    rcases get2 id b hb hk with ⟨h1, h2⟩ | ⟨h1, h2⟩
    · refine .inl ⟨j, .inl rfl, h1, h2, ?_⟩
      rintro k (rfl | hk2) hk3
      · exact Nat.le_refl _
      · exact Nat.le_of_lt (ordD k hk2 id hk3 h1)
    · rcases d.blk1 id b h2 hk with ⟨i, g1, g2, g3, g4⟩ | ⟨g1, g2⟩
      · refine .inl ⟨i, .inr g1, g2, g3, ?_⟩
        rintro k (rfl | hk2) hk3
        · exact absurd hk3 h1
        · exact g4 k hk2 hk3
      · refine .inr ⟨?_, g2⟩
        rintro i (rfl | hi)
        · exact h1
        · exact g1 i hi
  · intro id b hk hc
    apply put2
    rcases hc with ⟨i, h1, h2, h3, h4⟩ | ⟨h1, h2⟩
    · rcases h1 with rfl | h1
      · exact .inl ⟨h2, h3⟩
      · have hnt : ¬ Tch H D j id := fun ht => by
          have := h4 j (.inl rfl) ht
          have := ordD i h1 id h2 ht
          omega
        exact .inr ⟨hnt, d.blk2 id b hk (.inl ⟨i, h1, h2, h3, fun k hk2 hk3 => h4 k (.inr hk2) hk3⟩)⟩
    · exact .inr ⟨h1 j (.inl rfl), d.blk2 id b hk (.inr ⟨fun i hi => h1 i (.inr hi), h2⟩)⟩
  · refine ⟨?_, ?_, ?_, ?_, ?_, ?_, ?_⟩
    · intro id b hb hk q x hq
      have hlen2 : (HS2 H D ops.size j HS).length = (H ops.size).length := by unfold HS2; simp
      rw [hlen2]
      rcases inout id b hb (by omega) with ⟨h1, h2⟩ | ⟨h1, h2, h3⟩
      · obtain ⟨x', p1, p2, p3⟩ := r'.cell id b h1 hk q x hq
        exact ⟨x', by rw [hm1 id h2]; exact p1, chg p2, p3⟩
      · obtain ⟨x', p1, p2, p3⟩ := d.wr.cell id b h1 hk q x hq
        refine ⟨x', ?_, ?_, p3⟩
        · rw [hm2 id h2, World.cell?_of_block (out id b h1 (by omega) h3)]; exact p1
        · rw [d.hlen] at p2
          exact p2.change (A := fun id => id < (H ops.size).length ∧ ¬ ((H j).length ≤ id ∧ id < (H (j + 1)).length)) (fun id' hid' => ⟨hid'.1, hm2 id' hid'.2⟩)
            (p2.ids.and (cellsAv id b h1 hk x (List.mem_of_getElem? hq)))
    · intro id b hb hk
      rcases inout id b hb (by omega) with ⟨h1, h2⟩ | ⟨h1, h2, h3⟩
      · rw [hm1 id h2]; exact r'.room id b h1 hk
      · rw [hm2 id h2]
        obtain ⟨q1, q2, q3⟩ := d.wr.room id b h1 hk
        refine ⟨q1, q2, fun p hp => ?_⟩
        rw [World.cell?_of_block (out id b h1 (by omega) h3), World.frozen?_of_block (out id b h1 (by omega) h3)]
        exact q3 p hp
    · intro id b hb hk
      rcases inout id b hb (by omega) with ⟨h1, h2⟩ | ⟨h1, h2, h3⟩
      · rw [hm1 id h2]; exact r'.iter id b h1 hk
      · rw [hm2 id h2, out id b h1 (by omega) h3]; exact d.wr.iter id b h1 hk
    · intro id b hb hk
      rcases inout id b hb hk with ⟨h1, h2⟩ | ⟨h1, h2, h3⟩
      · rw [hm1 id h2]; exact r'.live id b h1 hk
      · rw [hm2 id h2]; exact Nat.lt_of_lt_of_le (d.wr.live id b h1 hk) g.size
    · intro id id' b b' hb hb' hown hk hne
      rcases inout id b hb (Blk.own_live hown) with ⟨h1, h2⟩ | ⟨h1, h2, h3⟩ <;> rcases inout id' b' hb' hk with ⟨k1, k2⟩ | ⟨k1, k2, k3⟩
      · rw [hm1 id h2, hm1 id' k2]; exact r'.apart id id' b b' h1 k1 hown hk hne
      · rw [hm1 id h2, hm2 id' k2]
        have hlv := d.wr.live id' b' k1 hk
        rcases g.owned id b h1 (Blk.own_live hown) with q | ⟨id0, b0, q1, q2, q3, q4⟩
        · omega
        · rw [← q4]
          refine d.wr.apart id0 id' b0 b' (hView id0 b0 q1 q2) k1 (q3 hown) hk ?_
          rintro rfl
          exact q2 (k3 b0 q1)
      · rw [hm2 id h2, hm1 id' k2]
        have hlv := d.wr.live id b h1 (Blk.own_live hown)
        rcases g.owned id' b' k1 hk with q | ⟨id0, b0, q1, q2, q3, q4⟩
        · omega
        · rw [← q4]
          refine d.wr.apart id id0 b b0 h1 (hView id0 b0 q1 q2) hown q2 ?_
          rintro rfl
          exact q2 (h3 b0 q1)
      · rw [hm2 id h2, hm2 id' k2]; exact d.wr.apart id id' b b' h1 k1 hown hk hne
    · intro q hq
      obtain ⟨q1, q2, q3⟩ := d.wr.glob q hq
      obtain ⟨p1, _⟩ := r'.glob q hq
      have hq0 : q < (H (j + 1)).length := by omega
      obtain ⟨_, p2, p3⟩ := r'.glob q hq
      refine ⟨by have : (HS2 H D ops.size j HS).length = (H ops.size).length := by unfold HS2; simp
                 omega, ?_, ?_⟩
      · rw [hm1 q hq0]; exact p2
      · rw [hm1 q hq0]; exact p3
    · intro gi o hg
      refine ⟨(r'.tab gi o hg).1, fun id b hb ho => ?_⟩
      rcases inout id b hb (Blk.own_live ho) with ⟨h1, h2⟩ | ⟨h1, h2, h3⟩
      · rw [hm1 id h2]; exact (r'.tab gi o hg).2 id b h1 ho
      · rw [hm2 id h2]; exact (d.wr.tab gi o hg).2 id b h1 ho
  · refine ⟨?_, ?_, Nat.le_trans d.grow.size g.size,
      ⟨g.io.1.trans d.grow.io.1, g.io.2.1.trans d.grow.io.2.1, g.io.2.2.trans d.grow.io.2.2⟩, ?_, ?_⟩
    · intro id hid
      rw [hm2 id (avoid0 id hid)]; exact d.grow.agree id hid
    · have : (HS2 H D ops.size j HS).length = (H ops.size).length := by unfold HS2; simp
      omega
    · intro q hq hno
      rw [← d.grow.keeps q hq hno]
      refine g.keeps q (Nat.lt_of_lt_of_le hq d.grow.size) fun id2 b2 hb2 ho2 => ?_
      rcases d.grow.owned id2 b2 (hView id2 b2 hb2 (Blk.own_live ho2)) (Blk.own_live ho2) with h | ⟨id0, b0, h1, h2, h3, h4⟩
      · omega
      · rw [← h4]; exact hno id0 b0 h1 (h3 ho2)
    · intro id b hb hk
      rcases inout id b hb hk with ⟨h1, h2⟩ | ⟨h1, h2, h3⟩
      · rw [hm1 id h2]
        rcases g.owned id b h1 hk with h | ⟨id0, b0, q1, q2, q3, q4⟩
        · exact .inl (Nat.le_trans d.grow.size h)
        · rcases d.grow.owned id0 b0 (hView id0 b0 q1 q2) q2 with h | ⟨id1, b1, p1, p2, p3, p4⟩
          · exact .inl (by rw [← q4]; exact h)
          · exact .inr ⟨id1, b1, p1, p2, fun x => p3 (q3 x), p4.trans q4⟩
      · rw [hm2 id h2]; exact d.grow.owned id b h1 hk

end
end Go.Proofs.Ytiddnhhjlipebaa.Am
