/- The rule for a region whose order is open. Conditions: none. -/
import Derived.Test.YtiddnhhjlipebaaAmO
namespace Go.Proofs.Ytiddnhhjlipebaa.Am
open Go
set_option linter.unusedVariables false
set_option linter.unusedSimpArgs false

section
variable {P : Program} {G : Glo} {N : Nat} {ops : Array Oper} {ms : List Nat} {D : List (List Nat)} {T : Nat → Tmps} {H : Nat → Heap} {v : Nat → Value}

theorem DInv.skip {m0 : Map} {w0 : World} {S : Nat → Prop} {a : Act} {w : World} {m : Map} {HS : Heap} (f : DrawFacts P G N ops ms D T H v)
    (d : DInv P G N ops ms D T H v m0 w0 S a w m HS) {j : Nat} {o : Oper} (ho : ops[j]? = some o) (hjS : ¬ S j) (hpre : ∀ p, p ∈ predsM o → S p)
    (hv : v j = undef) (hH : H (j + 1) = H j) (hD : D.getD j [] = []) (hG : ∀ g, g < G.n → g < (H 0).length) :
    ∃ m' HS', DInv P G N ops ms D T H v m0 w0 (fun i => i = j ∨ S i) (a.put o.dst undef) w m' HS' := by
  have hjn : j < ops.size := (Array.getElem?_eq_some_iff.1 ho).1
  have hL0 := f.le (i := 0) (j := j) (by omega) (by omega)
  let V : Heap := List.replicate (H j).length ⟨0, 0, []⟩
  have hVl : V.length = (H j).length := by simp [V]
  have hVd : ∀ (id : Nat) (b : Blk), V[id]? = some b → b.k = 0 := by
    intro id b hb
    obtain ⟨h1, h2⟩ := List.getElem?_eq_some_iff.1 hb
    simp [V] at h2
    rw [← h2]
  have hr : WRel G m V w := d.wr.sub (by rw [hVl, d.hlen]; exact f.le (by omega) (by omega)) (fun g hg => by rw [hVl]; have := hG g hg; omega)
    (fun id b hb hk => absurd (hVd id b hb) hk)
  exact ⟨_, _, d.step f ho hjS hpre (V := V) (h' := V) (v' := undef) (m' := m) (w' := w) hVl (fun id b hb hk => absurd (hVd id b hb) hk)
    (fun i _ _ id _ _ b hb => hVd id b hb) (fun i _ _ _ id _ b hb => hVd id b hb)
    ⟨by rw [hH]; exact Nat.le_refl _, fun id _ _ => by rw [hH], fun id hid => by rw [hD] at hid; simp at hid, fun id hid => by rw [hD] at hid; simp at hid⟩
    ⟨by rw [hH]; exact hVl, fun _ _ _ => rfl, fun id hid => by
      rw [hD] at hid
      rcases hid with hid | hid
      · simp at hid
      · rw [hH, List.getElem?_eq_none (by omega), List.getElem?_eq_none hid]⟩
    (.inr fun i _ _ => ⟨by rw [hv]; exact .tuple _ (fun i h => absurd h (by simp)), fun id b hid hb hk => by
      rw [hD] at hid
      rcases hid with hid | hid
      · simp at hid
      · rw [hH, List.getElem?_eq_none hid] at hb; cases hb⟩)
    (by rw [hv]; exact VRel.undef _ _) hr (Grow.refl _ _ _)⟩

def lS (ops : Array Oper) (listed : Array Bool) (i : Nat) : Prop := i < ops.size ∧ listed.getD i false = true

theorem countP_lt {α : Type} {p q : α → Bool} (l : List α) (h : ∀ x, x ∈ l → p x = true → q x = true) (hx : ∃ x, x ∈ l ∧ q x = true ∧ p x = false) : l.countP p < l.countP q := by
  have mono : ∀ (l : List α), (∀ x, x ∈ l → p x = true → q x = true) → l.countP p ≤ l.countP q := fun l h => List.countP_mono_left h
  induction l with
  | nil => obtain ⟨x, h1, _⟩ := hx; simp at h1
  | cons y l ih =>
    obtain ⟨x, h1, h2, h3⟩ := hx
    simp only [List.countP_cons]
    rcases List.mem_cons.1 h1 with rfl | h1
    · rw [if_neg (by rw [h3]; simp), if_pos h2]
      have := mono l (fun x hx => h x (by simp [hx])); omega
    · have := ih (fun x hx => h x (by simp [hx])) ⟨x, h1, h2, h3⟩
      by_cases hy : p y = true
      · rw [if_pos hy, if_pos (h y (by simp) hy)]; omega
      · rw [if_neg hy]; split <;> omega

theorem draw_any {Q : Exit → Tmps → Heap → Prop} {m0 : Map} {w0 : World} (f : DrawFacts P G N ops ms D T H v) (hG : ∀ g, g < G.n → g < (H 0).length)
    (hQ : Q .normal (T ops.size) (H ops.size)) : ∀ (fuel : Nat) (listed : Array Bool) (a : Act) (w : World), listed.size = ops.size →
    (List.range ops.size).countP (fun i => !listed.getD i false) ≤ fuel →
    (∃ m HS, DInv P G N ops ms D T H v m0 w0 (lS ops listed) a w m HS) →
    wpAny P .any ops (fun e a' w' => ∃ m' T' h', SRel G N m' T' h' a' w' ∧ Grow m0 (H 0) w0 m' h' w' ∧ Q e T' h') fuel listed a w := by
  have done : ∀ (listed : Array Bool) (a : Act) (w : World), (∃ m HS, DInv P G N ops ms D T H v m0 w0 (lS ops listed) a w m HS) →
      (∀ i, i < ops.size → listed.getD i false = true) →
      ∃ m' T' h', SRel G N m' T' h' a w ∧ Grow m0 (H 0) w0 m' h' w ∧ Q .normal T' h' := by
    rintro listed a w ⟨m, HS, d⟩ hall
    have hS : ∀ i, i < ops.size → lS ops listed i := fun i hi => ⟨hi, hall i hi⟩
    have hblk : ∀ (id : Nat) (b : Blk), (H ops.size)[id]? = some b → b.k ≠ 0 → HS[id]? = some b := by
      intro id b hb hk
      rcases f.blk ops.size (Nat.le_refl _) id b hb with ⟨i, h1, h2, h3, h4⟩ | ⟨h1, h2⟩
      · exact d.blk2 id b hk (.inl ⟨i, hS i h1, h2, h3, fun k hk2 hk3 => h4 k hk2.1 hk3⟩)
      · exact d.blk2 id b hk (.inr ⟨fun i hi => h1 i hi.1, h2⟩)
    refine ⟨m, T ops.size, H ops.size, ⟨d.defers, d.size, fun t => ?_, ?_⟩, ?_, hQ⟩
    · obtain ⟨u, hu, hc⟩ := d.tmp t
      have : u = T ops.size t := by
        rcases f.tmp t ops.size (Nat.le_refl _) with ⟨i, o, h1, h2, h3, h4, h5⟩ | ⟨h1, h2⟩ <;> rcases hc with ⟨i', o', g1, g2, g3, rfl, g5⟩ | ⟨g1, rfl, g3⟩
        · have e1 := h5 i' o' g1.1 g2 g3
          have e2 := g5 i o (hS i h1) h2 h3
          have : i = i' := by omega
          subst this; exact h4.symm
        · exact absurd h3 (g1 i o (hS i h1) h2)
        · exact absurd g3 (h1 i' o' g1.1 g2)
        · exact h2.symm
      rw [← this]; exact hu
    · refine d.wr.sub (by rw [d.hlen]; exact Nat.le_refl _) (fun g hg => by have := hG g hg; have := f.le (i := 0) (j := ops.size) (by omega) (by omega); omega) fun id b hb hk => ⟨hblk id b hb hk, fun hk2 x hx => ?_⟩
      rcases d.blk1 id b (hblk id b hb hk) hk with ⟨i, h1, h2, h3, _⟩ | ⟨_, h2⟩
      · refine (d.cells i h1 id b h2 h3 hk2 x hx).mono fun id' hid' => ?_
        have := f.le (i := i + 1) (j := ops.size) (by have := h1.1; omega) (by omega)
        have := hid'.1
        omega
      · refine (d.base id b h2 hk2 x hx).mono fun id' hid' => ?_
        have := f.le (i := 0) (j := ops.size) (by omega) (by omega)
        omega
    · refine ⟨d.grow.agree, f.le (by omega) (by omega), d.grow.size, d.grow.io, d.grow.keeps, fun id b hb hk => d.grow.owned id b (hblk id b hb hk) hk⟩
  intro fuel
  induction fuel with
  | zero =>
    intro listed a w hsz hc hd
    have hall : ∀ i, i < ops.size → listed.getD i false = true := by
      intro i hi
      have h0 : (List.range ops.size).countP (fun i => !listed.getD i false) = 0 := by omega
      rw [List.countP_eq_zero] at h0
      have := h0 i (by simpa using hi)
      simpa using this
    refine ⟨?_, done listed a w hd hall⟩
    rw [List.eq_nil_iff_forall_not_mem]
    intro i hi
    rw [mem_ready] at hi
    obtain ⟨h1, o, ho, _⟩ := hi
    have hin := (Array.getElem?_eq_some_iff.1 ho).1
    have := hall i hin
    simp only [Array.getD_eq_getD_getElem?] at h1 this
    rw [Array.getElem?_eq_getElem (by omega)] at h1 this
    simp at h1 this
    rw [h1] at this; cases this
  | succ fuel ih =>
    intro listed a w hsz hc hd
    refine ⟨fun hr => done listed a w hd ?_, fun j hj => ?_⟩
    · intro i
      induction i using Nat.strongRecOn with
      | _ i ihi =>
        intro hi
        cases hq : listed.getD i false with
        | true => rfl
        | false =>
          exfalso
          obtain ⟨o, ho⟩ : ∃ o, ops[i]? = some o := ⟨_, Array.getElem?_eq_getElem hi⟩
          have : i ∈ Region.ready .any ops listed := by
            rw [mem_ready]
            refine ⟨?_, o, ho, fun e he hb => ?_⟩
            · simp only [Array.getD_eq_getD_getElem?] at hq ⊢
              rw [Array.getElem?_eq_getElem (by omega)] at hq ⊢
              simpa using hq
            · have hp : e.on ∈ predsM o := by
                unfold predsM
                exact List.mem_map.2 ⟨e, List.mem_filter.2 ⟨by simpa using he, hb⟩, rfl⟩
              have hlt := (f.okAt ho).2.1 _ hp
              exact ihi e.on hlt (by omega)
          rw [hr] at this; simp at this
    · obtain ⟨m, HS, d⟩ := hd
      rw [mem_ready] at hj
      obtain ⟨hj1, o, ho, hj2⟩ := hj
      have hjn := (Array.getElem?_eq_some_iff.1 ho).1
      have hjS : ¬ lS ops listed j := by
        rintro ⟨_, h⟩
        simp only [Array.getD_eq_getD_getElem?] at h hj1
        rw [Array.getElem?_eq_getElem (by omega)] at h hj1
        simp at h hj1
        rw [h] at hj1; cases hj1
      have hpre : ∀ p, p ∈ predsM o → lS ops listed p := by
        intro p hp
        have hlt := (f.okAt ho).2.1 _ hp
        unfold predsM at hp
        obtain ⟨e, he, rfl⟩ := List.mem_map.1 hp
        obtain ⟨he1, he2⟩ := List.mem_filter.1 he
        exact ⟨by omega, hj2 e (by simpa using he1) he2⟩
      have hS2 : (fun i => i = j ∨ lS ops listed i) = lS ops (listed.setIfInBounds j true) := by
        funext i
        apply propext
        unfold lS
        by_cases hij : i = j
        · subst hij
          simp only [true_or, true_iff]
          refine ⟨hjn, ?_⟩
          rw [Array.getD_eq_getD_getElem?, Array.getElem?_setIfInBounds_self_of_lt (by omega)]; rfl
        · simp only [hij, false_or]
          rw [Array.getD_eq_getD_getElem?, Array.getD_eq_getD_getElem?, Array.getElem?_setIfInBounds_ne (Ne.symm hij)]
      have next : ∀ (a' : Act) (w' : World), (∃ m' HS', DInv P G N ops ms D T H v m0 w0 (fun i => i = j ∨ lS ops listed i) a' w' m' HS') →
          wpAny P .any ops (fun e a' w' => ∃ m' T' h', SRel G N m' T' h' a' w' ∧ Grow m0 (H 0) w0 m' h' w' ∧ Q e T' h') fuel (listed.setIfInBounds j true) a' w' := by
        intro a' w' hd'
        rw [hS2] at hd'
        refine ih _ a' w' (by simp [hsz]) ?_ hd'
        have : (List.range ops.size).countP (fun i => !(listed.setIfInBounds j true).getD i false) < (List.range ops.size).countP (fun i => !listed.getD i false) := by
          refine countP_lt _ (fun x hx hp => ?_) ⟨j, by simpa using hjn, ?_, ?_⟩
          · by_cases hxj : x = j
            · subst hxj
              rw [Array.getD_eq_getD_getElem?, Array.getElem?_setIfInBounds_self_of_lt (by omega)] at hp
              simp at hp
            · rw [Array.getD_eq_getD_getElem?, Array.getElem?_setIfInBounds_ne (Ne.symm hxj), ← Array.getD_eq_getD_getElem?] at hp
              exact hp
          · cases hq : listed.getD j false with
            | true => exact absurd ⟨hjn, hq⟩ hjS
            | false => rfl
          · rw [Array.getD_eq_getD_getElem?, Array.getElem?_setIfInBounds_self_of_lt (by omega)]; rfl
        omega
      have hok := (f.okAt ho).1
      -- the guard
      have hwant : Region.wanted o (yielded ops a.tmps) = wantedA ops (T j) o := by
        unfold wantedA Region.wanted
        cases hg : o.guard with
        | none => rfl
        | some p =>
          obtain ⟨q, want⟩ := p
          simp only
          unfold yielded yieldedA
          cases ht : (ops[q]?).bind (·.dst) with
          | none => rfl
          | some t =>
            have hlk : looksB ops o t = true := by
              unfold looksB; rw [hg]; simp [ht]
            have hv := d.tmpAt f ho hjS hpre hlk
            have htN : t < N := by
              simp only [operOk, hg, ht, Bool.and_eq_true, decide_eq_true_eq] at hok
              exact hok.2
            have hgx : a.tmps[t]? = some (a.tmps.getD t undef) := by
              rw [Array.getD_eq_getD_getElem?, Array.getElem?_eq_getElem (by rw [d.size]; exact htN)]; rfl
            simp only [Option.bind_some, Option.map_some, hgx]
            generalize a.tmps.getD t undef = x at hv
            generalize T j t = u at hv
            cases hv <;> rfl
      unfold wpOp
      rw [ho]
      simp only
      rw [hwant]
      rcases f.text.op j o ho (Nat.zero_le _) with ⟨hw, V, ⟨hV0, hV1, hV2, hV3⟩, hA, hSC, hop⟩ | ⟨hw, hvu, hH, hD⟩
      · rw [if_pos hw]
        left
        have hview := d.view f ho hjS hpre hV0 hV1 hV2 hV3
        have hrV : WRel G m V w := d.wr.sub (by rw [hV0, d.hlen]; exact f.le (by omega) (by omega))
          (fun g hg => by rw [hV0]; have := hG g hg; have := f.le (i := 0) (j := j) (by omega) (by omega); omega) hview
        have hor : ORel V.length m (T j) a o := by
          intro x hx
          have hxok : opnOk G x = true := by
            simp only [operOk, Bool.and_eq_true] at hok
            have := hok.1.1
            rw [Array.all_eq_true] at this
            obtain ⟨i, hi, rfl⟩ := Array.mem_iff_getElem.1 hx
            exact this i hi
          cases x with
          | tmp t =>
            rw [hV0]
            refine d.tmpAt f ho hjS hpre ?_
            unfold looksB
            rw [Bool.or_eq_true]
            left
            rw [Array.any_eq_true]
            obtain ⟨i, hi, hxe⟩ := Array.mem_iff_getElem.1 hx
            exact ⟨i, hi, by rw [hxe]; simp [opTmp]⟩
          | const c => exact VRel.const _ _ hxok
          | global gg =>
            simp only [opnOk, decide_eq_true_eq] at hxok
            obtain ⟨h1, h2, h3⟩ := hrV.glob gg hxok
            simp only [ev, Act.eval]
            have hpl : place m ⟨gg, 0, none⟩ = ⟨gg, 0, none⟩ := by unfold place; simp only [h2, h3]
            have h4 := VRel.ptr (n := V.length) (m := m) ⟨gg, 0, none⟩ rfl h1
            rw [hpl] at h4; exact h4
          | func fn => exact .func _ _ _ _ _ rfl rfl (fun i hi _ => absurd hi (by simp)) (fun i hi _ => absurd hi (by simp))
        refine Oper.wp_mono ?_ (hop m a w hor hrV _)
        rintro a' w' ⟨vv, v', m', h', rfl, hvv, hr', hg', rfl, hB⟩
        exact next _ _ ⟨_, _, d.step f ho hjS hpre hV0 (fun id b hb hk => (hview id b hb hk).1) hV2 hV3 hA hB hSC hvv hr' hg'⟩
      · rw [if_neg (by rw [hw]; simp)]
        exact next _ _ (d.skip f ho hjS hpre hvu hH hD hG)

/-- A region whose order is open is walked in the order of its text. -/
theorem aw_draw {Q : Exit → Tmps → Heap → Prop} {T : Tmps} {h : Heap} {id : Nat} {ops : Array Oper} (hm : P.follows .mixedOrders = true) (D : List (List Nat))
    (hok : drawOk G N ops (ancM ops.toList []) = true) (hd : ADraw P G ops (ancM ops.toList []) D Q ops.toList 0 T h []) : AW P G N (.region id ops true) Q T h := by
  intro m a w s
  obtain ⟨TT, HH, vv, h1, h2, h3, h4⟩ := text_of_adraw (P := P) (G := G) (Q := Q) (ops := ops) ops.toList 0 (fun _ => T) (fun _ => h) [] (by simp) rfl (by intro i hi; omega) hd
  have hT0 : TT 0 = T := h1 0 (Nat.le_refl _)
  have hH0 : HH 0 = h := h2 0 (Nat.le_refl _)
  have f : DrawFacts P G N ops (ancM ops.toList []) D TT HH vv := ⟨h3, rfl, hok⟩
  have hl : 0 + ops.toList.length = ops.size := by simp
  rw [hl] at h4
  refine wp_region_any hm ?_
  have hL := f.le (i := 0) (j := ops.size) (by omega) (by omega)
  rw [hH0] at hL
  have hw : ({ w with drawn := w.drawn + 1 } : World) = w.drew := rfl
  rw [hw]
  have hgoal := draw_any (P := P) (G := G) (N := N) (m0 := m) (w0 := w) f (fun g hg => by rw [hH0]; exact (s.wr.glob g hg).1) h4 ops.size (Array.replicate ops.size false) a w.drew
    (by simp) (by have := List.countP_le_length (p := fun i => !(Array.replicate ops.size false).getD i false) (l := List.range ops.size); simpa using this) ?_
  · rw [hH0] at hgoal; exact hgoal
  · have hnS : ∀ i, ¬ lS ops (Array.replicate ops.size false) i := by
      rintro i ⟨h1, h2⟩
      rw [Array.getD_eq_getD_getElem?, Array.getElem?_replicate, if_pos h1] at h2
      simp at h2
    have hget : ∀ (id : Nat) (b : Blk), (h ++ List.replicate ((HH ops.size).length - h.length) (⟨0, 0, []⟩ : Blk))[id]? = some b → b.k ≠ 0 → h[id]? = some b := by
      intro id b hb hk
      by_cases hid : id < h.length
      · rw [List.getElem?_append_left hid] at hb; exact hb
      · rw [List.getElem?_append_right (by omega), List.getElem?_replicate] at hb
        split at hb
        · cases hb; exact absurd rfl hk
        · cases hb
    have hlen : (h ++ List.replicate ((HH ops.size).length - h.length) (⟨0, 0, []⟩ : Blk)).length = (HH ops.size).length := by simp; omega
    have hr := s.wr.drew
    refine ⟨m, h ++ List.replicate ((HH ops.size).length - h.length) ⟨0, 0, []⟩, ⟨fun i o hi => absurd hi (hnS i), fun i hi => hi.1, s.defers, s.size, fun t => ?_,
      fun i hi => absurd hi (hnS i), fun i hi => absurd hi (hnS i), ?_, hlen, ?_, ?_, ?_, ?_⟩⟩
    · refine ⟨T t, (s.tmp t).mono hL (Agree.refl _ _), .inr ⟨fun i o hi => absurd hi (hnS i), by rw [hT0], ?_⟩⟩
      rw [hH0]; exact (s.tmp t).ids
    · rw [hH0]
      intro id b hb hk x hx
      obtain ⟨q, hq⟩ := List.getElem?_of_mem hx
      obtain ⟨x', _, p2, _⟩ := hr.cell id b hb hk q x hq
      exact p2.ids
    · intro id b hb hk
      rw [hH0]
      exact .inr ⟨fun i hi => absurd hi (hnS i), hget id b hb hk⟩
    · intro id b hk hc
      rcases hc with ⟨i, hi, _⟩ | ⟨_, hb⟩
      · exact absurd hi (hnS i)
      · rw [hH0] at hb
        rw [List.getElem?_append_left (lt_of_get hb)]; exact hb
    · refine ⟨?_, ?_, ?_, ?_, ?_, fun g hg => ?_, fun g o hg => ⟨(hr.tab g o hg).1, fun id b hb ho => (hr.tab g o hg).2 id b (hget id b hb (Blk.own_live ho)) ho⟩⟩
      · intro id b hb hk q x hq
        obtain ⟨x', p1, p2, p3⟩ := hr.cell id b (hget id b hb (by omega)) hk q x hq
        exact ⟨x', p1, p2.mono (by rw [hlen]; exact hL) (Agree.refl _ _), p3⟩
      · intro id b hb hk; exact hr.room id b (hget id b hb (by omega)) hk
      · intro id b hb hk; exact hr.iter id b (hget id b hb (by omega)) hk
      · intro id b hb hk; exact hr.live id b (hget id b hb hk) hk
      · intro i i' x x' hx hx' ho hk hne
        exact hr.apart i i' x x' (hget i x hx (Blk.own_live ho)) (hget i' x' hx' hk) ho hk hne
      · obtain ⟨q1, q2⟩ := hr.glob g hg
        exact ⟨by rw [hlen]; omega, q2⟩
    · rw [hH0]
      have g0 := Grow.drew m h w
      exact ⟨g0.agree, by rw [hlen]; exact hL, g0.size, g0.io, g0.keeps, fun id b hb hk => g0.owned id b (hget id b hb hk) hk⟩

end
end Go.Proofs.Ytiddnhhjlipebaa.Am
