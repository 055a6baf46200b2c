/- What a write into the call's own cells does to the abstract memory. Conditions: none. -/
import Derived.Test.YtiddnhhjlipebaaAmA
namespace Go.Proofs.Ytiddnhhjlipebaa.Am
open Go
set_option linter.unusedVariables false
set_option linter.unusedSimpArgs false

def setMany (w : World) (b o : Nat) : List Value → World
  | [] => w
  | v :: vs => setMany (w.setCell ⟨b, o, none⟩ v) b (o + 1) vs

theorem size_setMany (vs : List Value) : ∀ (w : World) (b o : Nat), (setMany w b o vs).heap.size = w.heap.size := by
  induction vs with
  | nil => intro w b o; rfl
  | cons v vs ih => intro w b o; simp only [setMany]; rw [ih, World.size_setCell]

theorem io_setMany (vs : List Value) : ∀ (w : World) (b o : Nat), (setMany w b o vs).os = w.os ∧ (setMany w b o vs).tape = w.tape ∧ (setMany w b o vs).output = w.output := by
  induction vs with
  | nil => intro w b o; exact ⟨rfl, rfl, rfl⟩
  | cons v vs ih => intro w b o; simp only [setMany]; exact ih _ _ _

theorem get_setCell_ne (w : World) (a : Addr) (v : Value) {r : Nat} (h : r ≠ a.block) : (w.setCell a v).heap[r]? = w.heap[r]? := by
  simp only [World.setCell, Array.getElem?_modify]; rw [if_neg (Ne.symm h)]

theorem get_setMany_ne (vs : List Value) : ∀ (w : World) (b o : Nat) {r : Nat}, r ≠ b → (setMany w b o vs).heap[r]? = w.heap[r]? := by
  induction vs with
  | nil => intro w b o r h; rfl
  | cons v vs ih => intro w b o r h; simp only [setMany]; rw [ih _ _ _ h, get_setCell_ne _ _ _ h]

theorem frozen_setMany (vs : List Value) : ∀ (w : World) (b o : Nat) (p : Addr), (setMany w b o vs).frozen? p = w.frozen? p := by
  induction vs with
  | nil => intro w b o p; rfl
  | cons v vs ih => intro w b o p; simp only [setMany]; rw [ih, World.frozen?_setCell]

theorem cell_setMany_out (vs : List Value) : ∀ (w : World) (b o : Nat) (p : Addr), (p.block ≠ b ∨ p.off < o ∨ o + vs.length ≤ p.off) →
    (setMany w b o vs).cell? p = w.cell? p := by
  induction vs with
  | nil => intro w b o p _; rfl
  | cons v vs ih =>
    intro w b o p h
    simp only [List.length_cons] at h
    simp only [setMany]
    rw [ih _ _ _ _ (by omega), World.cell?_setCell_other]
    intro he
    subst he
    simp only at h
    omega

theorem cell_setMany_in (vs : List Value) : ∀ (w : World) (b o : Nat), (∀ j, j < vs.length → ∃ u, w.cell? ⟨b, o + j, none⟩ = some u) →
    ∀ j, j < vs.length → (setMany w b o vs).cell? ⟨b, o + j, none⟩ = vs[j]? := by
  induction vs with
  | nil => intro w b o _ j hj; exact absurd hj (by simp)
  | cons v vs ih =>
    intro w b o h j hj
    simp only [setMany]
    obtain ⟨u, hu⟩ := h 0 (by simp)
    rcases j with _ | j
    · rw [cell_setMany_out _ _ _ _ _ (by right; left; simp)]
      simp only [Nat.add_zero] at hu ⊢
      rw [World.cell?_setCell_same _ _ _ hu]; rfl
    · have h2 := ih (w.setCell ⟨b, o, none⟩ v) b (o + 1) (fun i hi => by
        obtain ⟨u, hu⟩ := h (i + 1) (by simp; omega)
        refine ⟨u, ?_⟩
        rw [World.cell?_setCell_other _ _ _ _ (by intro he; injection he with h1 h2; omega)]
        rw [show o + 1 + i = o + (i + 1) from by omega]; exact hu) j (by simp at hj; omega)
      rw [show o + (j + 1) = o + 1 + j from by omega, h2]; rfl

theorem add_none (a : Addr) (ha : a.spot = none) (n : Nat) : a.add n = ⟨a.block, a.off + n, none⟩ := by
  unfold Addr.add; split
  · rename_i h; subst h; cases a; simp_all
  · cases a; simp_all

theorem run_storeCells {P : Program} (vs : List Value) : ∀ (w : World) (a : Addr) (i : Nat), a.spot = none →
    (∀ v, v ∈ vs → flat v = true) →
    (∀ j, j < vs.length → (∃ u, w.cell? ⟨a.block, a.off + i + j, none⟩ = some u) ∧ w.frozen? ⟨a.block, a.off + i + j, none⟩ = false) →
    (storeCells a vs i).run P w = .ok () (setMany w a.block (a.off + i) vs) := by
  induction vs with
  | nil => intro w a i _ _ _; rfl
  | cons v vs ih =>
    intro w a i ha hf hc
    obtain ⟨⟨u, hu⟩, hfz⟩ := hc 0 (by simp)
    simp only [storeCells, Sem.run_bind, add_none a ha]
    rw [run_store _ _ _ _ _ (flat_oneCell (hf v (by simp)))]
    simp only [Nat.add_zero] at hu hfz
    rw [hu]
    simp only [hfz, Bool.false_eq_true, if_false, Result.andThen_ok]
    rw [ih (w.setCell ⟨a.block, a.off + i, none⟩ v) a (i + 1) ha (fun v hv => hf v (by simp [hv]))]
    · simp only [setMany]; rw [Nat.add_assoc]
    · intro j hj
      obtain ⟨⟨u, hu⟩, hfz⟩ := hc (j + 1) (by simp; omega)
      rw [show a.off + (i + 1) + j = a.off + i + (j + 1) from by omega]
      refine ⟨⟨u, ?_⟩, by rw [World.frozen?_setCell]; exact hfz⟩
      rw [World.cell?_setCell_other _ _ _ _ (by intro he; injection he with h1 h2; omega)]; exact hu

/-- Cells j0, j0 + 1, .. of an own block are written. -/
theorem WRel.setMany {G : Glo} {m : Map} {h : Heap} {w : World} (r : WRel G m h w) {id : Nat} {b : Blk} (hb : h[id]? = some b) (hk : b.k = 2)
    (j0 : Nat) (vs vs' : List Value) (hlen : vs.length = vs'.length)
    (hv : ∀ (j : Nat) (v : Value), vs[j]? = some v → ∃ v', vs'[j]? = some v' ∧ VRel h.length m v v' ∧ flat v = true)
    (hfit : j0 + vs.length ≤ (m id).room) (cs : List Value) (hcl : cs.length ≤ (m id).room)
    (h1 : ∀ (j : Nat) (v : Value), cs[j]? = some v → (j < j0 ∨ j0 + vs.length ≤ j) → b.cs[j]? = some v)
    (h2 : ∀ (j : Nat) (v : Value), j < vs.length → cs[j0 + j]? = some v → vs[j]? = some v) :
    WRel G m (h.set id ⟨2, b.e, cs⟩) (Am.setMany w (m id).b ((m id).o + j0) vs') := by
  have hid := lt_of_get hb
  have hlv := r.live id b hb (by omega)
  obtain ⟨re, rl, rr⟩ := r.room id b hb hk
  have hlen' : (h.set id (⟨2, b.e, cs⟩ : Blk)).length = h.length := by simp
  have hget : ∀ (i : Nat) (x : Blk), (h.set id (⟨2, b.e, cs⟩ : Blk))[i]? = some x → (i = id ∧ x = ⟨2, b.e, cs⟩) ∨ (i ≠ id ∧ h[i]? = some x) := by
    intro i x hx
    by_cases hi : i = id
    · subst hi
      rw [List.getElem?_set_self hid] at hx
      exact .inl ⟨rfl, (Option.some.inj hx).symm⟩
    · rw [List.getElem?_set_ne (Ne.symm hi)] at hx
      exact .inr ⟨hi, hx⟩
  have hne : ∀ (i : Nat) (x : Blk), i ≠ id → h[i]? = some x → x.k ≠ 0 → (m i).b ≠ (m id).b := by
    intro i x hi hx hk0
    exact Ne.symm (r.apart id i b x hb hx (.inl hk) hk0 (Ne.symm hi))
  refine ⟨?_, ?_, ?_, ?_, ?_, fun g hg => ?_, fun g o hg => ?_⟩
  · intro i x hx hkx j v hj
    rw [hlen']
    rcases hget i x hx with ⟨rfl, rfl⟩ | ⟨hi, hx'⟩
    · by_cases hin : j0 ≤ j ∧ j < j0 + vs.length
      · obtain ⟨hlo, hhi⟩ := hin
        have hvj := h2 (j - j0) v (by omega) (by rw [show j0 + (j - j0) = j from by omega]; exact hj)
        obtain ⟨v', hv', hr, hf⟩ := hv _ _ hvj
        refine ⟨v', ?_, hr, hf⟩
        have hc := cell_setMany_in vs' w (m i).b ((m i).o + j0) (fun q hq => by
          obtain ⟨⟨u, hu⟩, _⟩ := rr (j0 + q) (by omega)
          exact ⟨u, by rw [show (m i).o + j0 + q = (m i).o + (j0 + q) from by omega]; exact hu⟩) (j - j0) (by omega)
        rw [show (m i).o + j0 + (j - j0) = (m i).o + j from by omega] at hc
        rw [hc]; exact hv'
      · have hbj := h1 j v hj (by omega)
        obtain ⟨v', hc, hr, hf⟩ := r.cell i b hb (.inr hk) j v hbj
        refine ⟨v', ?_, hr, hf⟩
        rw [cell_setMany_out _ _ _ _ _ (by right; simp only; omega)]; exact hc
    · obtain ⟨v', hc, hr, hf⟩ := r.cell i x hx' hkx j v hj
      refine ⟨v', ?_, hr, hf⟩
      rw [cell_setMany_out _ _ _ _ _ (.inl (hne i x hi hx' (by omega)))]; exact hc
  · intro i x hx hkx
    rcases hget i x hx with ⟨rfl, rfl⟩ | ⟨hi, hx'⟩
    · refine ⟨re, hcl, fun j hj => ?_⟩
      obtain ⟨⟨u, hu⟩, hf⟩ := rr j hj
      refine ⟨?_, by rw [frozen_setMany]; exact hf⟩
      by_cases hin : j0 ≤ j ∧ j < j0 + vs'.length
      · have hc := cell_setMany_in vs' w (m i).b ((m i).o + j0) (fun q hq => by
          obtain ⟨⟨u, hu⟩, _⟩ := rr (j0 + q) (by omega)
          exact ⟨u, by rw [show (m i).o + j0 + q = (m i).o + (j0 + q) from by omega]; exact hu⟩) (j - j0) (by omega)
        rw [show (m i).o + j0 + (j - j0) = (m i).o + j from by omega] at hc
        rw [hc]; exact ⟨_, List.getElem?_eq_getElem (by omega)⟩
      · rw [cell_setMany_out _ _ _ _ _ (by right; simp only; omega)]; exact ⟨u, hu⟩
    · obtain ⟨q1, q2, q3⟩ := r.room i x hx' hkx
      refine ⟨q1, q2, fun j hj => ?_⟩
      obtain ⟨⟨u, hu⟩, hf⟩ := q3 j hj
      refine ⟨⟨u, ?_⟩, by rw [frozen_setMany]; exact hf⟩
      rw [cell_setMany_out _ _ _ _ _ (.inl (hne i x hi hx' (by omega)))]; exact hu
  · intro i x hx hkx
    rcases hget i x hx with ⟨rfl, rfl⟩ | ⟨hi, hx'⟩
    · simp at hkx
    · obtain ⟨s, pos, q1, q2, q3⟩ := r.iter i x hx' hkx
      exact ⟨s, pos, q1, q2, by rw [get_setMany_ne _ _ _ _ (hne i x hi hx' (by omega))]; exact q3⟩
  · intro i x hx hkx
    rw [size_setMany]
    rcases hget i x hx with ⟨rfl, rfl⟩ | ⟨hi, hx'⟩
    · exact hlv
    · exact r.live i x hx' hkx
  · intro i i' x x' hx hx' ho hk0 hii
    rcases hget i x hx with ⟨rfl, rfl⟩ | ⟨hi, hy⟩ <;> rcases hget i' x' hx' with ⟨rfl, rfl⟩ | ⟨hi', hy'⟩
    · exact absurd rfl hii
    · exact Ne.symm (hne i' x' hi' hy' hk0)
    · exact hne i x hi hy (Blk.own_live ho)
    · exact r.apart i i' x x' hy hy' ho hk0 hii
  · rw [hlen']; exact r.glob g hg
  · obtain ⟨h1, h2⟩ := r.tab g o hg
    refine ⟨by rw [get_setMany_ne _ _ _ _ (Ne.symm (h2 id b hb (.inl hk)))]; exact h1, fun i x hx ho => ?_⟩
    rcases hget i x hx with ⟨rfl, rfl⟩ | ⟨hi, hx'⟩
    · exact h2 i b hb (.inl hk)
    · exact h2 i x hx' ho

theorem Grow.setMany {G : Glo} {m : Map} {h : Heap} {w : World} (r : WRel G m h w) {id : Nat} {b : Blk} (hb : h[id]? = some b) (hk : b.k = 2)
    (o : Nat) (vs : List Value) (x : Blk) (hx : x.k = 2 ∨ x.k = 0) :
    Grow m h w m (h.set id x) (Am.setMany w (m id).b o vs) := by
  have hid := lt_of_get hb
  refine ⟨Agree.refl _ _, by simp, by rw [size_setMany]; omega, io_setMany _ _ _ _, ?_, ?_⟩
  · intro q hq hno
    exact get_setMany_ne _ _ _ _ (Ne.symm (hno id b hb (.inl hk)))
  · intro i y hy hl
    right
    by_cases hi : i = id
    · subst hi
      exact ⟨i, b, hb, by omega, fun _ => .inl hk, rfl⟩
    · rw [List.getElem?_set_ne (Ne.symm hi)] at hy
      exact ⟨i, y, hy, hl, fun z => z, rfl⟩

/-- A block is given up. -/
theorem WRel.kill {G : Glo} {m : Map} {h : Heap} {w : World} (r : WRel G m h w) (id : Nat) (e : Nat) (cs : List Value) :
    WRel G m (h.set id ⟨0, e, cs⟩) w := by
  have hget : ∀ (i : Nat) (x : Blk), (h.set id (⟨0, e, cs⟩ : Blk))[i]? = some x → x.k = 0 ∨ h[i]? = some x := by
    intro i x hx
    by_cases hi : i = id
    · subst hi
      by_cases hl : i < h.length
      · rw [List.getElem?_set_self hl] at hx
        exact .inl (by rw [← Option.some.inj hx])
      · rw [List.getElem?_eq_none (by simp; omega)] at hx; exact absurd hx (by simp)
    · rw [List.getElem?_set_ne (Ne.symm hi)] at hx
      exact .inr hx
  have hlen' : (h.set id (⟨0, e, cs⟩ : Blk)).length = h.length := by simp
  refine ⟨?_, ?_, ?_, ?_, ?_, fun g hg => by rw [hlen']; exact r.glob g hg, fun g o hg => ⟨(r.tab g o hg).1, fun i x hx ho => by
    rcases hget i x hx with h0 | hx'
    · rcases ho with ho | ho <;> omega
    · exact (r.tab g o hg).2 i x hx' ho⟩⟩
  · intro i x hx hkx
    rw [hlen']
    rcases hget i x hx with h0 | hx'
    · omega
    · exact r.cell i x hx' hkx
  · intro i x hx hkx
    rcases hget i x hx with h0 | hx'
    · omega
    · exact r.room i x hx' hkx
  · intro i x hx hkx
    rcases hget i x hx with h0 | hx'
    · omega
    · exact r.iter i x hx' hkx
  · intro i x hx hkx
    rcases hget i x hx with h0 | hx'
    · omega
    · exact r.live i x hx' hkx
  · intro i i' x x' hx hx' ho hk0 hii
    have hl := Blk.own_live ho
    rcases hget i x hx with h0 | hy
    · omega
    · rcases hget i' x' hx' with h0 | hy'
      · omega
      · exact r.apart i i' x x' hy hy' ho hk0 hii

theorem Grow.kill (m : Map) (h : Heap) (w : World) (id : Nat) (e : Nat) (cs : List Value) : Grow m h w m (h.set id ⟨0, e, cs⟩) w := by
  refine ⟨Agree.refl _ _, by simp, Nat.le_refl _, ⟨rfl, rfl, rfl⟩, fun _ _ _ => rfl, ?_⟩
  intro i x hx hl
  by_cases hi : i = id
  · subst hi
    by_cases hl' : i < h.length
    · rw [List.getElem?_set_self hl'] at hx
      exact absurd (by rw [← Option.some.inj hx]) hl
    · rw [List.getElem?_eq_none (by simp; omega)] at hx; exact absurd hx (by simp)
  · rw [List.getElem?_set_ne (Ne.symm hi)] at hx
    exact .inr ⟨i, x, hx, hl, fun z => z, rfl⟩

end Go.Proofs.Ytiddnhhjlipebaa.Am
