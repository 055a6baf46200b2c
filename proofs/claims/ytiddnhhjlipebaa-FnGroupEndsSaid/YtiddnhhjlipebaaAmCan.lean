/- A call that hands back slices of its own: the blocks that can still be reached are kept, in a fixed order; all else is forgotten. Conditions: none. -/
import Derived.Test.YtiddnhhjlipebaaAmV
namespace Go.Proofs.Ytiddnhhjlipebaa.Am
open Go
set_option linter.unusedVariables false
set_option linter.unusedSimpArgs false

/-- The value under the new names, and as it was: L are the blocks that were made, ks says which of them are kept. -/
inductive RV (n : Nat) (L : Heap) (ks : List Nat) : Value → Value → Prop where
  | plain (v : Value) (h : af1 v = true) : RV n L ks v v
  | sl (i k l c e : Nat) (sp : Option Nat) (cs : List Value) (hk : ks[i]? = some k) (hb : L[k]? = some ⟨2, e, cs⟩) (hl : cs.length = l * e) (hc : l ≤ c) (hs : (sp = none ∧ c = l) ∨ sp = some 0) :
      RV n L ks (.slice (some ⟨n + i, 0, some 0⟩) l l) (.slice (some ⟨n + k, 0, sp⟩) l c)
  | agg (cs cs' : Array Value) (hs : cs.size = cs'.size) (h : ∀ (i : Nat) (h : i < cs.size) (h' : i < cs'.size), RV n L ks cs[i] cs'[i]) : RV n L ks (.agg cs) (.agg cs')
  | tuple (cs cs' : Array Value) (hs : cs.size = cs'.size) (h : ∀ (i : Nat) (h : i < cs.size) (h' : i < cs'.size), RV n L ks cs[i] cs'[i]) : RV n L ks (.tuple cs) (.tuple cs')

def canMap (n : Nat) (ks : List Nat) (m : Map) : Map := fun id => if id < n then m id else match ks[id - n]? with | some k => m (n + k) | none => m id

theorem canMap_old {n : Nat} {ks : List Nat} {m : Map} {id : Nat} (h : id < n) : canMap n ks m id = m id := by unfold canMap; rw [if_pos h]
theorem canMap_new {n : Nat} {ks : List Nat} {m : Map} {i k : Nat} (h : ks[i]? = some k) : canMap n ks m (n + i) = m (n + k) := by
  unfold canMap; rw [if_neg (by omega), Nat.add_sub_cancel_left, h]

section
variable {P : Program} {G : Glo} {h : Heap}

theorem RV.vrel {n : Nat} {L Bs : Heap} {ks : List Nat} {v0 v : Value} (hr : RV h.length L ks v0 v) {m : Map} {w : World} {v' : Value} (hlen : ks.length = Bs.length)
    (r : WRel G m (h ++ L) w) (hv : VRel (h ++ L).length m v v') : VRel (h ++ Bs).length (canMap h.length ks m) v0 v' := by
  induction hr generalizing v' with
  | plain v ha => rw [hv.eq_af1 ha]; exact .of_af (by cases v <;> simp_all [af, af1])
  | sl i k l c e sp cs hk hb hl hc hs =>
    have hi : i < Bs.length := by rw [← hlen]; exact (List.getElem?_eq_some_iff.1 hk).1
    have hbk : (h ++ L)[h.length + k]? = some ⟨2, e, cs⟩ := by rw [get_at]; exact hb
    have hm := canMap_new (n := h.length) (m := m) hk
    obtain ⟨he, hroom, _⟩ := r.room _ _ hbk rfl
    cases hv with
    | slice a l c ha hn =>
      rcases hs with ⟨rfl, rfl⟩ | rfl
      · refine .sliceIn _ _ _ _ _ rfl (by simp; omega) (Nat.le_refl _) rfl ?_ (fun _ => ?_) ?_ ?_
        · simp only [place, hm]
        · simp only [place, hm]
        · simp only [place, hm]; omega
        · simp only [place, hm]
          simp only at he hroom
          rw [he, ← hl]; omega
      · simp at ha
    | sliceIn a y l c c' ha hn hcc hy hb2 hp hlo hhi =>
      refine .sliceIn _ _ _ _ _ rfl (by simp; omega) (by omega) hy ?_ (fun q => ?_) ?_ ?_
      · simp only [hm]; exact hb2
      · have := hp (by omega)
        rw [this]; simp only [place, hm]
      · simp only [hm]; exact hlo
      · simp only [hm]; exact hhi
  | agg cs cs' hs _ ih =>
    cases hv with
    | agg _ cs2 hs2 g => exact .agg _ _ (by omega) fun i q1 q2 => ih i q1 (by omega) (g i (by omega) q2)
  | tuple cs cs' hs _ ih =>
    cases hv with
    | tuple _ cs2 hs2 g => exact .tuple _ _ (by omega) fun i q1 q2 => ih i q1 (by omega) (g i (by omega) q2)

theorem get_app {h L : Heap} {id : Nat} {b : Blk} (hb : (h ++ L)[id]? = some b) : (id < h.length ∧ h[id]? = some b) ∨ ∃ i, id = h.length + i ∧ L[i]? = some b := by
  by_cases hi : id < h.length
  · exact .inl ⟨hi, by rwa [List.getElem?_append_left hi] at hb⟩
  · rw [List.getElem?_append_right (by omega)] at hb
    exact .inr ⟨id - h.length, by omega, hb⟩

def Inj (ks : List Nat) : Prop := ∀ (i j k : Nat), ks[i]? = some k → ks[j]? = some k → i = j
theorem Inj.nil : Inj [] := fun i j k h => by simp at h
theorem Inj.one (a : Nat) : Inj [a] := by
  intro i j k h1 h2
  have := (List.getElem?_eq_some_iff.1 h1).1
  have := (List.getElem?_eq_some_iff.1 h2).1
  simp at *; omega
theorem Inj.two {a b : Nat} (h : a ≠ b) : Inj [a, b] := by
  intro i j k h1 h2
  match i, j, h1, h2 with
  | 0, 0, _, _ => rfl
  | 1, 1, _, _ => rfl
  | 0, 1, h1, h2 => simp at h1 h2; omega
  | 1, 0, h1, h2 => simp at h1 h2; omega
theorem Inj.three {a b c : Nat} (h1 : a ≠ b) (h2 : a ≠ c) (h3 : b ≠ c) : Inj [a, b, c] := by
  intro i j k g1 g2
  match i, j, g1, g2 with
  | 0, 0, _, _ => rfl
  | 1, 1, _, _ => rfl
  | 2, 2, _, _ => rfl
  | 0, 1, g1, g2 => simp at g1 g2; omega
  | 1, 0, g1, g2 => simp at g1 g2; omega
  | 0, 2, g1, g2 => simp at g1 g2; omega
  | 2, 0, g1, g2 => simp at g1 g2; omega
  | 1, 2, g1, g2 => simp at g1 g2; omega
  | 2, 1, g1, g2 => simp at g1 g2; omega

theorem acalls_canon {f : FuncId} {args : Array Value} (v0 : Value) (Bs : Heap)
    (ha : ACalls P G f args h fun v h' => ∃ (L : Heap) (ks : List Nat), h' = h ++ L ∧ Inj ks ∧ ks.length = Bs.length ∧
      (∀ (i : Nat) (b : Blk), Bs[i]? = some b → b.k = 2 ∧ (∀ x ∈ b.cs, af1 x = true) ∧ ∃ k, ks[i]? = some k ∧ L[k]? = some b) ∧ RV h.length L ks v0 v) :
    ACalls P G f args h fun v h' => v = v0 ∧ h' = h ++ Bs := by
  intro m args' w hs hp r
  refine (ha m args' w hs hp r).mono ?_
  rintro e w' ⟨v, v', m', h', rfl, hv, r', g, L, ks, rfl, hnd, hlen, hB, hrv⟩
  have up : ∀ {i : Nat} {x : Blk}, h[i]? = some x → (h ++ L)[i]? = some x := fun hx => by
    rw [List.getElem?_append_left (lt_of_get hx)]; exact hx
  have hag : Agree h.length m' (canMap h.length ks m') := fun id hid => canMap_old hid
  refine ⟨v0, v', canMap h.length ks m', h ++ Bs, rfl, hrv.vrel (n := 0) hlen r' hv, ?_, ?_, rfl, rfl⟩
  · have key : ∀ {id : Nat} {b : Blk}, (h ++ Bs)[id]? = some b → ∃ id', (h ++ L)[id']? = some b ∧ canMap h.length ks m' id = m' id' ∧
        ((id < h.length ∧ id' = id) ∨ ∃ i k, id = h.length + i ∧ id' = h.length + k ∧ ks[i]? = some k) := by
      intro id b hb
      rcases get_app hb with ⟨h1, h2⟩ | ⟨i, rfl, h2⟩
      · exact ⟨id, up h2, canMap_old h1, .inl ⟨h1, rfl⟩⟩
      · obtain ⟨_, _, k, q1, q2⟩ := hB i b h2
        exact ⟨h.length + k, by rw [get_at]; exact q2, canMap_new q1, .inr ⟨i, k, rfl, rfl, q1⟩⟩
    refine ⟨?_, ?_, ?_, ?_, ?_, ?_, fun gi o hg => ⟨(r'.tab gi o hg).1, fun id b hb ho => by
      obtain ⟨id', h1, h2, _⟩ := key hb
      rw [h2]; exact (r'.tab gi o hg).2 id' b h1 ho⟩⟩
    · intro id b hb hk j v hj
      rcases get_app hb with ⟨h1, h2⟩ | ⟨i, rfl, h2⟩
      · obtain ⟨v', q1, q2, q3⟩ := r'.cell id b (up h2) hk j v hj
        obtain ⟨u, _, p2, _⟩ := r.cell id b h2 hk j v hj
        refine ⟨v', by rw [canMap_old h1]; exact q1, (q2.lower p2).mono (by simp) hag, q3⟩
      · obtain ⟨_, hpl, k, q1, q2⟩ := hB i b h2
        obtain ⟨v', p1, p2, p3⟩ := r'.cell (h.length + k) b (by rw [get_at]; exact q2) hk j v hj
        have hv := hpl v (List.mem_of_getElem? hj)
        refine ⟨v', by rw [canMap_new q1]; exact p1, ?_, p3⟩
        rw [p2.eq_af1 hv]; exact .of_af (by cases v <;> simp_all [af, af1])
    · intro id b hb hk
      obtain ⟨id', h1, h2, _⟩ := key hb
      rw [h2]; exact r'.room id' b h1 hk
    · intro id b hb hk
      obtain ⟨id', h1, h2, _⟩ := key hb
      rw [h2]; exact r'.iter id' b h1 hk
    · intro id b hb hk
      obtain ⟨id', h1, h2, _⟩ := key hb
      rw [h2]; exact r'.live id' b h1 hk
    · intro id id2 b b2 hb hb2 ho hk hne
      obtain ⟨x, h1, h2, h3⟩ := key hb
      obtain ⟨y, g1, g2, g3⟩ := key hb2
      rw [h2, g2]
      refine r'.apart x y b b2 h1 g1 ho hk ?_
      rintro rfl
      rcases h3 with ⟨a1, a2⟩ | ⟨i, k, a1, a2, a3⟩
      · rcases g3 with ⟨c1, c2⟩ | ⟨j, l, c1, c2, c3⟩ <;> omega
      · rcases g3 with ⟨c1, c2⟩ | ⟨j, l, c1, c2, c3⟩
        · omega
        · have : k = l := by omega
          subst this
          have := hnd _ _ _ a3 c3
          omega
    · intro x hx
      have h1 := r.glob x hx
      have h2 := r'.glob x hx
      exact ⟨by simp; omega, by rw [canMap_old h1.1]; exact h2.2⟩
  · refine ⟨fun id hid => (canMap_old hid).trans (g.agree id hid), by simp, g.size, g.io, g.keeps, fun id b hb hk => ?_⟩
    rcases get_app hb with ⟨h1, h2⟩ | ⟨i, rfl, h2⟩
    · rw [canMap_old h1]; exact g.owned id b (up h2) hk
    · obtain ⟨_, _, k, q1, q2⟩ := hB i b h2
      rw [canMap_new q1]; exact g.owned (h.length + k) b (by rw [get_at]; exact q2) hk

end
end Go.Proofs.Ytiddnhhjlipebaa.Am
