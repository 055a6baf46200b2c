/- From a law's arguments that are slices of plain elements to blocks of the abstract memory. Conditions: none. -/
import Derived.Test.YtiddnhhjlipebaaAmRow
import Derived.Test.YtiddnhhjlipebaaAmS
namespace Go.Proofs.Ytiddnhhjlipebaa.Am
open Go Go.RowKit
set_option linter.unusedVariables false
set_option linter.unusedSimpArgs false

theorem flatten_row {w : Nat} : ∀ (rows : List (List Value)) (hw : ∀ r ∈ rows, r.length = w) (i : Nat) (r : List Value), rows[i]? = some r →
    i * w + w ≤ rows.flatten.length ∧ (rows.flatten.drop (i * w)).take w = r
  | [], _, i, r, h => by simp at h
  | x :: rows, hw, 0, r, h => by
      obtain rfl : x = r := by simpa using h
      have hx := hw x (by simp)
      simp only [List.flatten_cons, List.length_append, Nat.zero_mul, Nat.zero_add, List.drop_zero]
      exact ⟨by omega, by rw [← hx]; simp⟩
  | x :: rows, hw, i + 1, r, h => by
      have hx := hw x (by simp)
      obtain ⟨h1, h2⟩ := flatten_row rows (fun r hr => hw r (by simp [hr])) i r (by simpa using h)
      have he : (i + 1) * w = w + i * w := by rw [Nat.succ_mul, Nat.add_comm]
      simp only [List.flatten_cons, List.length_append]
      refine ⟨by rw [he]; omega, ?_⟩
      rw [he, ← hx, ← List.drop_drop, List.drop_left, hx]
      exact h2

theorem length_flatten_rows {w : Nat} : ∀ (rows : List (List Value)) (hw : ∀ r ∈ rows, r.length = w), rows.flatten.length = rows.length * w
  | [], _ => by simp
  | x :: rows, hw => by
      have h1 := length_flatten_rows rows (fun r hr => hw r (by simp [hr]))
      have hx := hw x (by simp)
      simp only [List.flatten_cons, List.length_append, List.length_cons, h1, hx, Nat.succ_mul]
      omega

/-- A block that holds rows, read as a slice. -/
theorem Sl.of_block {h : Heap} {id k e c : Nat} {sp : Option Nat} {rows : List (List Value)} (hb : h[id]? = some ⟨k, e, rows.flatten⟩) (hk : k = 1 ∨ k = 2) (hw : ∀ r ∈ rows, r.length = e)
    (hc : rows.length ≤ c) : Sl h (.slice (some ⟨id, 0, sp⟩) rows.length c) e rows := by
  refine ⟨some ⟨id, 0, sp⟩, c, rfl, hc, fun i r hr => ⟨⟨id, 0, sp⟩, rfl, ?_⟩⟩
  obtain ⟨h1, h2⟩ := flatten_row rows hw i r hr
  unfold loadCs
  simp only [hb, Nat.zero_add]
  rw [if_pos ⟨hk, h1⟩, h2]

theorem Sl.nil (h : Heap) (e : Nat) : Sl h (.slice none 0 0) e [] := ⟨none, 0, rfl, Nat.le_refl _, fun i r hr => by simp at hr⟩

section
variable {H : Type} {enc : TypeId × Value → H} {P : Program} {w : World} {base : Nat} {spare : Nat → Bool} {held : Bool}

theorem cells?_get {w : World} {base : Nat} {a : Addr} {n : Nat} {l : List Value} (h : w.cells? base a n = some l) : l.length = n ∧ ∀ j v, l[j]? = some v → w.cell? (a.add j) = some v := by
  unfold World.cells? at h
  split at h
  · have hl : ∀ (xs : List Nat) (l : List Value), xs.mapM (fun i => w.cell? (a.add i)) = some l → l.length = xs.length ∧ ∀ (j : Nat) (v : Value), l[j]? = some v → ∃ i : Nat, xs[j]? = some i ∧ w.cell? (a.add i) = some v := by
      intro xs
      induction xs with
      | nil => intro l h; simp at h; subst h; exact ⟨rfl, fun j v h => by simp at h⟩
      | cons x xs ih =>
        intro l h
        rw [List.mapM_cons] at h
        cases hx : w.cell? (a.add x) with
        | none => simp [hx] at h
        | some y =>
          cases hr : xs.mapM (fun i => w.cell? (a.add i)) with
          | none => simp [hx, hr] at h
          | some ys =>
            simp [hx, hr] at h
            subst h
            obtain ⟨h1, h2⟩ := ih ys hr
            refine ⟨by simp [h1], fun j v hj => ?_⟩
            cases j with
            | zero => simp at hj; subst hj; exact ⟨x, by simp, hx⟩
            | succ j => obtain ⟨i, q1, q2⟩ := h2 j v (by simpa using hj); exact ⟨i, by simpa using q1, q2⟩
    obtain ⟨h1, h2⟩ := hl _ _ h
    refine ⟨by simpa using h1, fun j v hj => ?_⟩
    obtain ⟨i, q1, q2⟩ := h2 j v hj
    have : i = j := by
      rw [List.getElem?_range (by have := (List.getElem?_eq_some_iff.1 hj).1; rw [h1] at this; simpa using this)] at q1
      exact (Option.some.inj q1).symm
    rw [← this]; exact q2
  · cases h

theorem mapM_get {α β : Type} {f : α → Option β} : ∀ {xs : List α} {l : List β}, xs.mapM f = some l → l.length = xs.length ∧ ∀ (i : Nat) (x : α), xs[i]? = some x → ∃ y, f x = some y
  | [], l, h => by simp at h; subst h; exact ⟨rfl, fun i x hx => by simp at hx⟩
  | x :: xs, l, h => by
      rw [List.mapM_cons] at h
      cases hx : f x with
      | none => simp [hx] at h
      | some y =>
        cases hr : xs.mapM f with
        | none => simp [hx, hr] at h
        | some ys =>
          simp [hx, hr] at h
          subst h
          obtain ⟨h1, h2⟩ := mapM_get hr
          refine ⟨by simp [h1], fun i z hz => ?_⟩
          cases i with
          | zero => simp at hz; subst hz; exact ⟨y, hx⟩
          | succ i => exact h2 i z (by simpa using hz)

/-- A slice of plain elements, as the world has it. -/
theorem open_slice {α : Type} {r : Reach} {b0 : Nat} {t e : TypeId} {v : Value} {fuel : Nat} {x : DataW H × List MemPlace} (f : α → List Value) (wf : α → Prop) {n : Nat}
    (ht : P.underlying t = some (.slice e)) (hc : P.cellsOf e = n)
    (hel : ∀ (fuel : Nat) (cs : List Value) (y : DataW H × List MemPlace), DataW.trod enc P w 0 spare held fuel e cs = some y → ∃ z, cs = f z ∧ wf z)
    (hcell : Cell.ok P w r b0 t v) (h : DataW.trod enc P w 0 spare held fuel t [v] = some x) :
    v = .slice none 0 0 ∨ ∃ (a : Addr) (cap : Nat) (l : List α), v = .slice (some a) l.length cap ∧ a.spot = none ∧ l.length ≤ cap ∧ cap ≤ maxLen ∧ a.block < w.heap.size ∧ (∀ x ∈ l, wf x) ∧
      ∀ i x, l[i]? = some x → ∀ j u, (f x)[j]? = some u → w.cell? ⟨a.block, a.off + (i * n + j), none⟩ = some u := by
  cases fuel with
  | zero => simp [DataW.trod] at h
  | succ fuel =>
    unfold DataW.trod at h
    rw [ht] at h
    unfold Cell.ok at hcell
    rw [ht] at hcell
    match v, h, hcell with
    | .slice none 0 0, _, _ => exact .inl rfl
    | .slice (some a) len cap, h, hcell =>
      right
      simp only [] at h hcell
      obtain ⟨_, _, hs⟩ := hcell
      have hspot : a.spot = none := hs.2.1
      have hblk : a.block < w.heap.size := by
        obtain ⟨_, _, row, cells, hsh, _⟩ := hs
        cases hg : w.heap[a.block]? with
        | none => simp [World.shape?, hg] at hsh
        | some o => exact (Array.getElem?_eq_some_iff.1 hg).1
      split at h
      · rename_i hk
        cases hm : (List.range len).mapM fun i => (w.cells? 0 (a.add (i * P.cellsOf e)) (P.cellsOf e)).bind (DataW.trod enc P w 0 spare held fuel e) with
        | none => simp [hm] at h
        | some elems =>
          obtain ⟨_, h2⟩ := mapM_get hm
          have hz : ∀ i, i < len → ∃ z, wf z ∧ ∀ j u, (f z)[j]? = some u → w.cell? ⟨a.block, a.off + (i * n + j), none⟩ = some u := by
            intro i hi
            obtain ⟨y, hy⟩ := h2 i i (by rw [List.getElem?_range hi])
            cases hcs : w.cells? 0 (a.add (i * P.cellsOf e)) (P.cellsOf e) with
            | none => simp [hcs] at hy
            | some cs =>
              rw [hcs] at hy
              obtain ⟨z, rfl, hwf⟩ := hel _ _ _ hy
              refine ⟨z, hwf, fun j u hj => ?_⟩
              have := (cells?_get hcs).2 j u hj
              rw [hc] at this
              have e1 : ((a.add (i * n)).add j) = ⟨a.block, a.off + (i * n + j), none⟩ := by
                unfold Addr.add
                obtain ⟨ab, ao, asp⟩ := a
                simp only at hspot
                subst hspot
                by_cases q1 : i * n = 0 <;> by_cases q2 : j = 0 <;> simp [q1, q2]; omega
              rw [e1] at this
              exact this
          have hl : ∃ l : List α, l.length = len ∧ (∀ x ∈ l, wf x) ∧ ∀ i x, l[i]? = some x → ∀ j u, (f x)[j]? = some u → w.cell? ⟨a.block, a.off + (i * n + j), none⟩ = some u := by
            have gen : ∀ m, m ≤ len → ∃ l : List α, l.length = m ∧ (∀ x ∈ l, wf x) ∧ ∀ i x, l[i]? = some x → ∀ j u, (f x)[j]? = some u → w.cell? ⟨a.block, a.off + (i * n + j), none⟩ = some u := by
              intro m
              induction m with
              | zero => intro _; exact ⟨[], rfl, by simp, fun i x hx => by simp at hx⟩
              | succ m ih =>
                intro hm
                obtain ⟨l, h1, h2, h3⟩ := ih (by omega)
                obtain ⟨z, q1, q2⟩ := hz m (by omega)
                refine ⟨l ++ [z], by simp [h1], fun x hx => ?_, fun i x hx => ?_⟩
                · rcases List.mem_append.1 hx with hx | hx
                  · exact h2 x hx
                  · simp at hx; subst hx; exact q1
                · by_cases hi : i < l.length
                  · rw [List.getElem?_append_left hi] at hx; exact h3 i x hx
                  · rw [List.getElem?_append_right (by omega)] at hx
                    have hi2 : i - l.length = 0 := by
                      have := (List.getElem?_eq_some_iff.1 hx).1; simp at this; omega
                    rw [hi2] at hx
                    simp at hx; subst hx
                    have : i = m := by omega
                    subst this; exact q2
            exact gen len (Nat.le_refl _)
          obtain ⟨l, h1, h2, h3⟩ := hl
          exact ⟨a, cap, l, by rw [h1], hspot, by omega, hk.2.2, hblk, h2, h3⟩
      · cases h

/-- Such a slice under a block of its own. -/
theorem wrel_open {α : Type} {G : Glo} {m : Map} {h : Heap} {w : World} (r : WRel G m h w) (hno : ∀ (id : Nat) (b : Blk), h[id]? = some b → ¬ b.own) (f : α → List Value) {n : Nat} {a : Addr} {l : List α}
    (hf : ∀ x, (f x).length = n ∧ ∀ u ∈ f x, af u = true ∧ flat u = true) (hblk : a.block < w.heap.size)
    (hg : ∀ i x, l[i]? = some x → ∀ j u, (f x)[j]? = some u → w.cell? ⟨a.block, a.off + (i * n + j), none⟩ = some u) :
    WRel G (m.put h.length ⟨a.block, a.off, n, 0⟩) (h ++ [⟨1, n, (l.map f).flatten⟩]) w ∧
    (∀ (id : Nat) (b : Blk), (h ++ [(⟨1, n, (l.map f).flatten⟩ : Blk)])[id]? = some b → ¬ b.own) := by
  have hag : Agree h.length m (m.put h.length ⟨a.block, a.off, n, 0⟩) := Map.agree_put _ _ _
  have hlen : (h ++ [(⟨1, n, (l.map f).flatten⟩ : Blk)]).length = h.length + 1 := by simp
  have hrow : ∀ r ∈ l.map f, r.length = n := by
    intro r hr; obtain ⟨x, _, rfl⟩ := List.mem_map.1 hr; exact (hf x).1
  have hcell : ∀ j v, (l.map f).flatten[j]? = some v → w.cell? ⟨a.block, a.off + j, none⟩ = some v ∧ af v = true ∧ flat v = true := by
    intro j v hj
    have hn : 0 < n := by
      rcases Nat.eq_zero_or_pos n with h0 | h0
      · have hj' := (List.getElem?_eq_some_iff.1 hj).1
        rw [length_flatten_rows _ hrow, h0] at hj'; omega
      · exact h0
    have hjl := (List.getElem?_eq_some_iff.1 hj).1
    rw [length_flatten_rows _ hrow, List.length_map] at hjl
    have hi : j / n < l.length := Nat.div_lt_of_lt_mul (by rw [Nat.mul_comm]; exact hjl)
    have hx : (l.map f)[j / n]? = some (f l[j / n]) := by rw [List.getElem?_map, List.getElem?_eq_getElem hi]; rfl
    obtain ⟨q1, q2⟩ := flatten_row _ hrow (j / n) _ hx
    have hjj : j / n * n + j % n = j := by rw [Nat.mul_comm]; exact Nat.div_add_mod j n
    have h3 : (f l[j / n])[j % n]? = some v := by
      rw [← q2, List.getElem?_take, if_pos (Nat.mod_lt _ hn), List.getElem?_drop, hjj]; exact hj
    have h4 := hg (j / n) _ (List.getElem?_eq_getElem hi) (j % n) v h3
    rw [hjj] at h4
    exact ⟨h4, (hf _).2 v (List.mem_of_getElem? h3)⟩
  refine ⟨⟨?_, ?_, ?_, ?_, ?_, fun g hg => ⟨by have := (r.glob g hg).1; simp; omega, by rw [hag g (r.glob g hg).1]; exact (r.glob g hg).2⟩, fun g o hg => ⟨(r.tab g o hg).1, fun id b hb ho => by
      exfalso
      rcases get_snoc hb with ⟨h1, h2⟩ | ⟨rfl, rfl⟩
      · exact hno id b h2 ho
      · rcases ho with ho | ho <;> simp at ho⟩⟩, ?_⟩
  · intro id b hb hk j v hj
    rw [hlen]
    rcases get_snoc hb with ⟨h1, h2⟩ | ⟨rfl, rfl⟩
    · obtain ⟨v', h3, h4, h5⟩ := r.cell id b h2 hk j v hj
      exact ⟨v', by rw [hag id h1]; exact h3, h4.mono (Nat.le_succ _) hag, h5⟩
    · obtain ⟨q1, q2, q3⟩ := hcell j v hj
      refine ⟨v, ?_, .of_af q2, q3⟩
      rw [Map.put_same]; exact q1
  · intro id b hb hk
    rcases get_snoc hb with ⟨h1, h2⟩ | ⟨rfl, rfl⟩
    · exact absurd (.inl hk) (hno id b h2)
    · exact absurd hk (by simp)
  · intro id b hb hk
    rcases get_snoc hb with ⟨h1, h2⟩ | ⟨rfl, rfl⟩
    · exact absurd (.inr hk) (hno id b h2)
    · exact absurd hk (by simp)
  · intro id b hb hk
    rcases get_snoc hb with ⟨h1, h2⟩ | ⟨rfl, rfl⟩
    · rw [hag id h1]; exact r.live id b h2 hk
    · rw [Map.put_same]; exact hblk
  · intro id id' b b' hb hb' ho hk' hne
    exfalso
    rcases get_snoc hb with ⟨h1, h2⟩ | ⟨rfl, rfl⟩
    · exact hno id b h2 ho
    · rcases ho with ho | ho <;> simp at ho
  · intro id b hb ho
    rcases get_snoc hb with ⟨h1, h2⟩ | ⟨rfl, rfl⟩
    · exact hno id b h2 ho
    · rcases ho with ho | ho <;> simp at ho
end
end Go.Proofs.Ytiddnhhjlipebaa.Am
