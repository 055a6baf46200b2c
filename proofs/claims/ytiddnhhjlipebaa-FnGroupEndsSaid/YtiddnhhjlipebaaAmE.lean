/- Loads, stores, new blocks, addresses, cuts and appends over the abstract memory. Conditions: none. -/
import Derived.Test.YtiddnhhjlipebaaAmD
namespace Go.Proofs.Ytiddnhhjlipebaa.Am
open Go
set_option linter.unusedVariables false
set_option linter.unusedSimpArgs false

section
variable {P : Program} {G : Glo} {m : Map} {h : Heap} {w : World}

theorem WRel.getC (r : WRel G m h w) {id off : Nat} {v : Value} (hc : Am.getC h id off = some v) :
    ∃ v', w.cell? ⟨(m id).b, (m id).o + off, none⟩ = some v' ∧ VRel h.length m v v' ∧ flat v = true := by
  unfold Am.getC at hc
  cases hb : h[id]? with
  | none => rw [hb] at hc; simp at hc
  | some b =>
    rw [hb] at hc
    simp only at hc
    split at hc
    · rename_i hk; exact r.cell id b hb hk off v hc
    · simp at hc

theorem WRel.loadCs (r : WRel G m h w) {id off n : Nat} {l : List Value} (hl : Am.loadCs h id off n = some l) :
    l.length = n ∧ ∃ l' : List Value, l'.length = n ∧ (∀ (j : Nat) (v' : Value), l'[j]? = some v' → w.cell? ⟨(m id).b, (m id).o + off + j, none⟩ = some v') ∧
      ∀ (j : Nat) (v : Value), l[j]? = some v → ∃ v', l'[j]? = some v' ∧ VRel h.length m v v' ∧ flat v = true := by
  unfold Am.loadCs at hl
  cases hb : h[id]? with
  | none => rw [hb] at hl; simp at hl
  | some b =>
    rw [hb] at hl
    simp only at hl
    split at hl
    · rename_i hk
      obtain ⟨hk, hn⟩ := hk
      cases hl
      refine ⟨by simp; omega, (List.range n).map (fun j => (w.cell? ⟨(m id).b, (m id).o + off + j, none⟩).getD undef), by simp, ?_, ?_⟩
      · intro j v' hj
        obtain ⟨h1, h2⟩ := List.getElem?_eq_some_iff.1 hj
        simp at h1
        have hc : ∃ u, b.cs[off + j]? = some u := ⟨_, List.getElem?_eq_getElem (by omega)⟩
        obtain ⟨u, hu⟩ := hc
        obtain ⟨u', q1, _, _⟩ := r.cell id b hb hk (off + j) u hu
        rw [← Nat.add_assoc] at q1
        simp only [List.getElem_map, List.getElem_range, q1, Option.getD_some] at h2
        rw [q1, h2]
      · intro j v hj
        have hjn : j < n := by
          obtain ⟨h1, _⟩ := List.getElem?_eq_some_iff.1 hj
          simp at h1; omega
        rw [List.getElem?_take_of_lt hjn, List.getElem?_drop] at hj
        obtain ⟨u', q1, q2, q3⟩ := r.cell id b hb hk (off + j) v hj
        rw [← Nat.add_assoc] at q1
        exact ⟨u', by simp [hjn, q1], q2, q3⟩
    · simp at hl

theorem run_loadCells_at {a : Addr} (ha : a.spot = none) {l' : List Value}
    (hc : ∀ (j : Nat) (v' : Value), l'[j]? = some v' → w.cell? ⟨a.block, a.off + j, none⟩ = some v') :
    (loadCells a l'.length).run P w = .ok l'.toArray w :=
  run_loadCells_list w a l' (fun j v hj => by rw [add_none a ha]; exact hc j v hj)

def ldv (P : Program) (t : TypeId) (h : Heap) : Value → Option Value
  | .pointer (some a) => match ldK P t with
    | some (some n) => (Am.loadCs h a.block a.off n).map fun l => .agg l.toArray
    | some none => Am.getC h a.block a.off
    | none => none
  | _ => none

theorem run_isAgg {t : TypeId} {d : TypeDesc} (hd : P.underlying t = some d) : (isAgg t).run P w =
    .ok (aggD d) w := by
  simp only [isAgg, Sem.run_bind, run_underlying hd, Result.andThen_ok]
  cases d <;> rfl

theorem VRel.agg_list {n : Nat} {m : Map} {l l' : List Value} (hl : l.length = l'.length)
    (hp : ∀ (j : Nat) (v : Value), l[j]? = some v → ∃ v', l'[j]? = some v' ∧ VRel n m v v') : VRel n m (.agg l.toArray) (.agg l'.toArray) := by
  refine .agg _ _ (by simp [hl]) fun i h1 h2 => ?_
  simp only [List.size_toArray] at h1 h2
  obtain ⟨v', q1, q2⟩ := hp i l[i] (List.getElem?_eq_getElem h1)
  rw [List.getElem?_eq_getElem h2] at q1
  simp only [List.getElem_toArray]
  rw [Option.some.inj q1]; exact q2

theorem run_ldv (r : WRel G m h w) {t : TypeId} {x x' v : Value} (hx : VRel h.length m x x') (hv : ldv P t h x = some v) :
    ∃ v', (Instr.loadAt t x').run P w = .ok v' w ∧ VRel h.length m v v' := by
  unfold ldv at hv
  split at hv
  · rename_i a
    obtain ⟨hs, hlt, rfl⟩ := inv_ptr hx
    have hK : ∀ k, ldK P t = some k → ∃ d i, P.underlying t = some d ∧ P.info? t = some i ∧ k = if aggD d = true then some i.size else none := by
      intro k hk
      unfold ldK at hk
      cases hu : P.underlying t with
      | none => rw [hu] at hk; simp at hk
      | some d =>
        cases hi : P.info? t with
        | none => rw [hu, hi] at hk; simp at hk
        | some i =>
          rw [hu, hi] at hk
          exact ⟨d, i, rfl, rfl, (Option.some.inj hk).symm⟩
    cases hk : ldK P t with
    | none => rw [hk] at hv; simp at hv
    | some k =>
      obtain ⟨d, i, hu, hi, hkd⟩ := hK k hk
      rw [hk] at hv
      cases k with
      | some n =>
        simp only at hv
        cases hl : Am.loadCs h a.block a.off n with
        | none => rw [hl] at hv; simp at hv
        | some l =>
          rw [hl] at hv
          simp only [Option.map_some] at hv
          cases hv
          obtain ⟨h1, l', h2, h3, h4⟩ := r.loadCs hl
          have hag : aggD d = true ∧ i.size = n := by
            by_cases ha : aggD d = true
            · rw [if_pos ha] at hkd; exact ⟨ha, (Option.some.inj hkd).symm⟩
            · rw [if_neg ha] at hkd; cases hkd
          refine ⟨.agg l'.toArray, ?_, VRel.agg_list (by omega) (fun j v hj => by obtain ⟨v', q1, q2, _⟩ := h4 j v hj; exact ⟨v', q1, q2⟩)⟩
          simp only [Instr.loadAt, Instr.sureAddr, pure_bind, loadVar, Sem.run_bind, run_isAgg hu, Result.andThen_ok, hag.1, if_true]
          rw [run_sizeOf (n := n) (by simp [szT, hi, hag.2])]
          simp only [Result.andThen_ok, Sem.run_bind]
          rw [← h2, run_loadCells_at (a := place m a) rfl h3]
          rfl
      | none =>
        simp only at hv
        have hag : aggD d = false := by
          by_cases ha : aggD d = true
          · rw [if_pos ha] at hkd; cases hkd
          · simpa using ha
        obtain ⟨v', q1, q2, q3⟩ := r.getC hv
        refine ⟨v', ?_, q2⟩
        simp only [Instr.loadAt, Instr.sureAddr, pure_bind, loadVar, Sem.run_bind, run_isAgg hu, Result.andThen_ok, hag, Bool.false_eq_true, if_false]
        rw [run_load]
        simp only [place, q1]
  · simp at hv

def stv (P : Program) (t : TypeId) (h : Heap) (x y : Value) : Option Heap :=
  match x, vcs y with
  | .pointer (some a), some l => if szT P t = some l.length then Am.setCs h a.block a.off l else none
  | _, _ => none

theorem run_stv (r : WRel G m h w) {t : TypeId} {x x' y y' : Value} {h' : Heap} (hx : VRel h.length m x x') (hy : VRel h.length m y y')
    (hv : stv P t h x y = some h') : ∃ w', (Instr.storeAt t x' y').run P w = .ok () w' ∧ WRel G m h' w' ∧ Grow m h w m h' w' ∧ h'.length = h.length := by
  unfold stv at hv
  split at hv
  · rename_i x a l hl
    split at hv
    · rename_i hsz
      obtain ⟨hs, hlt, rfl⟩ := inv_ptr hx
      obtain ⟨hn, hp⟩ := hy.vcs hl
      unfold Am.setCs at hv
      cases hb : h[a.block]? with
      | none => rw [hb] at hv; simp at hv
      | some b =>
        rw [hb] at hv
        simp only at hv
        split at hv
        · rename_i hk
          obtain ⟨hk, hfit⟩ := hk
          cases hv
          obtain ⟨re, rl, rr⟩ := r.room a.block b hb hk
          have hlen : l.length = y'.cells.toList.length := by simp [hn]
          refine ⟨Am.setMany w (m a.block).b ((m a.block).o + a.off) y'.cells.toList, ?_, ?_, Grow.setMany r hb hk _ _ _ (.inl rfl), by simp⟩
          · simp only [Instr.storeAt, Instr.sureAddr, pure_bind, storeVar, Sem.run_bind]
            rw [run_sizeOf hsz]
            simp only [Result.andThen_ok, hn, ne_eq, not_true_eq_false, if_false]
            have := run_storeCells (P := P) y'.cells.toList w (place m a) 0 rfl
              (fun u hu => by
                obtain ⟨j, hj, he⟩ := List.mem_iff_getElem.1 hu
                have hj' : j < l.length := by omega
                obtain ⟨u', q1, q2, q3⟩ := hp j l[j] (List.getElem?_eq_getElem hj')
                have hyj : y'.cells[j]? = some u := by
                  rw [← Array.getElem?_toList, List.getElem?_eq_getElem hj, he]
                rw [hyj] at q1
                cases q1
                rw [q2.flat_eq]; exact q3)
              (fun j hj => by
                have := rr (a.off + j) (by omega)
                simp only [place, Nat.add_zero]
                rw [Nat.add_assoc]; exact this)
            have h0 : (place m a).off + 0 = (m a.block).o + a.off := rfl
            rw [h0] at this
            exact this
          · exact r.setMany hb hk a.off l y'.cells.toList hlen
              (fun j v hj => by
                obtain ⟨u', q1, q2, q3⟩ := hp j v hj
                exact ⟨u', by rw [Array.getElem?_toList]; exact q1, q2, q3⟩)
              (by omega) _ (by rw [length_splice]; exact rl)
              (fun j v hj ho => by rw [splice_out _ _ _ _ ho] at hj; exact hj)
              (fun j v hj he => by rw [splice_in _ _ _ _ hfit hj] at he; exact he)
        · simp at hv
    · simp at hv
  · simp at hv

/-- A new block, and its address. -/
def newB (h : Heap) (e : Nat) (cs : List Value) : Value × Heap := (.pointer (some ⟨h.length, 0, none⟩), h ++ [⟨2, e, cs⟩])

theorem new_does (r : WRel G m h w) (t : TypeId) (e : Nat) (cs : List Value) (cs' : Array Value) (hl : cs.length ≤ cs'.size)
    (hv : ∀ (j : Nat) (v : Value), cs[j]? = some v → ∃ v', cs'[j]? = some v' ∧ VRel h.length m v v' ∧ flat v = true) :
    ∃ m', VRel (h ++ [(⟨2, e, cs⟩ : Blk)]).length m' (.pointer (some ⟨h.length, 0, none⟩)) (.pointer (some ⟨w.heap.size, 0, none⟩)) ∧
      WRel G m' (h ++ [⟨2, e, cs⟩]) (w.alloc (.cells cs' t)) ∧ Grow m h w m' (h ++ [⟨2, e, cs⟩]) (w.alloc (.cells cs' t)) ∧ m' h.length = ⟨w.heap.size, 0, e, cs'.size⟩ := by
  refine ⟨m.put h.length ⟨w.heap.size, 0, e, cs'.size⟩, ?_, r.alloc t e cs cs' hl hv, Grow.alloc _ _ _ _ _ _ rfl, Map.put_same _ _ _⟩
  have := VRel.ptr (n := (h ++ [(⟨2, e, cs⟩ : Blk)]).length) (m := m.put h.length ⟨w.heap.size, 0, e, cs'.size⟩) ⟨h.length, 0, none⟩ rfl (by simp)
  unfold place at this
  rw [Map.put_same] at this
  exact this

theorem run_alloc_zc (r : WRel G m h w) {t : TypeId} {z : List Value} (hz : zcT P t = some z) :
    ∃ v' w' m', (Instr.alloc t true (.tuple #[])).run P w = .ok v' w' ∧ VRel (newB h 1 z).2.length m' (newB h 1 z).1 v' ∧ WRel G m' (newB h 1 z).2 w' ∧
      Grow m h w m' (newB h 1 z).2 w' := by
  obtain ⟨i, zv, hi, hzz, hzl, hsz, hall⟩ := zcT_spec hz
  subst hzl
  obtain ⟨m', q1, q2, q3, _⟩ := new_does r t 1 zv.cells.toList zv.cells (by simp) (fun j v hj => by
    rw [Array.getElem?_toList] at hj
    refine ⟨v, hj, ?_⟩
    have hm : v ∈ zv.cells.toList := by
      obtain ⟨h1, h2⟩ := Array.getElem?_eq_some_iff.1 hj
      rw [← h2]; simp
    have := hall v hm
    exact ⟨VRel.const _ _ this.2, this.1⟩)
  refine ⟨_, _, m', ?_, q1, q2, q3⟩
  simp only [Instr.alloc, zeroValue, Sem.run_bind, run_typeInfo hi, Result.andThen_ok, hzz, Sem.run_pure, newVar, newRow, run_newObj]
  rfl

theorem run_box (r : WRel G m h w) {t : TypeId} {x x' : Value} {l : List Value} (hx : VRel h.length m x x') (hl : vcs x = some l) :
    ∃ v' w' m', (Instr.box t x').run P w = .ok v' w' ∧ VRel (newB h 1 l).2.length m' (newB h 1 l).1 v' ∧ WRel G m' (newB h 1 l).2 w' ∧
      Grow m h w m' (newB h 1 l).2 w' := by
  obtain ⟨hn, hp⟩ := hx.vcs hl
  obtain ⟨m', q1, q2, q3, _⟩ := new_does r t 1 l x'.cells (by omega) hp
  refine ⟨_, _, m', ?_, q1, q2, q3⟩
  simp only [Instr.box, newVar, newRow, Sem.run_bind, run_newObj, Result.andThen_ok, Sem.run_pure]
  rfl

end
end Go.Proofs.Ytiddnhhjlipebaa.Am
