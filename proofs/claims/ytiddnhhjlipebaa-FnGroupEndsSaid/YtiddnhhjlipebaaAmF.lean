/- Makes, literals, cuts and appends over the abstract memory. Conditions: none. -/
import Derived.Test.YtiddnhhjlipebaaAmE
namespace Go.Proofs.Ytiddnhhjlipebaa.Am
open Go
set_option linter.unusedVariables false
set_option linter.unusedSimpArgs false

/-- Cells and their likes. -/
def LR (n : Nat) (m : Map) (l l' : List Value) : Prop :=
  l.length = l'.length ∧ ∀ (j : Nat) (v : Value), l[j]? = some v → ∃ v', l'[j]? = some v' ∧ VRel n m v v' ∧ flat v = true

theorem LR.set {n : Nat} {m : Map} {l l' : List Value} (hl : LR n m l l') {v v' : Value} (hv : VRel n m v v') (hf : flat v = true) (off : Nat) :
    LR n m (l.set off v) (l'.set off v') := by
  refine ⟨by simp [hl.1], fun j u hj => ?_⟩
  by_cases ho : off = j
  · subst ho
    have hlt : off < l.length := by
      obtain ⟨h1, _⟩ := List.getElem?_eq_some_iff.1 hj; simpa using h1
    rw [List.getElem?_set_self hlt] at hj
    cases hj
    exact ⟨v', List.getElem?_set_self (by rw [← hl.1]; exact hlt), hv, hf⟩
  · rw [List.getElem?_set_ne ho] at hj ⊢
    exact hl.2 j u hj

theorem LR.splice {n : Nat} {m : Map} (vs : List Value) : ∀ {l l' vs' : List Value} (hl : LR n m l l') (hv : LR n m vs vs') (off : Nat),
    LR n m (Am.splice l off vs) (Am.splice l' off vs') := by
  induction vs with
  | nil =>
    intro l l' vs' hl hv off
    have : vs' = [] := by have := hv.1; simp at this; exact List.eq_nil_of_length_eq_zero (by simpa using this.symm)
    subst this; exact hl
  | cons v vs ih =>
    intro l l' vs' hl hv off
    cases vs' with
    | nil => have := hv.1; simp at this
    | cons v' vs' =>
      obtain ⟨u', h1, h2, h3⟩ := hv.2 0 v rfl
      simp at h1; subst h1
      simp only [Am.splice]
      refine ih (hl.set h2 h3 off) ⟨by have := hv.1; simpa using this, fun j u hj => ?_⟩ (off + 1)
      have := hv.2 (j + 1) u (by simpa using hj)
      simpa using this

theorem LR.append {n : Nat} {m : Map} {l l' k k' : List Value} (hl : LR n m l l') (hk : LR n m k k') : LR n m (l ++ k) (l' ++ k') := by
  refine ⟨by simp [hl.1, hk.1], fun j u hj => ?_⟩
  by_cases h : j < l.length
  · rw [List.getElem?_append_left h] at hj
    rw [List.getElem?_append_left (by rw [← hl.1]; exact h)]
    exact hl.2 j u hj
  · rw [List.getElem?_append_right (by omega)] at hj
    rw [List.getElem?_append_right (by rw [← hl.1]; omega), ← hl.1]
    exact hk.2 _ u hj

theorem LR.const {n : Nat} {m : Map} {l : List Value} (h : ∀ v, v ∈ l → flat v = true ∧ constOk v = true) : LR n m l l :=
  ⟨rfl, fun j v hj => by
    have hm : v ∈ l := List.mem_of_getElem? hj
    exact ⟨v, hj, VRel.const _ _ (h v hm).2, (h v hm).1⟩⟩

/-! ### zero cells -/

def zeros (z : List Value) (c : Nat) : List Value := (List.replicate c z).flatten

theorem length_zeros (z : List Value) (c : Nat) : (zeros z c).length = c * z.length := by
  unfold zeros; induction c with
  | zero => simp
  | succ c ih => rw [List.replicate_succ, List.flatten_cons, List.length_append, ih, Nat.succ_mul, Nat.add_comm]

theorem mem_zeros {z : List Value} {c : Nat} {v : Value} (h : v ∈ zeros z c) : v ∈ z := by
  unfold zeros at h
  obtain ⟨l, h1, h2⟩ := List.mem_flatten.1 h
  rw [List.mem_replicate] at h1; rw [← h1.2]; exact h2

theorem get_zeros (z : List Value) (c : Nat) : ∀ j, j < c * z.length → (zeros z c)[j]? = z[j % z.length]? := by
  unfold zeros
  induction c with
  | zero => intro j h; simp at h
  | succ c ih =>
    intro j h
    rw [List.replicate_succ, List.flatten_cons]
    by_cases hj : j < z.length
    · rw [List.getElem?_append_left hj, Nat.mod_eq_of_lt hj]
    · rw [List.getElem?_append_right (by omega), ih _ (by rw [Nat.succ_mul] at h; omega)]
      rw [Nat.mod_eq_sub_mod (a := j) (by omega)]

theorem zeros_one (v : Value) (c : Nat) : zeros [v] c = List.replicate c v := by
  unfold zeros; induction c with
  | zero => rfl
  | succ c ih => rw [List.replicate_succ, List.flatten_cons, ih]; rfl

theorem madeCells_list (z : Array Value) (c : Nat) : (madeCells z (c * z.size)).toList = zeros z.toList c := by
  apply List.ext_getElem?
  intro j
  by_cases hj : j < c * z.size
  · rw [get_zeros _ _ _ (by simpa using hj)]
    have hz : 0 < z.size := by rcases Nat.eq_zero_or_pos z.size with h | h; · rw [h] at hj; simp at hj
                               · exact h
    have hm : j % z.size < z.size := Nat.mod_lt _ hz
    simp only [madeCells, Array.toList_map, Array.toList_range, List.getElem?_map, Array.length_toList]
    rw [List.getElem?_range hj, Option.map_some, Array.getElem?_toList, Array.getElem?_eq_getElem hm, getElem!_pos z _ hm]
  · rw [List.getElem?_eq_none (by simp [madeCells]; omega), List.getElem?_eq_none (by rw [length_zeros]; simp; omega)]

section
variable {P : Program} {G : Glo} {m : Map} {h : Heap} {w : World}

theorem slT_spec {t e : TypeId} (hs : slT P t = some e) : P.underlying t = some (.slice e) := by
  unfold slT at hs
  split at hs
  · rename_i hu; cases hs; exact hu
  · cases hs

def newS (h : Heap) (sp : Option Nat) (e l c : Nat) (cs : List Value) : Value × Heap := (.slice (some ⟨h.length, 0, sp⟩) l c, h ++ [⟨2, e, cs⟩])

def mkS (P : Program) (t : TypeId) (h : Heap) (l c : Value) : Option (Value × Heap) :=
  match slT P t, l, c with
  | some e, .int _ l, .int _ c => match zcT P e, byT P e with
    | some z, some by' => if 0 ≤ l ∧ l ≤ c ∧ (by' : Int) * c ≤ 281474976710656 ∧ c ≤ 9223372036854775807 then
        some (newS h none z.length l.toNat c.toNat (zeros z c.toNat)) else none
    | _, _ => none
  | _, _, _ => none

theorem vrel_new {b : Nat} {e : Nat} {cs : List Value} {m' : Map} {p : Pl} (hp : m' h.length = p) (ho : p.o = 0) (l c : Nat) :
    VRel (h ++ [(⟨2, e, cs⟩ : Blk)]).length m' (.slice (some ⟨h.length, 0, none⟩) l c) (.slice (some ⟨p.b, 0, none⟩) l c) := by
  have := VRel.slice (n := (h ++ [(⟨2, e, cs⟩ : Blk)]).length) (m := m') ⟨h.length, 0, none⟩ l c rfl (by simp)
  unfold place at this
  simp only [hp, ho] at this
  exact this

theorem run_mkS (r : WRel G m h w) {t : TypeId} {l l' c c' v : Value} {h' : Heap} (hl : VRel h.length m l l') (hc : VRel h.length m c c')
    (hv : mkS P t h l c = some (v, h')) :
    ∃ v' w' m', (Instr.makeSlice t l' c').run P w = .ok v' w' ∧ VRel h'.length m' v v' ∧ WRel G m' h' w' ∧ Grow m h w m' h' w' := by
  unfold mkS at hv
  split at hv
  · rename_i e kl l kc c hs
    have hu := slT_spec hs
    rw [inv_int hl, inv_int hc]
    split at hv
    · rename_i z by' hz hb
      split at hv
      · rename_i hk
        obtain ⟨k1, k2, k3, k4⟩ := hk
        cases hv
        obtain ⟨i, zv, hi, hzz, hzl, hsz, hall⟩ := zcT_spec hz
        have hby : i.bytes = by' := by unfold byT at hb; rw [hi] at hb; simpa using hb
        subst hzl
        have hrun := run_make (P := P) w t e i zv hu hi hzz kl kc l c k1 k2 (by rw [hby]; exact k3) k4
        obtain ⟨m', q1, q2, q3, q4⟩ := new_does r e zv.cells.toList.length (zeros zv.cells.toList c.toNat) (madeCells zv.cells (c.toNat * i.size))
          (by rw [length_zeros, size_madeCells]; simp [hsz])
          (fun j v hj => by
            rw [← hsz, ← Array.getElem?_toList, madeCells_list]
            have hm := mem_zeros (List.mem_of_getElem? hj)
            exact ⟨v, hj, VRel.const _ _ (hall v hm).2, (hall v hm).1⟩)
        exact ⟨_, _, m', hrun, vrel_new (b := 0) q4 rfl _ _, q2, q3⟩
      · cases hv
    · cases hv
  · cases hv

/-! ### literals -/

def fillL (place : Nat → Option (Nat × Nat)) (cells : List Value) : List (Nat × Value) → Option (List Value)
  | [] => some cells
  | (i, v) :: rest =>
    match place i, vcs v with
    | some (off, size), some l => if l.length = size ∧ off + l.length ≤ cells.length then fillL place (splice cells off l) rest else none
    | _, _ => none

theorem foldl_splice (off : Nat) (l : List Value) : ∀ (k : Nat) (cells : Array Value),
    ((l.zipIdx k).foldl (fun cs (p : Value × Nat) => cs.setIfInBounds (off + p.2) p.1) cells).toList = splice cells.toList (off + k) l := by
  induction l with
  | nil => intro k cells; rfl
  | cons v l ih =>
    intro k cells
    simp only [List.zipIdx_cons, List.foldl_cons, splice]
    rw [ih]
    simp only [Array.toList_setIfInBounds]
    rw [Nat.add_assoc]

theorem fill_rel {n : Nat} {place' : Nat → Option (Nat × Nat)} (parts : List (Nat × Value)) :
    ∀ {cells : List Value} {cells' : Array Value} {parts' : List (Nat × Value)} {out : List Value}, LR n m cells cells'.toList →
    parts.length = parts'.length → (∀ (j : Nat) (i : Nat) (v : Value), parts[j]? = some (i, v) → ∃ v', parts'[j]? = some (i, v') ∧ VRel n m v v') →
    fillL place' cells parts = some out → ∃ out', Instr.fill place' cells' parts' = some out' ∧ LR n m out out'.toList := by
  induction parts with
  | nil =>
    intro cells cells' parts' out hc hl hp hf
    have : parts' = [] := by simp at hl; exact List.eq_nil_of_length_eq_zero hl.symm
    subst this
    simp only [fillL] at hf
    cases hf
    exact ⟨cells', rfl, hc⟩
  | cons p rest ih =>
    intro cells cells' parts' out hc hl hp hf
    obtain ⟨i, v⟩ := p
    cases parts' with
    | nil => simp at hl
    | cons p' rest' =>
      obtain ⟨v', h1, h2⟩ := hp 0 i v rfl
      simp at h1; subst h1
      simp only [fillL] at hf
      simp only [Instr.fill]
      cases hpl : place' i with
      | none => rw [hpl] at hf; simp at hf
      | some q =>
        obtain ⟨off, size⟩ := q
        rw [hpl] at hf
        cases hvc : vcs v with
        | none => rw [hvc] at hf; simp at hf
        | some l =>
          rw [hvc] at hf
          simp only at hf
          split at hf
          · rename_i hk
            obtain ⟨k1, k2⟩ := hk
            obtain ⟨g1, g2⟩ := h2.vcs hvc
            have hlr : LR n m l v'.cells.toList := ⟨by simp [g1], fun j u hj => by
              obtain ⟨u', q1, q2, q3⟩ := g2 j u hj
              exact ⟨u', by rw [Array.getElem?_toList]; exact q1, q2, q3⟩⟩
            have hsz : cells.length = cells'.size := by have := hc.1; simpa using this
            have hcond : (decide (v'.cells.size ≠ size) || decide (off + v'.cells.size > cells'.size)) = false := by
              simp only [Bool.or_eq_false_iff, decide_eq_false_iff_not]; omega
            simp only [hcond, Bool.false_eq_true, if_false]
            have hfold : (v'.cells.zipIdx.foldl (fun cs (p : Value × Nat) => cs.setIfInBounds (off + p.2) p.1) cells').toList = splice cells'.toList off v'.cells.toList := by
              rw [← Array.foldl_toList, Array.toList_zipIdx, foldl_splice]; rfl
            refine ih (cells' := v'.cells.zipIdx.foldl (fun cs (p : Value × Nat) => cs.setIfInBounds (off + p.2) p.1) cells') (parts' := rest') ?_
              (by simpa using hl) (fun j i2 u hj => by have := hp (j + 1) i2 u (by simpa using hj); simpa using this) hf
            rw [hfold]
            exact hc.splice l hlr off
          · cases hf

def bsl (P : Program) (t : TypeId) (h : Heap) (len : Nat) (parts : List (Nat × Value)) : Option (Value × Heap) :=
  match slT P t with
  | some e => match zcT P e with
    | some z => if len * z.length ≤ 16777216 then
        (fillL (fun i => some (i * z.length, z.length)) (zeros z len) parts).map fun out => newS h none z.length len len out
      else none
    | none => none
  | none => none

theorem map_range_zero (z : Array Value) (len : Nat) (zero : Array Value) (hz : len * z.size = 0 ∨ zero = z) :
    ((Array.range (len * z.size)).map (zero[· % zero.size]!)).toList = zeros z.toList len := by
  rcases hz with hz | hz
  · rw [hz]
    have : (zeros z.toList len) = [] := List.eq_nil_of_length_eq_zero (by rw [length_zeros]; simpa using hz)
    rw [this]; simp
  · subst hz
    exact madeCells_list zero len

theorem run_bsl (r : WRel G m h w) {t : TypeId} {len : Nat} {parts parts' : Array (Nat × Value)} {v : Value} {h' : Heap}
    (hl : parts.toList.length = parts'.toList.length)
    (hp : ∀ (j : Nat) (i : Nat) (v : Value), parts.toList[j]? = some (i, v) → ∃ v', parts'.toList[j]? = some (i, v') ∧ VRel h.length m v v')
    (hv : bsl P t h len parts.toList = some (v, h')) :
    ∃ v' w' m', (Instr.buildSlice t len parts').run P w = .ok v' w' ∧ VRel h'.length m' v v' ∧ WRel G m' h' w' ∧ Grow m h w m' h' w' := by
  unfold bsl at hv
  cases hs : slT P t with
  | none => rw [hs] at hv; simp at hv
  | some e =>
    rw [hs] at hv
    simp only at hv
    have hu := slT_spec hs
    cases hz : zcT P e with
    | none => rw [hz] at hv; simp at hv
    | some z =>
      rw [hz] at hv
      simp only at hv
      split at hv
      · rename_i hlim
        obtain ⟨i, zv, hi, hzz, hzl, hsz, hall⟩ := zcT_spec hz
        subst hzl
        cases hf : fillL (fun i => some (i * zv.cells.toList.length, zv.cells.toList.length)) (zeros zv.cells.toList len) parts.toList with
        | none => rw [hf] at hv; simp at hv
        | some out =>
          rw [hf] at hv
          simp only [Option.map_some] at hv
          cases hv
          have hsize : (sizeOf e).run P w = .ok i.size w := run_sizeOf (by simp [szT, hi]) w
          simp only [Array.length_toList] at hlim hf
          have hlim' : ¬ (len * i.size > 2 ^ 24) := by rw [← hsz]; omega
          obtain ⟨zero, hz2, hz3⟩ : ∃ zero : Array Value, (len * zv.cells.size = 0 ∨ zero = zv.cells) ∧
              ((len * i.size = 0 ∧ zero = #[]) ∨ (len * i.size ≠ 0 ∧ zero = zv.cells)) := by
            by_cases h0 : len * i.size = 0
            · exact ⟨#[], .inl (by rw [hsz]; exact h0), .inl ⟨h0, rfl⟩⟩
            · exact ⟨zv.cells, .inr rfl, .inr ⟨h0, rfl⟩⟩
          have hlr : LR h.length m (zeros zv.cells.toList len) ((Array.range (len * i.size)).map (zero[· % zero.size]!)).toList := by
            rw [← hsz, map_range_zero zv.cells len zero hz2]
            exact LR.const fun v hv => hall v (mem_zeros hv)
          obtain ⟨out', h1, h2⟩ := fill_rel (place' := fun i => some (i * zv.cells.size, zv.cells.size)) parts.toList hlr hl hp hf
          obtain ⟨m', q1, q2, q3, q4⟩ := new_does r e zv.cells.toList.length out out' (by rw [h2.1]; simp)
            (fun j v hj => by have := h2.2 j v hj; rw [Array.getElem?_toList] at this; exact this)
          refine ⟨_, _, m', ?_, vrel_new (b := 0) q4 rfl _ _, q2, q3⟩
          rw [← hsz] at h1 hlim'
          simp only [Instr.buildSlice, Sem.run_bind, run_underlying hu, Result.andThen_ok, hsize]
          rw [← hsz]
          simp only [hlim', if_false, Sem.run_bind, Sem.run_pure, Result.andThen_ok]
          rcases hz3 with ⟨g1, g2⟩ | ⟨g1, g2⟩
          · rw [← hsz] at g1
            subst g2
            simp only [g1, if_true, pure_bind] at h1 ⊢
            rw [h1]
            rfl
          · rw [← hsz] at g1
            subst g2
            simp only [g1, if_false, Sem.run_bind, zeroValue, run_typeInfo hi, hzz, Result.andThen_ok, Sem.run_pure]
            rw [h1]
            rfl
      · cases hv

def plT (P : Program) (t : TypeId) : Option (Array (Nat × Nat)) :=
  match P.underlying t with
  | some (.struct fs) => pureRun P (fs.mapM fun f => do pure (f.offset, ← sizeOf f.type))
  | _ => none

def bld (P : Program) (t : TypeId) (parts : List (Nat × Value)) : Option Value :=
  match zcT P t with
  | none => none
  | some z => match plT P t with
    | some pl => (fillL (fun i => pl[i]?) z parts).map fun out => .agg out.toArray
    | none => match arT P t with
      | some (_, e) => match szT P e with
        | some size => (fillL (fun i => some (i * size, size)) z parts).map fun out => .agg out.toArray
        | none => none
      | none => none

theorem LR.vagg {n : Nat} {out : List Value} {out' : Array Value} (h : LR n m out out'.toList) : VRel n m (.agg out.toArray) (.agg out') := by
  refine .agg _ _ (by have := h.1; simpa using this) fun i h1 h2 => ?_
  simp only [List.size_toArray] at h1
  obtain ⟨v', q1, q2, _⟩ := h.2 i out[i] (List.getElem?_eq_getElem h1)
  rw [Array.getElem?_toList, Array.getElem?_eq_getElem h2] at q1
  simp only [List.getElem_toArray]
  rw [Option.some.inj q1]; exact q2

theorem run_bld (r : WRel G m h w) {t : TypeId} {parts parts' : Array (Nat × Value)} {v : Value}
    (hl : parts.toList.length = parts'.toList.length)
    (hp : ∀ (j : Nat) (i : Nat) (v : Value), parts.toList[j]? = some (i, v) → ∃ v', parts'.toList[j]? = some (i, v') ∧ VRel h.length m v v')
    (hv : bld P t parts.toList = some v) : ∃ v', (Instr.build t parts').run P w = .ok v' w ∧ VRel h.length m v v' := by
  unfold bld at hv
  cases hz : zcT P t with
  | none => rw [hz] at hv; simp at hv
  | some z =>
    rw [hz] at hv
    simp only at hv
    obtain ⟨i, zv, hi, hzz, hzl, hsz, hall⟩ := zcT_spec hz
    have hzrun : (zeroValue t).run P w = .ok zv w := by simp [zeroValue, run_typeInfo hi, hzz]
    have hlr : LR h.length m z zv.cells.toList := by rw [hzl]; exact LR.const hall
    cases hpl : plT P t with
    | some pl =>
      rw [hpl] at hv
      simp only at hv
      cases hf : fillL (fun i => pl[i]?) z parts.toList with
      | none => rw [hf] at hv; simp at hv
      | some out =>
        rw [hf] at hv; simp only [Option.map_some] at hv; cases hv
        obtain ⟨out', h1, h2⟩ := fill_rel (place' := fun i => pl[i]?) parts.toList hlr hl hp hf
        refine ⟨.agg out', ?_, h2.vagg⟩
        unfold plT at hpl
        split at hpl
        · rename_i fs hu
          have hm := pureRun_sound _ hpl w
          simp only [Instr.build, Sem.run_bind, hzrun, Result.andThen_ok, run_underlying hu, hm, h1, Sem.run_pure]
        · cases hpl
    | none =>
      rw [hpl] at hv
      simp only at hv
      cases ha : arT P t with
      | none => rw [ha] at hv; simp at hv
      | some q =>
        obtain ⟨n, e⟩ := q
        rw [ha] at hv
        simp only at hv
        cases hs : szT P e with
        | none => rw [hs] at hv; simp at hv
        | some size =>
          rw [hs] at hv
          simp only at hv
          cases hf : fillL (fun i => some (i * size, size)) z parts.toList with
          | none => rw [hf] at hv; simp at hv
          | some out =>
            rw [hf] at hv; simp only [Option.map_some] at hv; cases hv
            obtain ⟨out', h1, h2⟩ := fill_rel (place' := fun i => some (i * size, size)) parts.toList hlr hl hp hf
            refine ⟨.agg out', ?_, h2.vagg⟩
            unfold arT at ha
            split at ha
            · rename_i hu
              cases ha
              simp only [Instr.build, Sem.run_bind, hzrun, Result.andThen_ok, run_underlying hu, run_sizeOf hs, h1, Sem.run_pure]
            · cases ha

end
end Go.Proofs.Ytiddnhhjlipebaa.Am
