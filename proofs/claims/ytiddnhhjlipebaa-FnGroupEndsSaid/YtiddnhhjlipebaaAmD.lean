/- The operations that call nothing, told over the abstract memory. Conditions: none. -/
import Derived.Test.YtiddnhhjlipebaaAmC
import Derived.Laws.StructEq
import Derived.Laws.AppendOwn
import Derived.Laws.MakeOwn
import Derived.Laws.RangeString
import Derived.Laws.Slices
namespace Go.Proofs.Ytiddnhhjlipebaa.Am
open Go
set_option linter.unusedVariables false
set_option linter.unusedSimpArgs false

/-! ### values without an address -/

def af1 : Value → Bool
  | .bool _ | .int _ _ | .string _ | .nilFunc | .nilIface | .pointer none | .slice none _ _ => true
  | _ => false

def af : Value → Bool
  | .agg cs => cs.all af1
  | v => af1 v

theorem VRel.eq_af1 {n : Nat} {m : Map} {x v : Value} (h : VRel n m x v) (ha : af1 x = true) : v = x := by
  cases h <;> first | rfl | (simp [af1] at ha)

theorem VRel.eq_af {n : Nat} {m : Map} {x v : Value} (h : VRel n m x v) (ha : af x = true) : v = x := by
  cases h with
  | agg cs cs' hs hp =>
    congr 1
    apply Array.ext hs.symm
    intro i h1 h2
    simp only [af, Array.all_eq_true] at ha
    exact (hp i h2 h1).eq_af1 (ha i h2)
  | _ => first | rfl | (simp [af, af1] at ha)

/-! ### what a computation without memory comes to -/

def pureRun {α : Type} (P : Program) : Sem α → Option α
  | .pure a => some a
  | .program k => pureRun P (k P)
  | .mark _ k => pureRun P k
  | _ => none

theorem pureRun_sound {α : Type} {P : Program} (s : Sem α) : ∀ {v : α}, pureRun P s = some v → ∀ w, s.run P w = .ok v w := by
  induction s with
  | pure a => intro v h w; simp only [pureRun] at h; cases h; rfl
  | program k ih => intro v h w; exact ih P h w
  | mark m k ih => intro v h w; exact ih h w
  | _ => intro v h w; simp [pureRun] at h

theorem pureRun_bind' {α β : Type} {P : Program} (s : Sem α) (f : α → Sem β) : pureRun P (s.bind f) = (pureRun P s).bind fun a => pureRun P (f a) := by
  induction s with
  | pure a => rfl
  | program k ih => exact ih P
  | mark m k ih => exact ih
  | _ => rfl

theorem pureRun_bind {α β : Type} {P : Program} (s : Sem α) (f : α → Sem β) : pureRun P (s >>= f) = (pureRun P s).bind fun a => pureRun P (f a) := pureRun_bind' s f
theorem pureRun_pure {α : Type} {P : Program} (a : α) : pureRun P (Pure.pure a : Sem α) = some a := rfl
theorem pureRun_ite {α : Type} {P : Program} (c : Prop) [Decidable c] (x y : Sem α) : pureRun P (if c then x else y) = if c then pureRun P x else pureRun P y := by split <;> rfl

/-! ### a type's facts -/

def aggD : TypeDesc → Bool
  | .struct _ | .array _ _ => true
  | _ => false

def ldK (P : Program) (t : TypeId) : Option (Option Nat) :=
  match P.underlying t, P.info? t with
  | some d, some i => some (if aggD d = true then some i.size else none)
  | _, _ => none

def szT (P : Program) (t : TypeId) : Option Nat := (P.info? t).map (·.size)
def byT (P : Program) (t : TypeId) : Option Nat := (P.info? t).map (·.bytes)

def cellOk (v : Value) : Bool := flat v && constOk v

/-- The zero value's cells of a type, where they are plain and as many as the type has. -/
def zcT (P : Program) (t : TypeId) : Option (List Value) :=
  (P.info? t).bind fun i => i.zero.bind fun z =>
    if z.cells.size = i.size ∧ z.cells.toList.all cellOk = true then some z.cells.toList else none

theorem zcT_spec {P : Program} {t : TypeId} {l : List Value} (h : zcT P t = some l) :
    ∃ i z, P.info? t = some i ∧ i.zero = some z ∧ z.cells.toList = l ∧ z.cells.size = i.size ∧ ∀ v, v ∈ l → flat v = true ∧ constOk v = true := by
  unfold zcT at h
  cases hi : P.info? t with
  | none => rw [hi] at h; simp at h
  | some i =>
    rw [hi] at h
    simp only [Option.bind_some] at h
    cases hz : i.zero with
    | none => rw [hz] at h; simp at h
    | some z =>
      rw [hz] at h
      simp only [Option.bind_some] at h
      split at h
      · rename_i hk
        cases h
        refine ⟨i, z, rfl, hz, rfl, hk.1, fun v hv => ?_⟩
        have := List.all_eq_true.1 hk.2 v hv
        simpa [cellOk] using this
      · simp at h

def slT (P : Program) (t : TypeId) : Option TypeId := match P.underlying t with | some (.slice e) => some e | _ => none

def fldT (P : Program) (t : TypeId) (f : Nat) : Option (Nat × TypeId) :=
  match P.underlying t with
  | some (.struct fs) => (fs[f]?).map fun x => (x.offset, x.type)
  | _ => none

def arT (P : Program) (t : TypeId) : Option (Nat × TypeId) := match P.underlying t with | some (.array n e) => some (n, e) | _ => none

theorem run_typeInfo {P : Program} {t : TypeId} {i : TypeInfo} (h : P.info? t = some i) (w : World) : (typeInfo t).run P w = .ok i w := by
  simp [typeInfo, h]

theorem run_sizeOf {P : Program} {t : TypeId} {n : Nat} (h : szT P t = some n) (w : World) : (sizeOf t).run P w = .ok n w := by
  unfold szT at h
  cases hi : P.info? t with
  | none => rw [hi] at h; simp at h
  | some i => rw [hi] at h; simp at h; subst h; simp [sizeOf, run_typeInfo hi]

/-! ### cells -/

def getC (h : Heap) (id off : Nat) : Option Value :=
  match h[id]? with
  | some b => if b.k = 1 ∨ b.k = 2 then b.cs[off]? else none
  | none => none

def loadCs (h : Heap) (id off n : Nat) : Option (List Value) :=
  match h[id]? with
  | some b => if (b.k = 1 ∨ b.k = 2) ∧ off + n ≤ b.cs.length then some ((b.cs.drop off).take n) else none
  | none => none

def splice (cs : List Value) (off : Nat) : List Value → List Value
  | [] => cs
  | v :: vs => splice (cs.set off v) (off + 1) vs

theorem length_splice (vs : List Value) : ∀ (cs : List Value) (off : Nat), (splice cs off vs).length = cs.length := by
  induction vs with
  | nil => intro cs off; rfl
  | cons v vs ih => intro cs off; simp only [splice]; rw [ih]; simp

theorem splice_out (vs : List Value) : ∀ (cs : List Value) (off j : Nat), (j < off ∨ off + vs.length ≤ j) → (splice cs off vs)[j]? = cs[j]? := by
  induction vs with
  | nil => intro cs off j _; rfl
  | cons v vs ih =>
    intro cs off j h
    simp only [List.length_cons] at h
    simp only [splice]
    rw [ih _ _ _ (by omega), List.getElem?_set_ne (by omega)]

theorem splice_in (vs : List Value) : ∀ (cs : List Value) (off j : Nat), off + vs.length ≤ cs.length → j < vs.length → (splice cs off vs)[off + j]? = vs[j]? := by
  induction vs with
  | nil => intro cs off j _ h; exact absurd h (by simp)
  | cons v vs ih =>
    intro cs off j hl h
    simp only [List.length_cons] at hl h
    simp only [splice]
    rcases j with _ | j
    · rw [splice_out _ _ _ _ (by left; omega)]
      simp only [Nat.add_zero, List.getElem?_cons_zero]
      exact List.getElem?_set_self (by omega)
    · have := ih (cs.set off v) (off + 1) j (by simp; omega) (by omega)
      rw [show off + (j + 1) = off + 1 + j from by omega, this]; rfl

def setCs (h : Heap) (id off : Nat) (vs : List Value) : Option Heap :=
  match h[id]? with
  | some b => if b.k = 2 ∧ off + vs.length ≤ b.cs.length then some (h.set id ⟨2, b.e, splice b.cs off vs⟩) else none
  | none => none

/-- A value's cells, each of them one. -/
def vcs : Value → Option (List Value)
  | .agg cs => if cs.toList.all flat = true then some cs.toList else none
  | .tuple _ => none
  | v => some [v]

theorem VRel.vcs {n : Nat} {m : Map} {x v : Value} (h : VRel n m x v) {l : List Value} (hl : vcs x = some l) : v.cells.size = l.length ∧
    ∀ (j : Nat) (u : Value), l[j]? = some u → ∃ u', v.cells[j]? = some u' ∧ VRel n m u u' ∧ flat u = true := by
  have one : (∀ cs, x ≠ .agg cs) → (∀ cs, x ≠ .tuple cs) → v.cells.size = l.length ∧
      ∀ (j : Nat) (u : Value), l[j]? = some u → ∃ u', v.cells[j]? = some u' ∧ VRel n m u u' ∧ flat u = true := by
    intro h1 h2
    have hx : flat x = true := by cases x <;> first | rfl | exact absurd rfl (h1 _) | exact absurd rfl (h2 _)
    have hl' : l = [x] := by
      cases x <;> first | exact absurd rfl (h1 _) | exact absurd rfl (h2 _) | (simp only [Am.vcs] at hl; exact (Option.some.inj hl).symm)
    have hv : v.cells = #[v] := flat_cells (by rw [h.flat_eq]; exact hx)
    subst hl'
    rw [hv]
    refine ⟨rfl, fun j u hj => ?_⟩
    rcases j with _ | j
    · simp at hj; subst hj; exact ⟨v, rfl, h, hx⟩
    · simp at hj
  cases h with
  | agg cs cs' hs hp =>
    simp only [Am.vcs] at hl
    split at hl
    · rename_i hf
      cases hl
      refine ⟨by simp [Value.cells, hs], fun j u hj => ?_⟩
      simp only [Array.getElem?_toList] at hj
      obtain ⟨h1, h2⟩ := Array.getElem?_eq_some_iff.1 hj
      have h1' : j < cs'.size := by omega
      refine ⟨cs'[j]'h1', by simp only [Value.cells]; exact Array.getElem?_eq_getElem h1', ?_, ?_⟩
      · rw [← h2]; exact hp j h1 h1'
      · rw [List.all_eq_true] at hf; exact hf u (by rw [← h2]; simp)
    · exact absurd hl (by simp)
  | tuple cs cs' hs hp => simp [Am.vcs] at hl
  | _ => exact one (by intro cs hc; cases hc) (by intro cs hc; cases hc)

/-! ### what an operation does, in one world -/

def Does (P : Program) (G : Glo) (o : Oper) (a : Act) (m : Map) (h : Heap) (w : World) (v : Value) (h' : Heap) : Prop :=
  ∃ v' w' m', ((execOp a.eval o).run P w = .ok (.value v') w' ∨ ((execOp a.eval o).run P w = .ok .skip w' ∧ v' = undef)) ∧
    VRel h'.length m' v v' ∧ WRel G m' h' w' ∧ Grow m h w m' h' w'

theorem aop_of_does {P : Program} {G : Glo} {o : Oper} {T : Tmps} {h : Heap} {K : Value → Heap → Prop} {v : Value} {h' : Heap}
    (hd : ∀ m a w, ORel h.length m T a o → WRel G m h w → Does P G o a m h w v h') (hk : K v h') : AOp P G o T h K := by
  intro m a w ho hw Q
  obtain ⟨v', w', m', hr, hv, hw', hg⟩ := hd m a w ho hw
  unfold Oper.wp
  rcases hr with hr | ⟨hr, rfl⟩
  · rw [hr]; exact ⟨v, v', m', h', rfl, hv, hw', hg, hk⟩
  · rw [hr]; exact ⟨v, _, m', h', rfl, hv, hw', hg, hk⟩

theorem does_pure {P : Program} {G : Glo} {o : Oper} {a : Act} {m : Map} {h : Heap} {w : World} {v v' : Value} (hw : WRel G m h w)
    (hr : (execOp a.eval o).run P w = .ok (.value v') w) (hv : VRel h.length m v v') : Does P G o a m h w v h :=
  ⟨v', w, m, .inl hr, hv, hw, Grow.refl _ _ _⟩

/-! ### inversions -/

theorem inv_int {n : Nat} {m : Map} {k : IntKind} {i : Int} {v : Value} (h : VRel n m (.int k i) v) : v = .int k i := by cases h; rfl
theorem inv_string {n : Nat} {m : Map} {s : ByteArray} {v : Value} (h : VRel n m (.string s) v) : v = .string s := by cases h; rfl
theorem inv_ptr {n : Nat} {m : Map} {a : Addr} {v : Value} (h : VRel n m (.pointer (some a)) v) : a.spot = none ∧ a.block < n ∧ v = .pointer (some (place m a)) := by
  cases h; exact ⟨‹_›, ‹_›, rfl⟩
theorem inv_sliceNone {n : Nat} {m : Map} {l c : Nat} {v : Value} (h : VRel n m (.slice none l c) v) : v = .slice none l c := by cases h; rfl
theorem inv_agg {n : Nat} {m : Map} {cs : Array Value} {v : Value} (h : VRel n m (.agg cs) v) :
    ∃ cs', v = .agg cs' ∧ cs.size = cs'.size ∧ ∀ (i : Nat) (h : i < cs.size) (h' : i < cs'.size), VRel n m cs[i] cs'[i] := by
  cases h; exact ⟨_, rfl, ‹_›, ‹_›⟩
theorem inv_tuple {n : Nat} {m : Map} {cs : Array Value} {v : Value} (h : VRel n m (.tuple cs) v) :
    ∃ cs', v = .tuple cs' ∧ cs.size = cs'.size ∧ ∀ (i : Nat) (h : i < cs.size) (h' : i < cs'.size), VRel n m cs[i] cs'[i] := by
  cases h; exact ⟨_, rfl, ‹_›, ‹_›⟩

/-- What is known of a slice that is not nil. -/
structure SlR (n : Nat) (m : Map) (a : Addr) (l c : Nat) (y : Addr) (c' : Nat) : Prop where
  lt : a.block < n
  spot : y.spot = none
  blk : y.block = (m a.block).b
  cap : c ≤ c'
  pl : l ≠ 0 ∨ c ≠ 0 → y = place m a
  ex : a.spot = none → c' = c ∧ y = place m a
  inx : a.spot ≠ none → a.spot = some 0 ∧ (m a.block).o ≤ y.off ∧ y.off + c' * (m a.block).e ≤ (m a.block).o + (m a.block).room

theorem inv_slice {n : Nat} {m : Map} {a : Addr} {l c : Nat} {v : Value} (h : VRel n m (.slice (some a) l c) v) :
    ∃ y c', v = .slice (some y) l c' ∧ SlR n m a l c y c' := by
  cases h with
  | slice _ _ _ ha hn => exact ⟨_, _, rfl, ⟨hn, rfl, rfl, Nat.le_refl _, fun _ => rfl, fun _ => ⟨rfl, rfl⟩, fun h => absurd ha h⟩⟩
  | sliceIn _ y _ _ c' ha hn hc hy hb hp hlo hhi =>
    exact ⟨y, c', rfl, ⟨hn, hy, hb, hc, hp, fun h => absurd (ha.symm.trans h) (by simp), fun _ => ⟨ha, hlo, hhi⟩⟩⟩

theorem SlR.vrel {n : Nat} {m : Map} {a : Addr} {l c : Nat} {y : Addr} {c' : Nat} (s : SlR n m a l c y c') : VRel n m (.slice (some a) l c) (.slice (some y) l c') := by
  by_cases hs : a.spot = none
  · obtain ⟨h1, h2⟩ := s.ex hs
    subst h1; subst h2
    exact .slice a l c' hs s.lt
  · obtain ⟨h1, h2, h3⟩ := s.inx hs
    exact .sliceIn a y l c c' h1 s.lt s.cap s.spot s.blk s.pl h2 h3

end Go.Proofs.Ytiddnhhjlipebaa.Am
