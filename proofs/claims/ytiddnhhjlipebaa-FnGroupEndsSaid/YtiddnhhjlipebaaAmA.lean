/- The abstract memory over which the walks of this claim are told: blocks under names of their own, what a world holds of them, and what a step may change. Conditions: none. -/
import Derived.Tactics
import Derived.Orders
import Derived.Laws.Cells
namespace Go.Proofs.Ytiddnhhjlipebaa.Am
open Go
set_option linter.unusedVariables false
set_option linter.unusedSimpArgs false
set_option linter.unusedSectionVars false

/-- A block: k = 0 dead, 1 read only, 2 the call's own cells, 3 a string's iterator; e: the cells of an element; cs: its cells. -/
structure Blk where
  k : Nat
  e : Nat
  cs : List Value

def Blk.own (b : Blk) : Prop := b.k = 2 ∨ b.k = 3

abbrev Heap := List Blk

/-- Where a block lies: the real block, the offset in it, an element's cells, how many cells there are from there on. -/
structure Pl where
  b : Nat
  o : Nat
  e : Nat
  room : Nat

abbrev Map := Nat → Pl

def place (m : Map) (a : Addr) : Addr := ⟨(m a.block).b, (m a.block).o + a.off, none⟩

/-- A value under the block's own names, and the value as it is. -/
inductive VRel (n : Nat) (m : Map) : Value → Value → Prop where
  | bool (b : Bool) : VRel n m (.bool b) (.bool b)
  | int (k : IntKind) (i : Int) : VRel n m (.int k i) (.int k i)
  | string (s : ByteArray) : VRel n m (.string s) (.string s)
  | nilFunc : VRel n m .nilFunc .nilFunc
  | nilIface : VRel n m .nilIface .nilIface
  | ptrNone : VRel n m (.pointer none) (.pointer none)
  | ptr (a : Addr) (ha : a.spot = none) (hn : a.block < n) : VRel n m (.pointer (some a)) (.pointer (some (place m a)))
  | sliceNone (l c : Nat) : VRel n m (.slice none l c) (.slice none l c)
  | slice (a : Addr) (l c : Nat) (ha : a.spot = none) (hn : a.block < n) : VRel n m (.slice (some a) l c) (.slice (some (place m a)) l c)
  | sliceIn (a y : Addr) (l c c' : Nat) (ha : a.spot = some 0) (hn : a.block < n) (hc : c ≤ c') (hy : y.spot = none)
      (hb : y.block = (m a.block).b) (hp : l ≠ 0 ∨ c ≠ 0 → y = place m a) (hlo : (m a.block).o ≤ y.off)
      (hhi : y.off + c' * (m a.block).e ≤ (m a.block).o + (m a.block).room) : VRel n m (.slice (some a) l c) (.slice (some y) l c')
  | func (fn : Fn) (fs cs fs' cs' : Array Value) (hf : fs.size = fs'.size) (hc : cs.size = cs'.size)
      (h1 : ∀ (i : Nat) (h : i < fs.size) (h' : i < fs'.size), VRel n m fs[i] fs'[i])
      (h2 : ∀ (i : Nat) (h : i < cs.size) (h' : i < cs'.size), VRel n m cs[i] cs'[i]) : VRel n m (.func fn fs cs) (.func fn fs' cs')
  | iface (t : TypeId) (v v' : Value) (h : VRel n m v v') : VRel n m (.iface t v) (.iface t v')
  | agg (cs cs' : Array Value) (hs : cs.size = cs'.size) (h : ∀ (i : Nat) (h : i < cs.size) (h' : i < cs'.size), VRel n m cs[i] cs'[i]) :
      VRel n m (.agg cs) (.agg cs')
  | tuple (cs cs' : Array Value) (hs : cs.size = cs'.size) (h : ∀ (i : Nat) (h : i < cs.size) (h' : i < cs'.size), VRel n m cs[i] cs'[i]) :
      VRel n m (.tuple cs) (.tuple cs')

def Agree (n : Nat) (m m' : Map) : Prop := ∀ id, id < n → m' id = m id

theorem Agree.refl (n : Nat) (m : Map) : Agree n m m := fun _ _ => rfl
theorem Agree.trans {n n' : Nat} {m m' m'' : Map} (h : Agree n m m') (h' : Agree n' m' m'') (hn : n ≤ n') : Agree n m m'' :=
  fun id hid => (h' id (Nat.lt_of_lt_of_le hid hn)).trans (h id hid)

theorem place_agree {n : Nat} {m m' : Map} (h : Agree n m m') {a : Addr} (ha : a.block < n) : place m' a = place m a := by
  unfold place; rw [h _ ha]

theorem VRel.mono {n n' : Nat} {m m' : Map} {a v : Value} (hn : n ≤ n') (ha : Agree n m m') (h : VRel n m a v) : VRel n' m' a v := by
  induction h with
  | bool b => exact .bool b
  | int k i => exact .int k i
  | string s => exact .string s
  | nilFunc => exact .nilFunc
  | nilIface => exact .nilIface
  | ptrNone => exact .ptrNone
  | ptr a h1 h2 => rw [← place_agree ha h2]; exact .ptr a h1 (Nat.lt_of_lt_of_le h2 hn)
  | sliceNone l c => exact .sliceNone l c
  | slice a l c h1 h2 => rw [← place_agree ha h2]; exact .slice a l c h1 (Nat.lt_of_lt_of_le h2 hn)
  | sliceIn a y l c c' h1 h2 h3 h4 h5 h6 h7 h8 =>
    refine .sliceIn a y l c c' h1 (Nat.lt_of_lt_of_le h2 hn) h3 h4 ?_ ?_ ?_ ?_
    · rw [ha _ h2]; exact h5
    · intro h; rw [place_agree ha h2]; exact h6 h
    · rw [ha _ h2]; exact h7
    · rw [ha _ h2]; exact h8
  | func fn fs cs fs' cs' hf hc _ _ i1 i2 => exact .func fn fs cs fs' cs' hf hc i1 i2
  | iface t v v' _ ih => exact .iface t v v' ih
  | agg cs cs' hs _ ih => exact .agg cs cs' hs ih
  | tuple cs cs' hs _ ih => exact .tuple cs cs' hs ih

/-- One cell's value. -/
def flat : Value → Bool
  | .agg _ | .tuple _ => false
  | _ => true

theorem VRel.flat_eq {n : Nat} {m : Map} {a v : Value} (h : VRel n m a v) : flat v = flat a := by cases h <;> rfl

theorem flat_oneCell {v : Value} (h : flat v = true) : v.oneCell' = true := by cases v <;> simp_all [flat, Value.oneCell']

theorem flat_cells {v : Value} (h : flat v = true) : v.cells = #[v] := by cases v <;> simp_all [flat, Value.cells]

/-- The cells of a value and of its like. -/
theorem VRel.cells {n : Nat} {m : Map} {a v : Value} (h : VRel n m a v) (ht : ∀ vs, a ≠ .tuple vs) : a.cells.size = v.cells.size ∧
    ∀ (i : Nat) (h : i < a.cells.size) (h' : i < v.cells.size), VRel n m a.cells[i] v.cells[i] := by
  cases h with
  | agg cs cs' hs h => exact ⟨hs, h⟩
  | tuple cs cs' hs h => exact absurd rfl (ht cs)
  | _ =>
    refine ⟨rfl, fun i h1 h2 => ?_⟩
    have h0 : i = 0 := by simp only [Value.cells, List.size_toArray, List.length_cons, List.length_nil] at h1; omega
    subst h0
    simp only [Value.cells]
    first
      | exact .bool _ | exact .int _ _ | exact .string _ | exact .nilFunc | exact .nilIface | exact .ptrNone
      | exact .ptr _ ‹_› ‹_› | exact .sliceNone _ _ | exact .slice _ _ _ ‹_› ‹_›
      | exact .sliceIn _ _ _ _ _ ‹_› ‹_› ‹_› ‹_› ‹_› ‹_› ‹_› ‹_›
      | exact .func _ _ _ _ _ ‹_› ‹_› ‹_› ‹_› | exact .iface _ _ _ ‹_›

/-- The package's variables that may be read: how many of the program's there are, and which of them are tables, with what is known of what they hold. -/
structure Glo where
  n : Nat
  tab : Nat → Option (Obj → Prop)
instance (n : Nat) : OfNat Glo n := ⟨⟨n, fun _ => none⟩⟩

/-- What a world holds of an abstract memory. -/
structure WRel (G : Glo) (m : Map) (h : Heap) (w : World) : Prop where
  cell : ∀ id b, h[id]? = some b → (b.k = 1 ∨ b.k = 2) → ∀ j v, b.cs[j]? = some v →
    ∃ v', w.cell? ⟨(m id).b, (m id).o + j, none⟩ = some v' ∧ VRel h.length m v v' ∧ flat v = true
  room : ∀ id b, h[id]? = some b → b.k = 2 → (m id).e = b.e ∧ b.cs.length ≤ (m id).room ∧
    ∀ j, j < (m id).room → (∃ v', w.cell? ⟨(m id).b, (m id).o + j, none⟩ = some v') ∧ w.frozen? ⟨(m id).b, (m id).o + j, none⟩ = false
  iter : ∀ id b, h[id]? = some b → b.k = 3 → ∃ s pos, b.cs = [.string s, .int .i64 (pos : Nat)] ∧ (m id).o = 0 ∧ w.heap[(m id).b]? = some (.stringIter s pos)
  live : ∀ id b, h[id]? = some b → b.k ≠ 0 → (m id).b < w.heap.size
  apart : ∀ id id' b b', h[id]? = some b → h[id']? = some b' → b.own → b'.k ≠ 0 → id ≠ id' → (m id).b ≠ (m id').b
  glob : ∀ g, g < G.n → g < h.length ∧ (m g).b = g ∧ (m g).o = 0
  tab : ∀ g o, G.tab g = some o → (∃ x, w.heap[g]? = some x ∧ o x) ∧ ∀ id b, h[id]? = some b → b.own → (m id).b ≠ g

/-- What a step may do to a world and its abstract memory. -/
structure Grow (m : Map) (h : Heap) (w : World) (m' : Map) (h' : Heap) (w' : World) : Prop where
  agree : Agree h.length m m'
  len : h.length ≤ h'.length
  size : w.heap.size ≤ w'.heap.size
  io : w'.os = w.os ∧ w'.tape = w.tape ∧ w'.output = w.output
  keeps : ∀ r, r < w.heap.size → (∀ id b, h[id]? = some b → b.own → (m id).b ≠ r) → w'.heap[r]? = w.heap[r]?
  owned : ∀ id b, h'[id]? = some b → b.k ≠ 0 → w.heap.size ≤ (m' id).b ∨ ∃ id0 b0, h[id0]? = some b0 ∧ b0.k ≠ 0 ∧ (b.own → b0.own) ∧ (m id0).b = (m' id).b

theorem Blk.own_live {b : Blk} (h : b.own) : b.k ≠ 0 := by rcases h with h | h <;> omega

theorem Grow.refl (m : Map) (h : Heap) (w : World) : Grow m h w m h w :=
  ⟨Agree.refl _ _, Nat.le_refl _, Nat.le_refl _, ⟨rfl, rfl, rfl⟩, fun _ _ _ => rfl, fun id b hb ho => .inr ⟨id, b, hb, ho, fun x => x, rfl⟩⟩

theorem Grow.trans {m m' m'' : Map} {h h' h'' : Heap} {w w' w'' : World} (g : Grow m h w m' h' w') (g' : Grow m' h' w' m'' h'' w'') :
    Grow m h w m'' h'' w'' := by
  refine ⟨g.agree.trans g'.agree g.len, Nat.le_trans g.len g'.len, Nat.le_trans g.size g'.size,
    ⟨g'.io.1.trans g.io.1, g'.io.2.1.trans g.io.2.1, g'.io.2.2.trans g.io.2.2⟩, ?_, ?_⟩
  · intro r hr hno
    have h1 : w'.heap[r]? = w.heap[r]? := g.keeps r hr hno
    rw [← h1]
    refine g'.keeps r (Nat.lt_of_lt_of_le hr g.size) ?_
    intro id b hb ho he
    rcases g.owned id b hb (Blk.own_live ho) with h2 | ⟨id0, b0, h3, _, h4, h5⟩
    · omega
    · exact hno id0 b0 h3 (h4 ho) (h5.trans he)
  · intro id b hb ho
    rcases g'.owned id b hb ho with h2 | ⟨id0, b0, h3, h4, h4', h5⟩
    · exact .inl (Nat.le_trans g.size h2)
    · rcases g.owned id0 b0 h3 h4 with h6 | ⟨id1, b1, h7, h8, h8', h9⟩
      · exact .inl (h5 ▸ h6)
      · exact .inr ⟨id1, b1, h7, h8, fun x => h8' (h4' x), h9.trans h5⟩

/-! ### the world alone changes in what no block sees -/

theorem WRel.drew {G : Glo} {m : Map} {h : Heap} {w : World} (r : WRel G m h w) : WRel G m h w.drew :=
  ⟨r.cell, r.room, r.iter, r.live, r.apart, r.glob, r.tab⟩

theorem Grow.drew (m : Map) (h : Heap) (w : World) : Grow m h w m h w.drew :=
  ⟨Agree.refl _ _, Nat.le_refl _, Nat.le_refl _, ⟨rfl, rfl, rfl⟩, fun _ _ _ => rfl, fun id b hb ho => .inr ⟨id, b, hb, ho, fun x => x, rfl⟩⟩

/-! ### a new block -/

def Map.put (m : Map) (n : Nat) (p : Pl) : Map := fun id => if id = n then p else m id

theorem Map.agree_put (m : Map) (n : Nat) (p : Pl) : Agree n m (m.put n p) := fun id hid => by
  unfold Map.put; rw [if_neg (Nat.ne_of_lt hid)]

theorem Map.put_same (m : Map) (n : Nat) (p : Pl) : m.put n p n = p := by unfold Map.put; rw [if_pos rfl]
theorem Map.put_ne (m : Map) {n id : Nat} (p : Pl) (h : id ≠ n) : m.put n p id = m id := by unfold Map.put; rw [if_neg h]

theorem get_snoc {h : Heap} {x b : Blk} {id : Nat} (hb : (h ++ [x])[id]? = some b) : (id < h.length ∧ h[id]? = some b) ∨ (id = h.length ∧ b = x) := by
  rcases Nat.lt_trichotomy id h.length with h1 | h1 | h1
  · rw [List.getElem?_append_left h1] at hb; exact .inl ⟨h1, hb⟩
  · subst h1; simp at hb; exact .inr ⟨rfl, hb.symm⟩
  · rw [List.getElem?_append_right (by omega)] at hb
    rw [List.getElem?_eq_none (by simp; omega)] at hb
    exact absurd hb (by simp)

theorem lt_of_get {h : Heap} {id : Nat} {b : Blk} (hb : h[id]? = some b) : id < h.length := by
  rcases Nat.lt_or_ge id h.length with h1 | h1
  · exact h1
  · rw [List.getElem?_eq_none h1] at hb; exact absurd hb (by simp)

theorem heap_alloc_get (w : World) (o : Obj) {r : Nat} (h : r < w.heap.size) : (w.alloc o).heap[r]? = w.heap[r]? := by
  simp only [World.alloc, Array.getElem?_push]; rw [if_neg (Nat.ne_of_lt h)]

theorem heap_lt {w : World} {g : Nat} {o : Obj → Prop} (h : ∃ x, w.heap[g]? = some x ∧ o x) : g < w.heap.size := by
  obtain ⟨x, h, _⟩ := h; exact (Array.getElem?_eq_some_iff.1 h).1

/-- A new object that no abstract block sees yet. -/
theorem WRel.alloc_aside {G : Glo} {m : Map} {h : Heap} {w : World} (r : WRel G m h w) (o : Obj) : WRel G m h (w.alloc o) := by
  refine ⟨?_, ?_, ?_, ?_, r.apart, r.glob, fun g o hg => ⟨by rw [heap_alloc_get _ _ (heap_lt (r.tab g o hg).1)]; exact (r.tab g o hg).1, (r.tab g o hg).2⟩⟩
  · intro id b hb hk j v hv
    obtain ⟨v', h1, h2⟩ := r.cell id b hb hk j v hv
    have hl := r.live id b hb (by rcases hk with hk | hk <;> omega)
    exact ⟨v', by rw [World.cell?_alloc_lt _ _ _ hl]; exact h1, h2⟩
  · intro id b hb hk
    obtain ⟨h1, h2, h3⟩ := r.room id b hb hk
    have hl := r.live id b hb (by omega)
    refine ⟨h1, h2, fun j hj => ?_⟩
    obtain ⟨⟨v', h4⟩, h5⟩ := h3 j hj
    exact ⟨⟨v', by rw [World.cell?_alloc_lt _ _ _ hl]; exact h4⟩, by rw [World.frozen?_alloc_old _ _ _ (Nat.ne_of_lt hl)]; exact h5⟩
  · intro id b hb hk
    obtain ⟨s, pos, h1, h2, h3⟩ := r.iter id b hb hk
    exact ⟨s, pos, h1, h2, by rw [heap_alloc_get _ _ (r.live id b hb (by omega))]; exact h3⟩
  · intro id b hb hk
    have := r.live id b hb hk
    rw [World.size_alloc]; omega

theorem Grow.alloc_aside (m : Map) (h : Heap) (w : World) (o : Obj) : Grow m h w m h (w.alloc o) :=
  ⟨Agree.refl _ _, Nat.le_refl _, by rw [World.size_alloc]; omega, ⟨rfl, rfl, rfl⟩, fun r hr _ => heap_alloc_get _ _ hr, fun id b hb ho => .inr ⟨id, b, hb, ho, fun x => x, rfl⟩⟩

/-- A new block of cells of the call's own. -/
theorem WRel.alloc {G : Glo} {m : Map} {h : Heap} {w : World} (r : WRel G m h w) (t : TypeId) (e : Nat) (cs : List Value) (cs' : Array Value)
    (hl : cs.length ≤ cs'.size) (hv : ∀ (j : Nat) (v : Value), cs[j]? = some v → ∃ v', cs'[j]? = some v' ∧ VRel h.length m v v' ∧ flat v = true) :
    WRel G (m.put h.length ⟨w.heap.size, 0, e, cs'.size⟩) (h ++ [⟨2, e, cs⟩]) (w.alloc (.cells cs' t)) := by
  have hag : Agree h.length m (m.put h.length ⟨w.heap.size, 0, e, cs'.size⟩) := Map.agree_put _ _ _
  have r' := r.alloc_aside (.cells cs' t)
  have hlen : (h ++ [(⟨2, e, cs⟩ : Blk)]).length = h.length + 1 := by simp
  refine ⟨?_, ?_, ?_, ?_, ?_, fun g hg => ?_, fun g o hg => ?_⟩
  · intro id b hb hk j v hj
    rw [hlen]
    rcases get_snoc hb with ⟨h1, h2⟩ | ⟨rfl, rfl⟩
    · obtain ⟨v', h3, h4, h5⟩ := r'.cell id b h2 hk j v hj
      exact ⟨v', by rw [hag id h1]; exact h3, h4.mono (Nat.le_succ _) hag, h5⟩
    · obtain ⟨v', h3, h4, h5⟩ := hv j v hj
      refine ⟨v', ?_, h4.mono (Nat.le_succ _) hag, h5⟩
      rw [Map.put_same]
      simp only [Nat.zero_add]
      rw [World.cell?_alloc_new]; exact h3
  · intro id b hb hk
    rcases get_snoc hb with ⟨h1, h2⟩ | ⟨rfl, rfl⟩
    · rw [hag id h1]; exact r'.room id b h2 hk
    · rw [Map.put_same]
      refine ⟨rfl, hl, fun j hj => ?_⟩
      simp only [Nat.zero_add]
      refine ⟨⟨cs'[j]'hj, ?_⟩, ?_⟩
      · rw [World.cell?_alloc_new]; exact Array.getElem?_eq_getElem hj
      · rw [World.frozen?_alloc_new]
  · intro id b hb hk
    rcases get_snoc hb with ⟨h1, h2⟩ | ⟨rfl, rfl⟩
    · rw [hag id h1]; exact r'.iter id b h2 hk
    · exact absurd hk (by simp)
  · intro id b hb hk
    rcases get_snoc hb with ⟨h1, h2⟩ | ⟨rfl, rfl⟩
    · rw [hag id h1]; exact r'.live id b h2 hk
    · rw [Map.put_same, World.size_alloc]; exact Nat.lt_succ_self _
  · intro id id' b b' hb hb' ho hk' hne
    rcases get_snoc hb with ⟨h1, h2⟩ | ⟨rfl, rfl⟩ <;> rcases get_snoc hb' with ⟨h3, h4⟩ | ⟨rfl, rfl⟩
    · rw [hag id h1, hag id' h3]; exact r.apart id id' b b' h2 h4 ho hk' hne
    · rw [hag id h1, Map.put_same]
      have := r.live id b h2 (by rcases ho with ho | ho <;> omega)
      exact Nat.ne_of_lt this
    · rw [Map.put_same, hag id' h3]
      have := r.live id' b' h4 hk'
      exact Ne.symm (Nat.ne_of_lt this)
    · exact absurd rfl hne
  · obtain ⟨h1, h2, h3⟩ := r.glob g hg
    refine ⟨by simp; omega, ?_, ?_⟩ <;> rw [hag g h1] <;> assumption
  · obtain ⟨h1, h2⟩ := r'.tab g o hg
    have hlt := heap_lt (r.tab g o hg).1
    refine ⟨h1, fun id b hb ho => ?_⟩
    rcases get_snoc hb with ⟨q1, q2⟩ | ⟨rfl, rfl⟩
    · rw [hag id q1]; exact h2 id b q2 ho
    · rw [Map.put_same]; exact Ne.symm (Nat.ne_of_lt hlt)

theorem Grow.alloc (m : Map) (h : Heap) (w : World) (o : Obj) (b : Blk) (p : Pl) (hp : p.b = w.heap.size) :
    Grow m h w (m.put h.length p) (h ++ [b]) (w.alloc o) := by
  refine ⟨Map.agree_put _ _ _, by simp, by rw [World.size_alloc]; omega, ⟨rfl, rfl, rfl⟩, fun r hr _ => heap_alloc_get _ _ hr, ?_⟩
  intro id b' hb ho
  rcases get_snoc hb with ⟨h1, h2⟩ | ⟨rfl, rfl⟩
  · exact .inr ⟨id, b', h2, ho, fun x => x, by rw [Map.put_ne _ _ (Nat.ne_of_lt h1)]⟩
  · exact .inl (by rw [Map.put_same, hp]; exact Nat.le_refl _)

/-- A new string iterator. -/
theorem WRel.alloc_iter {G : Glo} {m : Map} {h : Heap} {w : World} (r : WRel G m h w) (s : ByteArray) (pos : Nat) :
    WRel G (m.put h.length ⟨w.heap.size, 0, 1, 0⟩) (h ++ [⟨3, 1, [.string s, .int .i64 (pos : Nat)]⟩]) (w.alloc (.stringIter s pos)) := by
  have hag : Agree h.length m (m.put h.length ⟨w.heap.size, 0, 1, 0⟩) := Map.agree_put _ _ _
  have r' := r.alloc_aside (.stringIter s pos)
  refine ⟨?_, ?_, ?_, ?_, ?_, fun g hg => ?_, fun g o hg => ?_⟩
  · intro id b hb hk j v hj
    rcases get_snoc hb with ⟨h1, h2⟩ | ⟨rfl, rfl⟩
    · obtain ⟨v', h3, h4, h5⟩ := r'.cell id b h2 hk j v hj
      exact ⟨v', by rw [hag id h1]; exact h3, h4.mono (by simp) hag, h5⟩
    · simp at hk
  · intro id b hb hk
    rcases get_snoc hb with ⟨h1, h2⟩ | ⟨rfl, rfl⟩
    · rw [hag id h1]; exact r'.room id b h2 hk
    · simp at hk
  · intro id b hb hk
    rcases get_snoc hb with ⟨h1, h2⟩ | ⟨rfl, rfl⟩
    · rw [hag id h1]; exact r'.iter id b h2 hk
    · rw [Map.put_same]; exact ⟨s, pos, rfl, rfl, by simp only [World.alloc, Array.getElem?_push]; exact if_pos trivial⟩
  · intro id b hb hk
    rcases get_snoc hb with ⟨h1, h2⟩ | ⟨rfl, rfl⟩
    · rw [hag id h1]; exact r'.live id b h2 hk
    · rw [Map.put_same, World.size_alloc]; exact Nat.lt_succ_self _
  · intro id id' b b' hb hb' ho hk' hne
    rcases get_snoc hb with ⟨h1, h2⟩ | ⟨rfl, rfl⟩ <;> rcases get_snoc hb' with ⟨h3, h4⟩ | ⟨rfl, rfl⟩
    · rw [hag id h1, hag id' h3]; exact r.apart id id' b b' h2 h4 ho hk' hne
    · rw [hag id h1, Map.put_same]
      have := r.live id b h2 (by rcases ho with ho | ho <;> omega)
      exact Nat.ne_of_lt this
    · rw [Map.put_same, hag id' h3]
      have := r.live id' b' h4 hk'
      exact Ne.symm (Nat.ne_of_lt this)
    · exact absurd rfl hne
  · obtain ⟨h1, h2, h3⟩ := r.glob g hg
    refine ⟨by simp; omega, ?_, ?_⟩ <;> rw [hag g h1] <;> assumption
  · obtain ⟨h1, h2⟩ := r'.tab g o hg
    have hlt := heap_lt (r.tab g o hg).1
    refine ⟨h1, fun id b hb ho => ?_⟩
    rcases get_snoc hb with ⟨q1, q2⟩ | ⟨rfl, rfl⟩
    · rw [hag id q1]; exact h2 id b q2 ho
    · rw [Map.put_same]; exact Ne.symm (Nat.ne_of_lt hlt)

end Go.Proofs.Ytiddnhhjlipebaa.Am
