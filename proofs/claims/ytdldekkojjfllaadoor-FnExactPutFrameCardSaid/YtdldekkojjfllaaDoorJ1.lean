/- The abstract memory over which the walks of this claim are told: blocks under names of their own, what a world holds of them, and what a step may change. Conditions: none. -/
import Derived.Tactics
import Derived.Orders
import Derived.Laws.Cells
import Derived.Laws.StructEq
import Derived.Laws.AppendOwn
import Derived.Laws.MakeOwn
import Derived.Laws.RangeString
import Derived.Laws.Slices
import Derived.Laws.BytesString
namespace Go.Proofs.YtdldekkojjfllaaDoor.Am
open Go
set_option linter.unusedVariables false
set_option linter.unusedSimpArgs false
set_option linter.unusedSectionVars false
/-- A block: k = 0 dead, 1 read only, 2 the call's own cells, 3 a string's iterator; e: the cells of an element; cs: its cells. -/
structure Blk where
  k : Nat
  e : Nat
  cs : List Value
def Blk.own (b : Blk) : Prop := b.k = 2 ∨ b.k = 3
abbrev Heap := List Blk
/-- Where a block lies: the real block, the offset in it, an element's cells, how many cells there are from there on. -/
structure Pl where
  b : Nat
  o : Nat
  e : Nat
  room : Nat
abbrev Map := Nat → Pl
def place (m : Map) (a : Addr) : Addr := ⟨(m a.block).b, (m a.block).o + a.off, none⟩
/-- A value under the block's own names, and the value as it is. -/
inductive VRel (n : Nat) (m : Map) : Value → Value → Prop where
  | bool (b : Bool) : VRel n m (.bool b) (.bool b)
  | int (k : IntKind) (i : Int) : VRel n m (.int k i) (.int k i)
  | string (s : ByteArray) : VRel n m (.string s) (.string s)
  | nilFunc : VRel n m .nilFunc .nilFunc
  | nilIface : VRel n m .nilIface .nilIface
  | ptrNone : VRel n m (.pointer none) (.pointer none)
  | ptr (a : Addr) (ha : a.spot = none) (hn : a.block < n) : VRel n m (.pointer (some a)) (.pointer (some (place m a)))
  | sliceNone (l c : Nat) : VRel n m (.slice none l c) (.slice none l c)
  | odd (y : Addr) : VRel n m (.chan none) (.slice (some y) 0 0)
  | slice (a : Addr) (l c : Nat) (ha : a.spot = none) (hn : a.block < n) : VRel n m (.slice (some a) l c) (.slice (some (place m a)) l c)
  | sliceIn (a y : Addr) (l c c' : Nat) (ha : a.spot = some 0) (hn : a.block < n) (hc : c ≤ c') (hy : y.spot = none)
      (hb : y.block = (m a.block).b) (hp : l ≠ 0 ∨ c ≠ 0 → y = place m a) (hlo : (m a.block).o ≤ y.off)
      (hhi : y.off + c' * (m a.block).e ≤ (m a.block).o + (m a.block).room) : VRel n m (.slice (some a) l c) (.slice (some y) l c')
  | func (fn : Fn) (fs cs fs' cs' : Array Value) (hf : fs.size = fs'.size) (hc : cs.size = cs'.size)
      (h1 : ∀ (i : Nat) (h : i < fs.size) (h' : i < fs'.size), VRel n m fs[i] fs'[i])
      (h2 : ∀ (i : Nat) (h : i < cs.size) (h' : i < cs'.size), VRel n m cs[i] cs'[i]) : VRel n m (.func fn fs cs) (.func fn fs' cs')
  | iface (t : TypeId) (v v' : Value) (h : VRel n m v v') : VRel n m (.iface t v) (.iface t v')
  | agg (cs cs' : Array Value) (hs : cs.size = cs'.size) (h : ∀ (i : Nat) (h : i < cs.size) (h' : i < cs'.size), VRel n m cs[i] cs'[i]) :
      VRel n m (.agg cs) (.agg cs')
  | tuple (cs cs' : Array Value) (hs : cs.size = cs'.size) (h : ∀ (i : Nat) (h : i < cs.size) (h' : i < cs'.size), VRel n m cs[i] cs'[i]) :
      VRel n m (.tuple cs) (.tuple cs')
def Agree (n : Nat) (m m' : Map) : Prop := ∀ id, id < n → m' id = m id
theorem Agree.refl (n : Nat) (m : Map) : Agree n m m := fun _ _ => rfl
theorem Agree.trans {n n' : Nat} {m m' m'' : Map} (h : Agree n m m') (h' : Agree n' m' m'') (hn : n ≤ n') : Agree n m m'' :=
  fun id hid => (h' id (Nat.lt_of_lt_of_le hid hn)).trans (h id hid)
theorem place_agree {n : Nat} {m m' : Map} (h : Agree n m m') {a : Addr} (ha : a.block < n) : place m' a = place m a := by
  unfold place; rw [h _ ha]
theorem VRel.mono {n n' : Nat} {m m' : Map} {a v : Value} (hn : n ≤ n') (ha : Agree n m m') (h : VRel n m a v) : VRel n' m' a v := by
  induction h with
  | bool b => exact .bool b
  | int k i => exact .int k i
  | string s => exact .string s
  | nilFunc => exact .nilFunc
  | nilIface => exact .nilIface
  | ptrNone => exact .ptrNone
  | ptr a h1 h2 => rw [← place_agree ha h2]; exact .ptr a h1 (Nat.lt_of_lt_of_le h2 hn)
  | sliceNone l c => exact .sliceNone l c
  | odd y => exact .odd y
  | slice a l c h1 h2 => rw [← place_agree ha h2]; exact .slice a l c h1 (Nat.lt_of_lt_of_le h2 hn)
  | sliceIn a y l c c' h1 h2 h3 h4 h5 h6 h7 h8 =>
    refine .sliceIn a y l c c' h1 (Nat.lt_of_lt_of_le h2 hn) h3 h4 ?_ ?_ ?_ ?_
    · rw [ha _ h2]; exact h5
    · intro h; rw [place_agree ha h2]; exact h6 h
    · rw [ha _ h2]; exact h7
    · rw [ha _ h2]; exact h8
  | func fn fs cs fs' cs' hf hc _ _ i1 i2 => exact .func fn fs cs fs' cs' hf hc i1 i2
  | iface t v v' _ ih => exact .iface t v v' ih
  | agg cs cs' hs _ ih => exact .agg cs cs' hs ih
  | tuple cs cs' hs _ ih => exact .tuple cs cs' hs ih
/-- One cell's value. -/
def flat : Value → Bool
  | .agg _ | .tuple _ => false
  | _ => true
theorem VRel.flat_eq {n : Nat} {m : Map} {a v : Value} (h : VRel n m a v) : flat v = flat a := by cases h <;> rfl
theorem flat_oneCell {v : Value} (h : flat v = true) : v.oneCell' = true := by cases v <;> simp_all [flat, Value.oneCell']
theorem flat_cells {v : Value} (h : flat v = true) : v.cells = #[v] := by cases v <;> simp_all [flat, Value.cells]
/-- The cells of a value and of its like. -/
theorem VRel.cells {n : Nat} {m : Map} {a v : Value} (h : VRel n m a v) (ht : ∀ vs, a ≠ .tuple vs) : a.cells.size = v.cells.size ∧
    ∀ (i : Nat) (h : i < a.cells.size) (h' : i < v.cells.size), VRel n m a.cells[i] v.cells[i] := by
  cases h with
  | agg cs cs' hs h => exact ⟨hs, h⟩
  | tuple cs cs' hs h => exact absurd rfl (ht cs)
  | _ =>
    refine ⟨rfl, fun i h1 h2 => ?_⟩
    have h0 : i = 0 := by simp only [Value.cells, List.size_toArray, List.length_cons, List.length_nil] at h1; omega
    subst h0
    simp only [Value.cells]
    first
      | exact .bool _ | exact .int _ _ | exact .string _ | exact .nilFunc | exact .nilIface | exact .ptrNone
      | exact .ptr _ ‹_› ‹_› | exact .sliceNone _ _ | exact .odd _ | exact .slice _ _ _ ‹_› ‹_›
      | exact .sliceIn _ _ _ _ _ ‹_› ‹_› ‹_› ‹_› ‹_› ‹_› ‹_› ‹_›
      | exact .func _ _ _ _ _ ‹_› ‹_› ‹_› ‹_› | exact .iface _ _ _ ‹_›
/-- The package's variables that may be read: how many of the program's there are, and which of them are tables, with what is known of what they hold. -/
structure Glo where
  n : Nat
  tab : Nat → Option (Obj → Prop)
instance (n : Nat) : OfNat Glo n := ⟨⟨n, fun _ => none⟩⟩
/-- What a world holds of an abstract memory. -/
structure WRel (G : Glo) (m : Map) (h : Heap) (w : World) : Prop where
  cell : ∀ id b, h[id]? = some b → (b.k = 1 ∨ b.k = 2) → ∀ j v, b.cs[j]? = some v →
    ∃ v', w.cell? ⟨(m id).b, (m id).o + j, none⟩ = some v' ∧ VRel h.length m v v' ∧ flat v = true
  room : ∀ id b, h[id]? = some b → b.k = 2 → (m id).e = b.e ∧ b.cs.length ≤ (m id).room ∧
    ∀ j, j < (m id).room → (∃ v', w.cell? ⟨(m id).b, (m id).o + j, none⟩ = some v') ∧ w.frozen? ⟨(m id).b, (m id).o + j, none⟩ = false
  iter : ∀ id b, h[id]? = some b → b.k = 3 → ∃ s pos, b.cs = [.string s, .int .i64 (pos : Nat)] ∧ (m id).o = 0 ∧ w.heap[(m id).b]? = some (.stringIter s pos)
  live : ∀ id b, h[id]? = some b → b.k ≠ 0 → (m id).b < w.heap.size
  apart : ∀ id id' b b', h[id]? = some b → h[id']? = some b' → b.own → b'.k ≠ 0 → id ≠ id' → (m id).b ≠ (m id').b
  glob : ∀ g, g < G.n → g < h.length ∧ (m g).b = g ∧ (m g).o = 0
  tab : ∀ g o, G.tab g = some o → (∃ x, w.heap[g]? = some x ∧ o x) ∧ ∀ id b, h[id]? = some b → b.own → (m id).b ≠ g
/-- What a step may do to a world and its abstract memory. -/
structure Grow (m : Map) (h : Heap) (w : World) (m' : Map) (h' : Heap) (w' : World) : Prop where
  agree : Agree h.length m m'
  len : h.length ≤ h'.length
  size : w.heap.size ≤ w'.heap.size
  io : w'.os = w.os ∧ w'.tape = w.tape ∧ w'.output = w.output
  keeps : ∀ r, r < w.heap.size → (∀ id b, h[id]? = some b → b.own → (m id).b ≠ r) → w'.heap[r]? = w.heap[r]?
  owned : ∀ id b, h'[id]? = some b → b.k ≠ 0 → w.heap.size ≤ (m' id).b ∨ ∃ id0 b0, h[id0]? = some b0 ∧ b0.k ≠ 0 ∧ (b.own → b0.own) ∧ (m id0).b = (m' id).b
theorem Blk.own_live {b : Blk} (h : b.own) : b.k ≠ 0 := by rcases h with h | h <;> omega
theorem Grow.refl (m : Map) (h : Heap) (w : World) : Grow m h w m h w :=
  ⟨Agree.refl _ _, Nat.le_refl _, Nat.le_refl _, ⟨rfl, rfl, rfl⟩, fun _ _ _ => rfl, fun id b hb ho => .inr ⟨id, b, hb, ho, fun x => x, rfl⟩⟩
theorem Grow.trans {m m' m'' : Map} {h h' h'' : Heap} {w w' w'' : World} (g : Grow m h w m' h' w') (g' : Grow m' h' w' m'' h'' w'') :
    Grow m h w m'' h'' w'' := by
  refine ⟨g.agree.trans g'.agree g.len, Nat.le_trans g.len g'.len, Nat.le_trans g.size g'.size,
    ⟨g'.io.1.trans g.io.1, g'.io.2.1.trans g.io.2.1, g'.io.2.2.trans g.io.2.2⟩, ?_, ?_⟩
  · intro r hr hno
    have h1 : w'.heap[r]? = w.heap[r]? := g.keeps r hr hno
    rw [← h1]
    refine g'.keeps r (Nat.lt_of_lt_of_le hr g.size) ?_
    intro id b hb ho he
    rcases g.owned id b hb (Blk.own_live ho) with h2 | ⟨id0, b0, h3, _, h4, h5⟩
    · omega
    · exact hno id0 b0 h3 (h4 ho) (h5.trans he)
  · intro id b hb ho
    rcases g'.owned id b hb ho with h2 | ⟨id0, b0, h3, h4, h4', h5⟩
    · exact .inl (Nat.le_trans g.size h2)
    · rcases g.owned id0 b0 h3 h4 with h6 | ⟨id1, b1, h7, h8, h8', h9⟩
      · exact .inl (h5 ▸ h6)
      · exact .inr ⟨id1, b1, h7, h8, fun x => h8' (h4' x), h9.trans h5⟩
/-! ### the world alone changes in what no block sees -/
theorem WRel.drew {G : Glo} {m : Map} {h : Heap} {w : World} (r : WRel G m h w) : WRel G m h w.drew :=
  ⟨r.cell, r.room, r.iter, r.live, r.apart, r.glob, r.tab⟩
theorem Grow.drew (m : Map) (h : Heap) (w : World) : Grow m h w m h w.drew :=
  ⟨Agree.refl _ _, Nat.le_refl _, Nat.le_refl _, ⟨rfl, rfl, rfl⟩, fun _ _ _ => rfl, fun id b hb ho => .inr ⟨id, b, hb, ho, fun x => x, rfl⟩⟩
/-! ### a new block -/
def Map.put (m : Map) (n : Nat) (p : Pl) : Map := fun id => if id = n then p else m id
theorem Map.agree_put (m : Map) (n : Nat) (p : Pl) : Agree n m (m.put n p) := fun id hid => by
  unfold Map.put; rw [if_neg (Nat.ne_of_lt hid)]
theorem Map.put_same (m : Map) (n : Nat) (p : Pl) : m.put n p n = p := by unfold Map.put; rw [if_pos rfl]
theorem Map.put_ne (m : Map) {n id : Nat} (p : Pl) (h : id ≠ n) : m.put n p id = m id := by unfold Map.put; rw [if_neg h]
theorem get_snoc {h : Heap} {x b : Blk} {id : Nat} (hb : (h ++ [x])[id]? = some b) : (id < h.length ∧ h[id]? = some b) ∨ (id = h.length ∧ b = x) := by
  rcases Nat.lt_trichotomy id h.length with h1 | h1 | h1
  · rw [List.getElem?_append_left h1] at hb; exact .inl ⟨h1, hb⟩
  · subst h1; simp at hb; exact .inr ⟨rfl, hb.symm⟩
  · rw [List.getElem?_append_right (by omega)] at hb
    rw [List.getElem?_eq_none (by simp; omega)] at hb
    exact absurd hb (by simp)
theorem lt_of_get {h : Heap} {id : Nat} {b : Blk} (hb : h[id]? = some b) : id < h.length := by
  rcases Nat.lt_or_ge id h.length with h1 | h1
  · exact h1
  · rw [List.getElem?_eq_none h1] at hb; exact absurd hb (by simp)
theorem heap_alloc_get (w : World) (o : Obj) {r : Nat} (h : r < w.heap.size) : (w.alloc o).heap[r]? = w.heap[r]? := by
  simp only [World.alloc, Array.getElem?_push]; rw [if_neg (Nat.ne_of_lt h)]
theorem heap_lt {w : World} {g : Nat} {o : Obj → Prop} (h : ∃ x, w.heap[g]? = some x ∧ o x) : g < w.heap.size := by
  obtain ⟨x, h, _⟩ := h; exact (Array.getElem?_eq_some_iff.1 h).1
/-- A new object that no abstract block sees yet. -/
theorem WRel.alloc_aside {G : Glo} {m : Map} {h : Heap} {w : World} (r : WRel G m h w) (o : Obj) : WRel G m h (w.alloc o) := by
  refine ⟨?_, ?_, ?_, ?_, r.apart, r.glob, fun g o hg => ⟨by rw [heap_alloc_get _ _ (heap_lt (r.tab g o hg).1)]; exact (r.tab g o hg).1, (r.tab g o hg).2⟩⟩
  · intro id b hb hk j v hv
    obtain ⟨v', h1, h2⟩ := r.cell id b hb hk j v hv
    have hl := r.live id b hb (by rcases hk with hk | hk <;> omega)
    exact ⟨v', by rw [World.cell?_alloc_lt _ _ _ hl]; exact h1, h2⟩
  · intro id b hb hk
    obtain ⟨h1, h2, h3⟩ := r.room id b hb hk
    have hl := r.live id b hb (by omega)
    refine ⟨h1, h2, fun j hj => ?_⟩
    obtain ⟨⟨v', h4⟩, h5⟩ := h3 j hj
    exact ⟨⟨v', by rw [World.cell?_alloc_lt _ _ _ hl]; exact h4⟩, by rw [World.frozen?_alloc_old _ _ _ (Nat.ne_of_lt hl)]; exact h5⟩
  · intro id b hb hk
    obtain ⟨s, pos, h1, h2, h3⟩ := r.iter id b hb hk
    exact ⟨s, pos, h1, h2, by rw [heap_alloc_get _ _ (r.live id b hb (by omega))]; exact h3⟩
  · intro id b hb hk
    have := r.live id b hb hk
    rw [World.size_alloc]; omega
theorem Grow.alloc_aside (m : Map) (h : Heap) (w : World) (o : Obj) : Grow m h w m h (w.alloc o) :=
  ⟨Agree.refl _ _, Nat.le_refl _, by rw [World.size_alloc]; omega, ⟨rfl, rfl, rfl⟩, fun r hr _ => heap_alloc_get _ _ hr, fun id b hb ho => .inr ⟨id, b, hb, ho, fun x => x, rfl⟩⟩
/-- A new block of cells of the call's own. -/
theorem WRel.alloc {G : Glo} {m : Map} {h : Heap} {w : World} (r : WRel G m h w) (t : TypeId) (e : Nat) (cs : List Value) (cs' : Array Value)
    (hl : cs.length ≤ cs'.size) (hv : ∀ (j : Nat) (v : Value), cs[j]? = some v → ∃ v', cs'[j]? = some v' ∧ VRel h.length m v v' ∧ flat v = true) :
    WRel G (m.put h.length ⟨w.heap.size, 0, e, cs'.size⟩) (h ++ [⟨2, e, cs⟩]) (w.alloc (.cells cs' t)) := by
  have hag : Agree h.length m (m.put h.length ⟨w.heap.size, 0, e, cs'.size⟩) := Map.agree_put _ _ _
  have r' := r.alloc_aside (.cells cs' t)
  have hlen : (h ++ [(⟨2, e, cs⟩ : Blk)]).length = h.length + 1 := by simp
  refine ⟨?_, ?_, ?_, ?_, ?_, fun g hg => ?_, fun g o hg => ?_⟩
  · intro id b hb hk j v hj
    rw [hlen]
    rcases get_snoc hb with ⟨h1, h2⟩ | ⟨rfl, rfl⟩
    · obtain ⟨v', h3, h4, h5⟩ := r'.cell id b h2 hk j v hj
      exact ⟨v', by rw [hag id h1]; exact h3, h4.mono (Nat.le_succ _) hag, h5⟩
    · obtain ⟨v', h3, h4, h5⟩ := hv j v hj
      refine ⟨v', ?_, h4.mono (Nat.le_succ _) hag, h5⟩
      rw [Map.put_same]
      simp only [Nat.zero_add]
      rw [World.cell?_alloc_new]; exact h3
  · intro id b hb hk
    rcases get_snoc hb with ⟨h1, h2⟩ | ⟨rfl, rfl⟩
    · rw [hag id h1]; exact r'.room id b h2 hk
    · rw [Map.put_same]
      refine ⟨rfl, hl, fun j hj => ?_⟩
      simp only [Nat.zero_add]
      refine ⟨⟨cs'[j]'hj, ?_⟩, ?_⟩
      · rw [World.cell?_alloc_new]; exact Array.getElem?_eq_getElem hj
      · rw [World.frozen?_alloc_new]
  · intro id b hb hk
    rcases get_snoc hb with ⟨h1, h2⟩ | ⟨rfl, rfl⟩
    · rw [hag id h1]; exact r'.iter id b h2 hk
    · exact absurd hk (by simp)
  · intro id b hb hk
    rcases get_snoc hb with ⟨h1, h2⟩ | ⟨rfl, rfl⟩
    · rw [hag id h1]; exact r'.live id b h2 hk
    · rw [Map.put_same, World.size_alloc]; exact Nat.lt_succ_self _
  · intro id id' b b' hb hb' ho hk' hne
    rcases get_snoc hb with ⟨h1, h2⟩ | ⟨rfl, rfl⟩ <;> rcases get_snoc hb' with ⟨h3, h4⟩ | ⟨rfl, rfl⟩
    · rw [hag id h1, hag id' h3]; exact r.apart id id' b b' h2 h4 ho hk' hne
    · rw [hag id h1, Map.put_same]
      have := r.live id b h2 (by rcases ho with ho | ho <;> omega)
      exact Nat.ne_of_lt this
    · rw [Map.put_same, hag id' h3]
      have := r.live id' b' h4 hk'
      exact Ne.symm (Nat.ne_of_lt this)
    · exact absurd rfl hne
  · obtain ⟨h1, h2, h3⟩ := r.glob g hg
    refine ⟨by simp; omega, ?_, ?_⟩ <;> rw [hag g h1] <;> assumption
  · obtain ⟨h1, h2⟩ := r'.tab g o hg
    have hlt := heap_lt (r.tab g o hg).1
    refine ⟨h1, fun id b hb ho => ?_⟩
    rcases get_snoc hb with ⟨q1, q2⟩ | ⟨rfl, rfl⟩
    · rw [hag id q1]; exact h2 id b q2 ho
    · rw [Map.put_same]; exact Ne.symm (Nat.ne_of_lt hlt)
theorem Grow.alloc (m : Map) (h : Heap) (w : World) (o : Obj) (b : Blk) (p : Pl) (hp : p.b = w.heap.size) :
    Grow m h w (m.put h.length p) (h ++ [b]) (w.alloc o) := by
  refine ⟨Map.agree_put _ _ _, by simp, by rw [World.size_alloc]; omega, ⟨rfl, rfl, rfl⟩, fun r hr _ => heap_alloc_get _ _ hr, ?_⟩
  intro id b' hb ho
  rcases get_snoc hb with ⟨h1, h2⟩ | ⟨rfl, rfl⟩
  · exact .inr ⟨id, b', h2, ho, fun x => x, by rw [Map.put_ne _ _ (Nat.ne_of_lt h1)]⟩
  · exact .inl (by rw [Map.put_same, hp]; exact Nat.le_refl _)
/-- A new string iterator. -/
theorem WRel.alloc_iter {G : Glo} {m : Map} {h : Heap} {w : World} (r : WRel G m h w) (s : ByteArray) (pos : Nat) :
    WRel G (m.put h.length ⟨w.heap.size, 0, 1, 0⟩) (h ++ [⟨3, 1, [.string s, .int .i64 (pos : Nat)]⟩]) (w.alloc (.stringIter s pos)) := by
  have hag : Agree h.length m (m.put h.length ⟨w.heap.size, 0, 1, 0⟩) := Map.agree_put _ _ _
  have r' := r.alloc_aside (.stringIter s pos)
  refine ⟨?_, ?_, ?_, ?_, ?_, fun g hg => ?_, fun g o hg => ?_⟩
  · intro id b hb hk j v hj
    rcases get_snoc hb with ⟨h1, h2⟩ | ⟨rfl, rfl⟩
    · obtain ⟨v', h3, h4, h5⟩ := r'.cell id b h2 hk j v hj
      exact ⟨v', by rw [hag id h1]; exact h3, h4.mono (by simp) hag, h5⟩
    · simp at hk
  · intro id b hb hk
    rcases get_snoc hb with ⟨h1, h2⟩ | ⟨rfl, rfl⟩
    · rw [hag id h1]; exact r'.room id b h2 hk
    · simp at hk
  · intro id b hb hk
    rcases get_snoc hb with ⟨h1, h2⟩ | ⟨rfl, rfl⟩
    · rw [hag id h1]; exact r'.iter id b h2 hk
    · rw [Map.put_same]; exact ⟨s, pos, rfl, rfl, by simp only [World.alloc, Array.getElem?_push]; exact if_pos trivial⟩
  · intro id b hb hk
    rcases get_snoc hb with ⟨h1, h2⟩ | ⟨rfl, rfl⟩
    · rw [hag id h1]; exact r'.live id b h2 hk
    · rw [Map.put_same, World.size_alloc]; exact Nat.lt_succ_self _
  · intro id id' b b' hb hb' ho hk' hne
    rcases get_snoc hb with ⟨h1, h2⟩ | ⟨rfl, rfl⟩ <;> rcases get_snoc hb' with ⟨h3, h4⟩ | ⟨rfl, rfl⟩
    · rw [hag id h1, hag id' h3]; exact r.apart id id' b b' h2 h4 ho hk' hne
    · rw [hag id h1, Map.put_same]
      have := r.live id b h2 (by rcases ho with ho | ho <;> omega)
      exact Nat.ne_of_lt this
    · rw [Map.put_same, hag id' h3]
      have := r.live id' b' h4 hk'
      exact Ne.symm (Nat.ne_of_lt this)
    · exact absurd rfl hne
  · obtain ⟨h1, h2, h3⟩ := r.glob g hg
    refine ⟨by simp; omega, ?_, ?_⟩ <;> rw [hag g h1] <;> assumption
  · obtain ⟨h1, h2⟩ := r'.tab g o hg
    have hlt := heap_lt (r.tab g o hg).1
    refine ⟨h1, fun id b hb ho => ?_⟩
    rcases get_snoc hb with ⟨q1, q2⟩ | ⟨rfl, rfl⟩
    · rw [hag id q1]; exact h2 id b q2 ho
    · rw [Map.put_same]; exact Ne.symm (Nat.ne_of_lt hlt)
end Go.Proofs.YtdldekkojjfllaaDoor.Am
namespace Go.Proofs.YtdldekkojjfllaaDoor.Am
open Go
set_option linter.unusedVariables false
set_option linter.unusedSimpArgs false
def setMany (w : World) (b o : Nat) : List Value → World
  | [] => w
  | v :: vs => setMany (w.setCell ⟨b, o, none⟩ v) b (o + 1) vs
theorem size_setMany (vs : List Value) : ∀ (w : World) (b o : Nat), (setMany w b o vs).heap.size = w.heap.size := by
  induction vs with
  | nil => intro w b o; rfl
  | cons v vs ih => intro w b o; simp only [setMany]; rw [ih, World.size_setCell]
theorem io_setMany (vs : List Value) : ∀ (w : World) (b o : Nat), (setMany w b o vs).os = w.os ∧ (setMany w b o vs).tape = w.tape ∧ (setMany w b o vs).output = w.output := by
  induction vs with
  | nil => intro w b o; exact ⟨rfl, rfl, rfl⟩
  | cons v vs ih => intro w b o; simp only [setMany]; exact ih _ _ _
theorem get_setCell_ne (w : World) (a : Addr) (v : Value) {r : Nat} (h : r ≠ a.block) : (w.setCell a v).heap[r]? = w.heap[r]? := by
  simp only [World.setCell, Array.getElem?_modify]; rw [if_neg (Ne.symm h)]
theorem get_setMany_ne (vs : List Value) : ∀ (w : World) (b o : Nat) {r : Nat}, r ≠ b → (setMany w b o vs).heap[r]? = w.heap[r]? := by
  induction vs with
  | nil => intro w b o r h; rfl
  | cons v vs ih => intro w b o r h; simp only [setMany]; rw [ih _ _ _ h, get_setCell_ne _ _ _ h]
theorem frozen_setMany (vs : List Value) : ∀ (w : World) (b o : Nat) (p : Addr), (setMany w b o vs).frozen? p = w.frozen? p := by
  induction vs with
  | nil => intro w b o p; rfl
  | cons v vs ih => intro w b o p; simp only [setMany]; rw [ih, World.frozen?_setCell]
theorem cell_setMany_out (vs : List Value) : ∀ (w : World) (b o : Nat) (p : Addr), (p.block ≠ b ∨ p.off < o ∨ o + vs.length ≤ p.off) →
    (setMany w b o vs).cell? p = w.cell? p := by
  induction vs with
  | nil => intro w b o p _; rfl
  | cons v vs ih =>
    intro w b o p h
    simp only [List.length_cons] at h
    simp only [setMany]
    rw [ih _ _ _ _ (by omega), World.cell?_setCell_other]
    intro he
    subst he
    simp only at h
    omega
theorem cell_setMany_in (vs : List Value) : ∀ (w : World) (b o : Nat), (∀ j, j < vs.length → ∃ u, w.cell? ⟨b, o + j, none⟩ = some u) →
    ∀ j, j < vs.length → (setMany w b o vs).cell? ⟨b, o + j, none⟩ = vs[j]? := by
  induction vs with
  | nil => intro w b o _ j hj; exact absurd hj (by simp)
  | cons v vs ih =>
    intro w b o h j hj
    simp only [setMany]
    obtain ⟨u, hu⟩ := h 0 (by simp)
    rcases j with _ | j
    · rw [cell_setMany_out _ _ _ _ _ (by right; left; simp)]
      simp only [Nat.add_zero] at hu ⊢
      rw [World.cell?_setCell_same _ _ _ hu]; rfl
    · have h2 := ih (w.setCell ⟨b, o, none⟩ v) b (o + 1) (fun i hi => by
        obtain ⟨u, hu⟩ := h (i + 1) (by simp; omega)
        refine ⟨u, ?_⟩
        rw [World.cell?_setCell_other _ _ _ _ (by intro he; injection he with h1 h2; omega)]
        rw [show o + 1 + i = o + (i + 1) from by omega]; exact hu) j (by simp at hj; omega)
      rw [show o + (j + 1) = o + 1 + j from by omega, h2]; rfl
theorem add_none (a : Addr) (ha : a.spot = none) (n : Nat) : a.add n = ⟨a.block, a.off + n, none⟩ := by
  unfold Addr.add; split
  · rename_i h; subst h; cases a; simp_all
  · cases a; simp_all
theorem run_storeCells {P : Program} (vs : List Value) : ∀ (w : World) (a : Addr) (i : Nat), a.spot = none →
    (∀ v, v ∈ vs → flat v = true) →
    (∀ j, j < vs.length → (∃ u, w.cell? ⟨a.block, a.off + i + j, none⟩ = some u) ∧ w.frozen? ⟨a.block, a.off + i + j, none⟩ = false) →
    (storeCells a vs i).run P w = .ok () (setMany w a.block (a.off + i) vs) := by
  induction vs with
  | nil => intro w a i _ _ _; rfl
  | cons v vs ih =>
    intro w a i ha hf hc
    obtain ⟨⟨u, hu⟩, hfz⟩ := hc 0 (by simp)
    simp only [storeCells, Sem.run_bind, add_none a ha]
    rw [run_store _ _ _ _ _ (flat_oneCell (hf v (by simp)))]
    simp only [Nat.add_zero] at hu hfz
    rw [hu]
    simp only [hfz, Bool.false_eq_true, if_false, Result.andThen_ok]
    rw [ih (w.setCell ⟨a.block, a.off + i, none⟩ v) a (i + 1) ha (fun v hv => hf v (by simp [hv]))]
    · simp only [setMany]; rw [Nat.add_assoc]
    · intro j hj
      obtain ⟨⟨u, hu⟩, hfz⟩ := hc (j + 1) (by simp; omega)
      rw [show a.off + (i + 1) + j = a.off + i + (j + 1) from by omega]
      refine ⟨⟨u, ?_⟩, by rw [World.frozen?_setCell]; exact hfz⟩
      rw [World.cell?_setCell_other _ _ _ _ (by intro he; injection he with h1 h2; omega)]; exact hu
/-- Cells j0, j0 + 1, .. of an own block are written. -/
theorem WRel.setMany {G : Glo} {m : Map} {h : Heap} {w : World} (r : WRel G m h w) {id : Nat} {b : Blk} (hb : h[id]? = some b) (hk : b.k = 2)
    (j0 : Nat) (vs vs' : List Value) (hlen : vs.length = vs'.length)
    (hv : ∀ (j : Nat) (v : Value), vs[j]? = some v → ∃ v', vs'[j]? = some v' ∧ VRel h.length m v v' ∧ flat v = true)
    (hfit : j0 + vs.length ≤ (m id).room) (cs : List Value) (hcl : cs.length ≤ (m id).room)
    (h1 : ∀ (j : Nat) (v : Value), cs[j]? = some v → (j < j0 ∨ j0 + vs.length ≤ j) → b.cs[j]? = some v)
    (h2 : ∀ (j : Nat) (v : Value), j < vs.length → cs[j0 + j]? = some v → vs[j]? = some v) :
    WRel G m (h.set id ⟨2, b.e, cs⟩) (Am.setMany w (m id).b ((m id).o + j0) vs') := by
  have hid := lt_of_get hb
  have hlv := r.live id b hb (by omega)
  obtain ⟨re, rl, rr⟩ := r.room id b hb hk
  have hlen' : (h.set id (⟨2, b.e, cs⟩ : Blk)).length = h.length := by simp
  have hget : ∀ (i : Nat) (x : Blk), (h.set id (⟨2, b.e, cs⟩ : Blk))[i]? = some x → (i = id ∧ x = ⟨2, b.e, cs⟩) ∨ (i ≠ id ∧ h[i]? = some x) := by
    intro i x hx
    by_cases hi : i = id
    · subst hi
      rw [List.getElem?_set_self hid] at hx
      exact .inl ⟨rfl, (Option.some.inj hx).symm⟩
    · rw [List.getElem?_set_ne (Ne.symm hi)] at hx
      exact .inr ⟨hi, hx⟩
  have hne : ∀ (i : Nat) (x : Blk), i ≠ id → h[i]? = some x → x.k ≠ 0 → (m i).b ≠ (m id).b := by
    intro i x hi hx hk0
    exact Ne.symm (r.apart id i b x hb hx (.inl hk) hk0 (Ne.symm hi))
  refine ⟨?_, ?_, ?_, ?_, ?_, fun g hg => ?_, fun g o hg => ?_⟩
  · intro i x hx hkx j v hj
    rw [hlen']
    rcases hget i x hx with ⟨rfl, rfl⟩ | ⟨hi, hx'⟩
    · by_cases hin : j0 ≤ j ∧ j < j0 + vs.length
      · obtain ⟨hlo, hhi⟩ := hin
        have hvj := h2 (j - j0) v (by omega) (by rw [show j0 + (j - j0) = j from by omega]; exact hj)
        obtain ⟨v', hv', hr, hf⟩ := hv _ _ hvj
        refine ⟨v', ?_, hr, hf⟩
        have hc := cell_setMany_in vs' w (m i).b ((m i).o + j0) (fun q hq => by
          obtain ⟨⟨u, hu⟩, _⟩ := rr (j0 + q) (by omega)
          exact ⟨u, by rw [show (m i).o + j0 + q = (m i).o + (j0 + q) from by omega]; exact hu⟩) (j - j0) (by omega)
        rw [show (m i).o + j0 + (j - j0) = (m i).o + j from by omega] at hc
        rw [hc]; exact hv'
      · have hbj := h1 j v hj (by omega)
        obtain ⟨v', hc, hr, hf⟩ := r.cell i b hb (.inr hk) j v hbj
        refine ⟨v', ?_, hr, hf⟩
        rw [cell_setMany_out _ _ _ _ _ (by right; simp only; omega)]; exact hc
    · obtain ⟨v', hc, hr, hf⟩ := r.cell i x hx' hkx j v hj
      refine ⟨v', ?_, hr, hf⟩
      rw [cell_setMany_out _ _ _ _ _ (.inl (hne i x hi hx' (by omega)))]; exact hc
  · intro i x hx hkx
    rcases hget i x hx with ⟨rfl, rfl⟩ | ⟨hi, hx'⟩
    · refine ⟨re, hcl, fun j hj => ?_⟩
      obtain ⟨⟨u, hu⟩, hf⟩ := rr j hj
      refine ⟨?_, by rw [frozen_setMany]; exact hf⟩
      by_cases hin : j0 ≤ j ∧ j < j0 + vs'.length
      · have hc := cell_setMany_in vs' w (m i).b ((m i).o + j0) (fun q hq => by
          obtain ⟨⟨u, hu⟩, _⟩ := rr (j0 + q) (by omega)
          exact ⟨u, by rw [show (m i).o + j0 + q = (m i).o + (j0 + q) from by omega]; exact hu⟩) (j - j0) (by omega)
        rw [show (m i).o + j0 + (j - j0) = (m i).o + j from by omega] at hc
        rw [hc]; exact ⟨_, List.getElem?_eq_getElem (by omega)⟩
      · rw [cell_setMany_out _ _ _ _ _ (by right; simp only; omega)]; exact ⟨u, hu⟩
    · obtain ⟨q1, q2, q3⟩ := r.room i x hx' hkx
      refine ⟨q1, q2, fun j hj => ?_⟩
      obtain ⟨⟨u, hu⟩, hf⟩ := q3 j hj
      refine ⟨⟨u, ?_⟩, by rw [frozen_setMany]; exact hf⟩
      rw [cell_setMany_out _ _ _ _ _ (.inl (hne i x hi hx' (by omega)))]; exact hu
  · intro i x hx hkx
    rcases hget i x hx with ⟨rfl, rfl⟩ | ⟨hi, hx'⟩
    · simp at hkx
    · obtain ⟨s, pos, q1, q2, q3⟩ := r.iter i x hx' hkx
      exact ⟨s, pos, q1, q2, by rw [get_setMany_ne _ _ _ _ (hne i x hi hx' (by omega))]; exact q3⟩
  · intro i x hx hkx
    rw [size_setMany]
    rcases hget i x hx with ⟨rfl, rfl⟩ | ⟨hi, hx'⟩
    · exact hlv
    · exact r.live i x hx' hkx
  · intro i i' x x' hx hx' ho hk0 hii
    rcases hget i x hx with ⟨rfl, rfl⟩ | ⟨hi, hy⟩ <;> rcases hget i' x' hx' with ⟨rfl, rfl⟩ | ⟨hi', hy'⟩
    · exact absurd rfl hii
    · exact Ne.symm (hne i' x' hi' hy' hk0)
    · exact hne i x hi hy (Blk.own_live ho)
    · exact r.apart i i' x x' hy hy' ho hk0 hii
  · rw [hlen']; exact r.glob g hg
  · obtain ⟨h1, h2⟩ := r.tab g o hg
    refine ⟨by rw [get_setMany_ne _ _ _ _ (Ne.symm (h2 id b hb (.inl hk)))]; exact h1, fun i x hx ho => ?_⟩
    rcases hget i x hx with ⟨rfl, rfl⟩ | ⟨hi, hx'⟩
    · exact h2 i b hb (.inl hk)
    · exact h2 i x hx' ho
theorem Grow.setMany {G : Glo} {m : Map} {h : Heap} {w : World} (r : WRel G m h w) {id : Nat} {b : Blk} (hb : h[id]? = some b) (hk : b.k = 2)
    (o : Nat) (vs : List Value) (x : Blk) (hx : x.k = 2 ∨ x.k = 0) :
    Grow m h w m (h.set id x) (Am.setMany w (m id).b o vs) := by
  have hid := lt_of_get hb
  refine ⟨Agree.refl _ _, by simp, by rw [size_setMany]; omega, io_setMany _ _ _ _, ?_, ?_⟩
  · intro q hq hno
    exact get_setMany_ne _ _ _ _ (Ne.symm (hno id b hb (.inl hk)))
  · intro i y hy hl
    right
    by_cases hi : i = id
    · subst hi
      exact ⟨i, b, hb, by omega, fun _ => .inl hk, rfl⟩
    · rw [List.getElem?_set_ne (Ne.symm hi)] at hy
      exact ⟨i, y, hy, hl, fun z => z, rfl⟩
/-- A block is given up. -/
theorem WRel.kill {G : Glo} {m : Map} {h : Heap} {w : World} (r : WRel G m h w) (id : Nat) (e : Nat) (cs : List Value) :
    WRel G m (h.set id ⟨0, e, cs⟩) w := by
  have hget : ∀ (i : Nat) (x : Blk), (h.set id (⟨0, e, cs⟩ : Blk))[i]? = some x → x.k = 0 ∨ h[i]? = some x := by
    intro i x hx
    by_cases hi : i = id
    · subst hi
      by_cases hl : i < h.length
      · rw [List.getElem?_set_self hl] at hx
        exact .inl (by rw [← Option.some.inj hx])
      · rw [List.getElem?_eq_none (by simp; omega)] at hx; exact absurd hx (by simp)
    · rw [List.getElem?_set_ne (Ne.symm hi)] at hx
      exact .inr hx
  have hlen' : (h.set id (⟨0, e, cs⟩ : Blk)).length = h.length := by simp
  refine ⟨?_, ?_, ?_, ?_, ?_, fun g hg => by rw [hlen']; exact r.glob g hg, fun g o hg => ⟨(r.tab g o hg).1, fun i x hx ho => by
    rcases hget i x hx with h0 | hx'
    · rcases ho with ho | ho <;> omega
    · exact (r.tab g o hg).2 i x hx' ho⟩⟩
  · intro i x hx hkx
    rw [hlen']
    rcases hget i x hx with h0 | hx'
    · omega
    · exact r.cell i x hx' hkx
  · intro i x hx hkx
    rcases hget i x hx with h0 | hx'
    · omega
    · exact r.room i x hx' hkx
  · intro i x hx hkx
    rcases hget i x hx with h0 | hx'
    · omega
    · exact r.iter i x hx' hkx
  · intro i x hx hkx
    rcases hget i x hx with h0 | hx'
    · omega
    · exact r.live i x hx' hkx
  · intro i i' x x' hx hx' ho hk0 hii
    have hl := Blk.own_live ho
    rcases hget i x hx with h0 | hy
    · omega
    · rcases hget i' x' hx' with h0 | hy'
      · omega
      · exact r.apart i i' x x' hy hy' ho hk0 hii
theorem Grow.kill (m : Map) (h : Heap) (w : World) (id : Nat) (e : Nat) (cs : List Value) : Grow m h w m (h.set id ⟨0, e, cs⟩) w := by
  refine ⟨Agree.refl _ _, by simp, Nat.le_refl _, ⟨rfl, rfl, rfl⟩, fun _ _ _ => rfl, ?_⟩
  intro i x hx hl
  by_cases hi : i = id
  · subst hi
    by_cases hl' : i < h.length
    · rw [List.getElem?_set_self hl'] at hx
      exact absurd (by rw [← Option.some.inj hx]) hl
    · rw [List.getElem?_eq_none (by simp; omega)] at hx; exact absurd hx (by simp)
  · rw [List.getElem?_set_ne (Ne.symm hi)] at hx
    exact .inr ⟨i, x, hx, hl, fun z => z, rfl⟩
end Go.Proofs.YtdldekkojjfllaaDoor.Am
namespace Go.Proofs.YtdldekkojjfllaaDoor.Am
open Go
set_option linter.unusedVariables false
set_option linter.unusedSimpArgs false
abbrev Tmps := Nat → Value
def ev (T : Tmps) : Operand → Value
  | .tmp t => T t
  | .const v => v
  | .global g => .pointer (some ⟨g, 0, none⟩)
  | .func f => .func (.func f) #[] #[]
def put (T : Tmps) (d : Option Tmp) (v : Value) : Tmps :=
  match d with
  | some d => fun t => if t = d then v else T t
  | none => T
theorem put_none (T : Tmps) (v : Value) : put T none v = T := rfl
theorem put_some (T : Tmps) (d : Tmp) (v : Value) (t : Nat) : put T (some d) v t = if t = d then v else T t := rfl
def constOk : Value → Bool
  | .bool _ | .int _ _ | .string _ | .nilFunc | .nilIface | .pointer none | .slice none _ _ => true
  | .func _ fs cs => fs.size == 0 && cs.size == 0
  | .tuple vs => vs.size == 0
  | .agg cs => cs.all fun
    | .bool _ | .int _ _ | .string _ | .nilFunc | .nilIface | .pointer none | .slice none _ _ => true
    | _ => false
  | _ => false
theorem VRel.const (n : Nat) (m : Map) {v : Value} (h : constOk v = true) : VRel n m v v := by
  cases v with
  | bool b => exact .bool b
  | int k i => exact .int k i
  | float k b => simp [constOk] at h
  | complex k a b => simp [constOk] at h
  | string s => exact .string s
  | pointer a => cases a with
    | none => exact .ptrNone
    | some a => simp [constOk] at h
  | slice a l c => cases a with
    | none => exact .sliceNone l c
    | some a => simp [constOk] at h
  | map r => simp [constOk] at h
  | chan r => simp [constOk] at h
  | func fn fs cs =>
    simp only [constOk, Bool.and_eq_true, beq_iff_eq] at h
    exact .func fn fs cs fs cs rfl rfl (fun i hi _ => by omega) (fun i hi _ => by omega)
  | nilFunc => exact .nilFunc
  | iface t v => simp [constOk] at h
  | nilIface => exact .nilIface
  | agg cs =>
    refine .agg cs cs rfl fun i hi _ => ?_
    simp only [constOk, Array.all_eq_true] at h
    have h1 := h i hi
    revert h1
    cases cs[i] with
    | bool b => intro _; exact .bool b
    | int k i => intro _; exact .int k i
    | string s => intro _; exact .string s
    | nilFunc => intro _; exact .nilFunc
    | nilIface => intro _; exact .nilIface
    | pointer a => cases a with
      | none => intro _; exact .ptrNone
      | some a => intro h; simp at h
    | slice a l c => cases a with
      | none => intro _; exact .sliceNone l c
      | some a => intro h; simp at h
    | _ => intro h; simp at h
  | tuple vs =>
    simp only [constOk, beq_iff_eq] at h
    exact .tuple vs vs rfl (fun i hi _ => by omega)
theorem VRel.undef (n : Nat) (m : Map) : VRel n m undef undef := VRel.const n m rfl
def opnOk (G : Glo) : Operand → Bool
  | .const v => constOk v
  | .global g => decide (g < G.n)
  | _ => true
/-- What an operation needs of the frame: its operands. -/
def ORel (n : Nat) (m : Map) (T : Tmps) (a : Act) (o : Oper) : Prop := ∀ x, x ∈ o.op.operands → VRel n m (ev T x) (a.eval x)
/-- What an operation comes to, in whatever world. -/
def AOp (P : Program) (G : Glo) (o : Oper) (T : Tmps) (h : Heap) (K : Value → Heap → Prop) : Prop :=
  ∀ m a w, ORel h.length m T a o → WRel G m h w → ∀ Q : Exit → Act → World → Prop,
    o.wp P a w (fun a' w' => ∃ v v' m' h', a' = a.put o.dst v' ∧ VRel h'.length m' v v' ∧ WRel G m' h' w' ∧ Grow m h w m' h' w' ∧ K v h') Q
theorem AOp.mono {P : Program} {G : Glo} {o : Oper} {T : Tmps} {h : Heap} {K K' : Value → Heap → Prop} (hk : ∀ v h', K v h' → K' v h')
    (ha : AOp P G o T h K) : AOp P G o T h K' := fun m a w ho hw Q =>
  Oper.wp_mono (fun _ _ ⟨v, v', m', h', e, hv, hr, hg, k⟩ => ⟨v, v', m', h', e, hv, hr, hg, hk _ _ k⟩) (ha m a w ho hw Q)
/-- What a call comes to, in whatever world. -/
def ACalls (P : Program) (G : Glo) (f : FuncId) (args : Array Value) (h : Heap) (K : Value → Heap → Prop) : Prop :=
  ∀ m (args' : Array Value) w, args.size = args'.size → (∀ (i : Nat) (hi : i < args.size) (hi' : i < args'.size), VRel h.length m args[i] args'[i]) →
    WRel G m h w → Calls P f args' w fun e w' => ∃ v v' m' h', e = .returned v' ∧ VRel h'.length m' v v' ∧ WRel G m' h' w' ∧ Grow m h w m' h' w' ∧ K v h'
theorem ACalls.mono {P : Program} {G : Glo} {f : FuncId} {args : Array Value} {h : Heap} {K K' : Value → Heap → Prop}
    (ha : ACalls P G f args h K) (hk : ∀ v h', K v h' → K' v h') : ACalls P G f args h K' := fun m args' w h1 h2 h3 =>
  Calls.mono (ha m args' w h1 h2 h3) fun _ _ ⟨v, v', m', h', e, hv, hr, hg, k⟩ => ⟨v, v', m', h', e, hv, hr, hg, hk _ _ k⟩
/-- A frame and its abstract one. -/
structure SRel (G : Glo) (N : Nat) (m : Map) (T : Tmps) (h : Heap) (a : Act) (w : World) : Prop where
  defers : a.defers = []
  size : a.tmps.size = N
  tmp : ∀ t, VRel h.length m (T t) (a.tmps.getD t undef)
  wr : WRel G m h w
theorem VRel.of_ev {G : Glo} {N : Nat} {m : Map} {T : Tmps} {h : Heap} {a : Act} {w : World} (s : SRel G N m T h a w) {x : Operand} (hx : opnOk G x = true) :
    VRel h.length m (ev T x) (a.eval x) := by
  cases x with
  | tmp t => exact s.tmp t
  | const v => exact VRel.const _ _ hx
  | global g =>
    simp only [opnOk, decide_eq_true_eq] at hx
    obtain ⟨h1, h2, h3⟩ := s.wr.glob g hx
    simp only [ev, Act.eval]
    have : place m ⟨g, 0, none⟩ = ⟨g, 0, none⟩ := by unfold place; simp only [h2, h3]
    have h4 := VRel.ptr (n := h.length) (m := m) ⟨g, 0, none⟩ rfl h1
    rw [this] at h4; exact h4
  | func f => exact .func _ _ _ _ _ rfl rfl (fun i hi _ => absurd hi (by simp)) (fun i hi _ => absurd hi (by simp))
theorem SRel.orel {G : Glo} {N : Nat} {m : Map} {T : Tmps} {h : Heap} {a : Act} {w : World} (s : SRel G N m T h a w) {o : Oper}
    (ho : o.op.operands.all (opnOk G) = true) : ORel h.length m T a o := fun x hx => by
  rw [Array.all_eq_true] at ho
  obtain ⟨i, hi, rfl⟩ := Array.mem_iff_getElem.1 hx
  exact VRel.of_ev s (ho i hi)
theorem SRel.put {G : Glo} {N : Nat} {m m' : Map} {T : Tmps} {h h' : Heap} {a : Act} {w w' : World} (s : SRel G N m T h a w) (g : Grow m h w m' h' w')
    (r : WRel G m' h' w') {d : Option Tmp} {v v' : Value} (hv : VRel h'.length m' v v') (hd : ∀ t, d = some t → t < N) :
    SRel G N m' (Am.put T d v) h' (a.put d v') w' := by
  cases d with
  | none => exact ⟨s.defers, s.size, fun t => (s.tmp t).mono g.len g.agree, r⟩
  | some d =>
    refine ⟨s.defers, by simp [Act.put, s.size], fun t => ?_, r⟩
    have hdn := hd d rfl
    simp only [Am.put_some, Act.put]
    by_cases ht : t = d
    · subst ht
      rw [if_pos rfl]
      have : (a.tmps.setIfInBounds t v').getD t undef = v' := by
        rw [Array.getD_eq_getD_getElem?, Array.getElem?_setIfInBounds_self_of_lt (by rw [s.size]; exact hdn)]; rfl
      rw [this]; exact hv
    · rw [if_neg ht]
      have : (a.tmps.setIfInBounds d v').getD t undef = a.tmps.getD t undef := by
        rw [Array.getD_eq_getD_getElem?, Array.getD_eq_getD_getElem?, Array.getElem?_setIfInBounds_ne (Ne.symm ht)]
      rw [this]; exact (s.tmp t).mono g.len g.agree
/-- What a piece of code comes to, in whatever world. -/
def AW (P : Program) (G : Glo) (N : Nat) (c : Code) (Q : Exit → Tmps → Heap → Prop) (T : Tmps) (h : Heap) : Prop :=
  ∀ m a w, SRel G N m T h a w → c.wp P (fun e a' w' => ∃ m' T' h', SRel G N m' T' h' a' w' ∧ Grow m h w m' h' w' ∧ Q e T' h') a w
section
variable {P : Program} {G : Glo} {N : Nat} {Q : Exit → Tmps → Heap → Prop} {T : Tmps} {h : Heap}
theorem AW.mono {c : Code} {Q' : Exit → Tmps → Heap → Prop} (hq : ∀ e T h, Q e T h → Q' e T h) (ha : AW P G N c Q T h) : AW P G N c Q' T h :=
  fun m a w s => wp_mono (ha m a w s) fun _ _ _ ⟨m', T', h', s', g, q⟩ => ⟨m', T', h', s', g, hq _ _ _ q⟩
def thenK (K : Tmps → Heap → Prop) (Q : Exit → Tmps → Heap → Prop) : Exit → Tmps → Heap → Prop
  | .normal, T, h => K T h
  | e, T, h => Q e T h
theorem aw_seq {x y : Code} (hx : ∀ K : Tmps → Heap → Prop, (∀ T h, AW P G N y Q T h → K T h) → AW P G N x (thenK K Q) T h) :
    AW P G N (.seq x y) Q T h := by
  intro m a w s
  refine wp_seq (wp_mono (hx _ (fun _ _ k => k) m a w s) ?_)
  rintro e a' w' ⟨m', T', h', s', g, q⟩
  cases e with
  | normal =>
    exact wp_mono (q m' a' w' s') fun e a2 w2 ⟨m2, T2, h2, s2, g2, q2⟩ => ⟨m2, T2, h2, s2, g.trans g2, q2⟩
  | _ => exact ⟨m', T', h', s', g, q⟩
theorem aw_skip (hq : Q .normal T h) : AW P G N .skip Q T h := fun m a w s => wp_skip ⟨m, T, h, s, Grow.refl _ _ _, hq⟩
theorem aw_ret (hq : Q .ret T h) : AW P G N .ret Q T h := fun m a w s => wp_ret ⟨m, T, h, s, Grow.refl _ _ _, hq⟩
theorem aw_exit {id : Nat} (hq : Q (.exit id) T h) : AW P G N (.exit id) Q T h := fun m a w s => wp_exit ⟨m, T, h, s, Grow.refl _ _ _, hq⟩
def blockK (id : Nat) (Q : Exit → Tmps → Heap → Prop) : Exit → Tmps → Heap → Prop
  | .exit id', T, h => if id' = id then Q .normal T h else Q (.exit id') T h
  | e, T, h => Q e T h
theorem aw_block {id : Nat} {c : Code} (hc : AW P G N c (blockK id Q) T h) : AW P G N (.block id c) Q T h := by
  intro m a w s
  refine wp_block (wp_mono (hc m a w s) ?_)
  rintro e a' w' ⟨m', T', h', s', g, q⟩
  cases e with
  | exit id' =>
    simp only [blockK] at q
    simp only [Exit.inBlock]
    split
    · rename_i hid; rw [if_pos hid] at q; exact ⟨m', T', h', s', g, q⟩
    · rename_i hid; rw [if_neg hid] at q; exact ⟨m', T', h', s', g, q⟩
  | _ => exact ⟨m', T', h', s', g, q⟩
theorem inv_bool {n : Nat} {m : Map} {b : Bool} {v : Value} (h : VRel n m (.bool b) v) : v = .bool b := by cases h; rfl
theorem aw_cond {c : Operand} {x y : Code} {b : Bool} (hok : opnOk G c = true) (hc : ev T c = .bool b)
    (ht : b = true → AW P G N x Q T h) (hf : b = false → AW P G N y Q T h) : AW P G N (.cond c x y) Q T h := by
  intro m a w s
  have hv := VRel.of_ev s hok
  rw [hc] at hv
  have he := inv_bool hv
  exact wp_cond_split he (fun h => ht h m a w s) (fun h => hf h m a w s)
theorem upon_monoQ {o : Oper} {a : Act} {w : World} {K : Act → World → Prop} {Q1 Q2 : Exit → Act → World → Prop} (hq : ∀ e a w, Q1 e a w → Q2 e a w)
    (hh : o.wp P a w K Q1) : o.wp P a w K Q2 := by
  unfold Oper.wp at *
  generalize (execOp a.eval o).run P w = r at *
  cases r with
  | ok n w' =>
    cases n <;> simp only [Oper.upon] at hh ⊢ <;>
      first
        | exact hh
        | exact Calls.mono hh (fun e w'' he => by
            cases e with
            | returned v => exact he
            | panicked c => exact hq _ _ _ he
            | outgrown => obtain ⟨a1, w1, h1⟩ := he; exact ⟨a1, w1, hq _ _ _ h1⟩)
        | exact Rows.mono hh (fun _ _ he => he)
  | halt x w' => cases x <;> simp only [Oper.upon] at hh ⊢ <;> first | exact hq _ _ _ hh | exact hh
theorem wpList_mono {ops : Array Oper} {Q1 Q2 : Exit → Act → World → Prop} (hq : ∀ e a w, Q1 e a w → Q2 e a w) {l : List Oper} :
    ∀ {a : Act} {w : World}, wpList P ops Q1 l a w → wpList P ops Q2 l a w := by
  induction l with
  | nil => intro a w h; exact hq _ _ _ h
  | cons o rest ih =>
    intro a w h
    unfold wpList at h ⊢
    split
    · rename_i hw
      rw [if_pos hw] at h
      rcases h with h | ⟨h1, a1, w1, h2⟩
      · exact .inl (upon_monoQ hq (Oper.wp_mono (fun a w h => ih h) h))
      · exact .inr ⟨h1, a1, w1, hq _ _ _ h2⟩
    · rename_i hw
      rw [if_neg hw] at h
      exact ih h
theorem wp_loopI {c : Code} {QQ : Exit → Act → World → Prop} (I : Nat → Act → World → Prop)
    (round : ∀ n a w, I n a w → c.wp P (Exit.then (fun a' w' => ∃ n', n' < n ∧ I n' a' w') QQ) a w) :
    ∀ {n : Nat} {a : Act} {w : World}, I n a w → (Code.loop c).wp P QQ a w := by
  intro n a w h₀ b k cs
  have key : ∀ n a w, I n a w →
      ∃ e a' w', QQ e a' w' ∧ Arrives P (lone (b.at a (.code c :: .inLoop c :: k)) cs w) b k cs e a' w' := by
    intro n
    induction n using Nat.strongRecOn with
    | _ n ih =>
      intro a w hI
      obtain ⟨e, a₁, w₁, hq, harr⟩ := round n a w hI b (.inLoop c :: k) cs
      cases e with
      | normal =>
        obtain ⟨n', hlt, hI₁⟩ := hq
        obtain ⟨e₂, a₂, w₂, hq₂, harr₂⟩ := ih n' hlt a₁ w₁ hI₁
        exact ⟨e₂, a₂, w₂, hq₂, .of_steps (Steps.trans harr (.one step_inLoop)) harr₂⟩
      | exit id => exact ⟨_, a₁, w₁, hq, .pass (x := .inLoop c) rfl (fun _ _ => .inl (by simp)) harr⟩
      | goto l => exact ⟨_, a₁, w₁, hq, .pass (x := .inLoop c) rfl (fun _ _ => .inl (by simp)) harr⟩
      | ret => exact ⟨_, a₁, w₁, hq, .pass (x := .inLoop c) rfl (fun _ _ => .inl (by simp)) harr⟩
      | panic ch => exact ⟨_, a₁, w₁, hq, .pass (x := .inLoop c) rfl (fun _ _ => .inl (by simp)) harr⟩
      | outgrown => exact ⟨_, a₁, w₁, hq, .pass (x := .inLoop c) rfl (fun _ _ => .inl (by simp)) harr⟩
  obtain ⟨e, a', w', hq, harr⟩ := key n a w h₀
  exact ⟨e, a', w', hq, .of_steps (.one step_loop) harr⟩
/-- A loop: what holds at each round's head, and a number that each round lowers. -/
theorem aw_loop {c : Code} (I : Nat → Tmps → Heap → Prop) {n : Nat} (h0 : I n T h)
    (round : ∀ n T h, I n T h → AW P G N c (thenK (fun T' h' => ∃ n', n' < n ∧ I n' T' h') Q) T h) : AW P G N (.loop c) Q T h := by
  intro m a w s
  refine wp_loopI (c := c) (fun n a' w' => ∃ (m' : Map) (T' : Tmps) (h' : Heap), SRel G N m' T' h' a' w' ∧ Grow m h w m' h' w' ∧ I n T' h') ?_
    (n := n) ⟨m, T, h, s, Grow.refl _ _ _, h0⟩
  rintro n a1 w1 ⟨m1, T1, h1, s1, g1, i1⟩
  refine wp_mono (round n T1 h1 i1 m1 a1 w1 s1) ?_
  rintro e a' w' ⟨m', T', h', s', g, q⟩
  cases e with
  | normal => obtain ⟨n', hn, hi⟩ := q; exact ⟨n', hn, m', T', h', s', g1.trans g, hi⟩
  | _ => exact ⟨m', T', h', s', g1.trans g, q⟩
/-! ### a region in the order of its text -/
def yieldedA (ops : Array Oper) (T : Tmps) (j : Nat) : Option Bool :=
  match ((ops[j]?).bind (·.dst)).map T with
  | some (.bool b) => some b
  | _ => none
theorem yielded_eq {m : Map} {a : Act} {w : World} (s : SRel G N m T h a w) (ops : Array Oper) (j : Nat)
    (hN : ∀ t, (ops[j]?).bind (·.dst) = some t → t < N) : yielded ops a.tmps j = yieldedA ops T j := by
  unfold yielded yieldedA
  cases ht : (ops[j]?).bind (·.dst) with
  | none => rfl
  | some t =>
    have hl := hN t ht
    have hv := s.tmp t
    have hg : a.tmps[t]? = some (a.tmps.getD t undef) := by
      rw [Array.getD_eq_getD_getElem?, Array.getElem?_eq_getElem (by rw [s.size]; exact hl)]; rfl
    simp only [Option.bind_some, Option.map_some, hg]
    generalize a.tmps.getD t undef = v at hv
    generalize T t = u at hv
    cases hv <;> rfl
def wantedA (ops : Array Oper) (T : Tmps) (o : Oper) : Bool := Region.wanted o (yieldedA ops T)
/-- An operation is well formed: its operands, what it writes, the guard that it looks at. -/
def operOk (G : Glo) (N : Nat) (ops : Array Oper) (o : Oper) : Bool :=
  o.op.operands.all (opnOk G) && (match o.dst with | some d => decide (d < N) | none => true) &&
    (match o.guard with | some (j, _) => (match (ops[j]?).bind (·.dst) with | some d => decide (d < N) | none => true) | none => true)
theorem wanted_eq {m : Map} {a : Act} {w : World} (s : SRel G N m T h a w) {ops : Array Oper} {o : Oper} (hok : operOk G N ops o = true) :
    Region.wanted o (yielded ops a.tmps) = wantedA ops T o := by
  unfold wantedA Region.wanted
  cases hg : o.guard with
  | none => rfl
  | some p =>
    obtain ⟨j, want⟩ := p
    simp only [operOk, hg, Bool.and_eq_true] at hok
    have h3 := hok.2
    simp only
    rw [yielded_eq s ops j]
    intro t ht
    rw [ht] at h3
    simpa using h3
/-- The operations of a region, one after the other. -/
def ARun (P : Program) (G : Glo) (N : Nat) (ops : Array Oper) (Q : Exit → Tmps → Heap → Prop) : List Oper → Tmps → Heap → Prop
  | [], T, h => Q .normal T h
  | o :: rest, T, h => operOk G N ops o = true ∧
      (wantedA ops T o = true → AOp P G o T h fun v h' => ARun P G N ops Q rest (put T o.dst v) h') ∧
      (wantedA ops T o = false → ARun P G N ops Q rest (put T o.dst undef) h)
theorem arun_sound {ops : Array Oper} (l : List Oper) : ∀ {T : Tmps} {h : Heap}, ARun P G N ops Q l T h → ∀ {m : Map} {a : Act} {w : World},
    SRel G N m T h a w →
    wpList P ops (fun e a' w' => ∃ m' T' h', SRel G N m' T' h' a' w' ∧ Grow m h w m' h' w' ∧ Q e T' h') l a w := by
  induction l with
  | nil => intro T h hr m a w s; exact ⟨m, T, h, s, Grow.refl _ _ _, hr⟩
  | cons o rest ih =>
    intro T h hr m a w s
    obtain ⟨hok, hy, hn⟩ := hr
    have hd : ∀ t, o.dst = some t → t < N := by
      intro t ht
      simp only [operOk, ht, Bool.and_eq_true, decide_eq_true_eq] at hok
      exact hok.1.2
    unfold wpList
    rw [wanted_eq s hok]
    split
    · rename_i hw
      left
      have hops : o.op.operands.all (opnOk G) = true := by
        simp only [operOk, Bool.and_eq_true] at hok; exact hok.1.1
      refine Oper.wp_mono ?_ (hy hw m a w (s.orel hops) s.wr _)
      rintro a' w' ⟨v, v', m', h', rfl, hv, hr, hg, k⟩
      have s' := s.put hg hr hv hd
      have := ih k s'
      refine wpList_mono ?_ this
      rintro e a2 w2 ⟨m2, T2, h2, s2, g2, q2⟩
      exact ⟨m2, T2, h2, s2, hg.trans g2, q2⟩
    · rename_i hw
      have hw' : wantedA ops T o = false := by simpa using hw
      have s' := s.put (Grow.refl _ _ _) s.wr (d := o.dst) (VRel.undef _ _) hd
      exact ih (hn hw') s'
theorem aw_region {id : Nat} {l : List Oper} (hr : ARun P G N l.toArray Q l T h) : AW P G N (.region id l.toArray false) Q T h :=
  fun m a w s => wp_region_lit (arun_sound l hr s)
end
end Go.Proofs.YtdldekkojjfllaaDoor.Am
namespace Go.Proofs.YtdldekkojjfllaaDoor.Am
open Go
set_option linter.unusedVariables false
set_option linter.unusedSimpArgs false
/-! ### values without an address -/
def af1 : Value → Bool
  | .bool _ | .int _ _ | .string _ | .nilFunc | .nilIface | .pointer none | .slice none _ _ => true
  | _ => false
def af : Value → Bool
  | .agg cs => cs.all af1
  | v => af1 v
theorem VRel.eq_af1 {n : Nat} {m : Map} {x v : Value} (h : VRel n m x v) (ha : af1 x = true) : v = x := by
  cases h <;> first | rfl | (simp [af1] at ha)
theorem VRel.eq_af {n : Nat} {m : Map} {x v : Value} (h : VRel n m x v) (ha : af x = true) : v = x := by
  cases h with
  | agg cs cs' hs hp =>
    congr 1
    apply Array.ext hs.symm
    intro i h1 h2
    simp only [af, Array.all_eq_true] at ha
    exact (hp i h2 h1).eq_af1 (ha i h2)
  | _ => first | rfl | (simp [af, af1] at ha)
/-! ### what a computation without memory comes to -/
def pureRun {α : Type} (P : Program) : Sem α → Option α
  | .pure a => some a
  | .program k => pureRun P (k P)
  | .mark _ k => pureRun P k
  | _ => none
theorem pureRun_sound {α : Type} {P : Program} (s : Sem α) : ∀ {v : α}, pureRun P s = some v → ∀ w, s.run P w = .ok v w := by
  induction s with
  | pure a => intro v h w; simp only [pureRun] at h; cases h; rfl
  | program k ih => intro v h w; exact ih P h w
  | mark m k ih => intro v h w; exact ih h w
  | _ => intro v h w; simp [pureRun] at h
theorem pureRun_bind' {α β : Type} {P : Program} (s : Sem α) (f : α → Sem β) : pureRun P (s.bind f) = (pureRun P s).bind fun a => pureRun P (f a) := by
  induction s with
  | pure a => rfl
  | program k ih => exact ih P
  | mark m k ih => exact ih
  | _ => rfl
theorem pureRun_bind {α β : Type} {P : Program} (s : Sem α) (f : α → Sem β) : pureRun P (s >>= f) = (pureRun P s).bind fun a => pureRun P (f a) := pureRun_bind' s f
theorem pureRun_pure {α : Type} {P : Program} (a : α) : pureRun P (Pure.pure a : Sem α) = some a := rfl
theorem pureRun_ite {α : Type} {P : Program} (c : Prop) [Decidable c] (x y : Sem α) : pureRun P (if c then x else y) = if c then pureRun P x else pureRun P y := by split <;> rfl
/-! ### a type's facts -/
def aggD : TypeDesc → Bool
  | .struct _ | .array _ _ => true
  | _ => false
def ldK (P : Program) (t : TypeId) : Option (Option Nat) :=
  match P.underlying t, P.info? t with
  | some d, some i => some (if aggD d = true then some i.size else none)
  | _, _ => none
def szT (P : Program) (t : TypeId) : Option Nat := (P.info? t).map (·.size)
def byT (P : Program) (t : TypeId) : Option Nat := (P.info? t).map (·.bytes)
def cellOk (v : Value) : Bool := flat v && constOk v
/-- The zero value's cells of a type, where they are plain and as many as the type has. -/
def zcT (P : Program) (t : TypeId) : Option (List Value) :=
  (P.info? t).bind fun i => i.zero.bind fun z =>
    if z.cells.size = i.size ∧ z.cells.toList.all cellOk = true then some z.cells.toList else none
theorem zcT_spec {P : Program} {t : TypeId} {l : List Value} (h : zcT P t = some l) :
    ∃ i z, P.info? t = some i ∧ i.zero = some z ∧ z.cells.toList = l ∧ z.cells.size = i.size ∧ ∀ v, v ∈ l → flat v = true ∧ constOk v = true := by
  unfold zcT at h
  cases hi : P.info? t with
  | none => rw [hi] at h; simp at h
  | some i =>
    rw [hi] at h
    simp only [Option.bind_some] at h
    cases hz : i.zero with
    | none => rw [hz] at h; simp at h
    | some z =>
      rw [hz] at h
      simp only [Option.bind_some] at h
      split at h
      · rename_i hk
        cases h
        refine ⟨i, z, rfl, hz, rfl, hk.1, fun v hv => ?_⟩
        have := List.all_eq_true.1 hk.2 v hv
        simpa [cellOk] using this
      · simp at h
def slT (P : Program) (t : TypeId) : Option TypeId := match P.underlying t with | some (.slice e) => some e | _ => none
def fldT (P : Program) (t : TypeId) (f : Nat) : Option (Nat × TypeId) :=
  match P.underlying t with
  | some (.struct fs) => (fs[f]?).map fun x => (x.offset, x.type)
  | _ => none
def arT (P : Program) (t : TypeId) : Option (Nat × TypeId) := match P.underlying t with | some (.array n e) => some (n, e) | _ => none
theorem run_typeInfo {P : Program} {t : TypeId} {i : TypeInfo} (h : P.info? t = some i) (w : World) : (typeInfo t).run P w = .ok i w := by
  simp [typeInfo, h]
theorem run_sizeOf {P : Program} {t : TypeId} {n : Nat} (h : szT P t = some n) (w : World) : (sizeOf t).run P w = .ok n w := by
  unfold szT at h
  cases hi : P.info? t with
  | none => rw [hi] at h; simp at h
  | some i => rw [hi] at h; simp at h; subst h; simp [sizeOf, run_typeInfo hi]
/-! ### cells -/
def getC (h : Heap) (id off : Nat) : Option Value :=
  match h[id]? with
  | some b => if b.k = 1 ∨ b.k = 2 then b.cs[off]? else none
  | none => none
def loadCs (h : Heap) (id off n : Nat) : Option (List Value) :=
  match h[id]? with
  | some b => if (b.k = 1 ∨ b.k = 2) ∧ off + n ≤ b.cs.length then some ((b.cs.drop off).take n) else none
  | none => none
def splice (cs : List Value) (off : Nat) : List Value → List Value
  | [] => cs
  | v :: vs => splice (cs.set off v) (off + 1) vs
theorem length_splice (vs : List Value) : ∀ (cs : List Value) (off : Nat), (splice cs off vs).length = cs.length := by
  induction vs with
  | nil => intro cs off; rfl
  | cons v vs ih => intro cs off; simp only [splice]; rw [ih]; simp
theorem splice_out (vs : List Value) : ∀ (cs : List Value) (off j : Nat), (j < off ∨ off + vs.length ≤ j) → (splice cs off vs)[j]? = cs[j]? := by
  induction vs with
  | nil => intro cs off j _; rfl
  | cons v vs ih =>
    intro cs off j h
    simp only [List.length_cons] at h
    simp only [splice]
    rw [ih _ _ _ (by omega), List.getElem?_set_ne (by omega)]
theorem splice_in (vs : List Value) : ∀ (cs : List Value) (off j : Nat), off + vs.length ≤ cs.length → j < vs.length → (splice cs off vs)[off + j]? = vs[j]? := by
  induction vs with
  | nil => intro cs off j _ h; exact absurd h (by simp)
  | cons v vs ih =>
    intro cs off j hl h
    simp only [List.length_cons] at hl h
    simp only [splice]
    rcases j with _ | j
    · rw [splice_out _ _ _ _ (by left; omega)]
      simp only [Nat.add_zero, List.getElem?_cons_zero]
      exact List.getElem?_set_self (by omega)
    · have := ih (cs.set off v) (off + 1) j (by simp; omega) (by omega)
      rw [show off + (j + 1) = off + 1 + j from by omega, this]; rfl
def setCs (h : Heap) (id off : Nat) (vs : List Value) : Option Heap :=
  match h[id]? with
  | some b => if b.k = 2 ∧ off + vs.length ≤ b.cs.length then some (h.set id ⟨2, b.e, splice b.cs off vs⟩) else none
  | none => none
/-- A value's cells, each of them one. -/
def vcs : Value → Option (List Value)
  | .agg cs => if cs.toList.all flat = true then some cs.toList else none
  | .tuple _ => none
  | v => some [v]
theorem VRel.vcs {n : Nat} {m : Map} {x v : Value} (h : VRel n m x v) {l : List Value} (hl : vcs x = some l) : v.cells.size = l.length ∧
    ∀ (j : Nat) (u : Value), l[j]? = some u → ∃ u', v.cells[j]? = some u' ∧ VRel n m u u' ∧ flat u = true := by
  have one : (∀ cs, x ≠ .agg cs) → (∀ cs, x ≠ .tuple cs) → v.cells.size = l.length ∧
      ∀ (j : Nat) (u : Value), l[j]? = some u → ∃ u', v.cells[j]? = some u' ∧ VRel n m u u' ∧ flat u = true := by
    intro h1 h2
    have hx : flat x = true := by cases x <;> first | rfl | exact absurd rfl (h1 _) | exact absurd rfl (h2 _)
    have hl' : l = [x] := by
      cases x <;> first | exact absurd rfl (h1 _) | exact absurd rfl (h2 _) | (simp only [Am.vcs] at hl; exact (Option.some.inj hl).symm)
    have hv : v.cells = #[v] := flat_cells (by rw [h.flat_eq]; exact hx)
    subst hl'
    rw [hv]
    refine ⟨rfl, fun j u hj => ?_⟩
    rcases j with _ | j
    · simp at hj; subst hj; exact ⟨v, rfl, h, hx⟩
    · simp at hj
  cases h with
  | agg cs cs' hs hp =>
    simp only [Am.vcs] at hl
    split at hl
    · rename_i hf
      cases hl
      refine ⟨by simp [Value.cells, hs], fun j u hj => ?_⟩
      simp only [Array.getElem?_toList] at hj
      obtain ⟨h1, h2⟩ := Array.getElem?_eq_some_iff.1 hj
      have h1' : j < cs'.size := by omega
      refine ⟨cs'[j]'h1', by simp only [Value.cells]; exact Array.getElem?_eq_getElem h1', ?_, ?_⟩
      · rw [← h2]; exact hp j h1 h1'
      · rw [List.all_eq_true] at hf; exact hf u (by rw [← h2]; simp)
    · exact absurd hl (by simp)
  | tuple cs cs' hs hp => simp [Am.vcs] at hl
  | _ => exact one (by intro cs hc; cases hc) (by intro cs hc; cases hc)
/-! ### what an operation does, in one world -/
def Does (P : Program) (G : Glo) (o : Oper) (a : Act) (m : Map) (h : Heap) (w : World) (v : Value) (h' : Heap) : Prop :=
  ∃ v' w' m', ((execOp a.eval o).run P w = .ok (.value v') w' ∨ ((execOp a.eval o).run P w = .ok .skip w' ∧ v' = undef)) ∧
    VRel h'.length m' v v' ∧ WRel G m' h' w' ∧ Grow m h w m' h' w'
theorem aop_of_does {P : Program} {G : Glo} {o : Oper} {T : Tmps} {h : Heap} {K : Value → Heap → Prop} {v : Value} {h' : Heap}
    (hd : ∀ m a w, ORel h.length m T a o → WRel G m h w → Does P G o a m h w v h') (hk : K v h') : AOp P G o T h K := by
  intro m a w ho hw Q
  obtain ⟨v', w', m', hr, hv, hw', hg⟩ := hd m a w ho hw
  unfold Oper.wp
  rcases hr with hr | ⟨hr, rfl⟩
  · rw [hr]; exact ⟨v, v', m', h', rfl, hv, hw', hg, hk⟩
  · rw [hr]; exact ⟨v, _, m', h', rfl, hv, hw', hg, hk⟩
theorem does_pure {P : Program} {G : Glo} {o : Oper} {a : Act} {m : Map} {h : Heap} {w : World} {v v' : Value} (hw : WRel G m h w)
    (hr : (execOp a.eval o).run P w = .ok (.value v') w) (hv : VRel h.length m v v') : Does P G o a m h w v h :=
  ⟨v', w, m, .inl hr, hv, hw, Grow.refl _ _ _⟩
/-! ### inversions -/
theorem inv_int {n : Nat} {m : Map} {k : IntKind} {i : Int} {v : Value} (h : VRel n m (.int k i) v) : v = .int k i := by cases h; rfl
theorem inv_string {n : Nat} {m : Map} {s : ByteArray} {v : Value} (h : VRel n m (.string s) v) : v = .string s := by cases h; rfl
theorem inv_ptr {n : Nat} {m : Map} {a : Addr} {v : Value} (h : VRel n m (.pointer (some a)) v) : a.spot = none ∧ a.block < n ∧ v = .pointer (some (place m a)) := by
  cases h; exact ⟨‹_›, ‹_›, rfl⟩
theorem inv_sliceNone {n : Nat} {m : Map} {l c : Nat} {v : Value} (h : VRel n m (.slice none l c) v) : v = .slice none l c := by cases h; rfl
theorem inv_agg {n : Nat} {m : Map} {cs : Array Value} {v : Value} (h : VRel n m (.agg cs) v) :
    ∃ cs', v = .agg cs' ∧ cs.size = cs'.size ∧ ∀ (i : Nat) (h : i < cs.size) (h' : i < cs'.size), VRel n m cs[i] cs'[i] := by
  cases h; exact ⟨_, rfl, ‹_›, ‹_›⟩
theorem inv_tuple {n : Nat} {m : Map} {cs : Array Value} {v : Value} (h : VRel n m (.tuple cs) v) :
    ∃ cs', v = .tuple cs' ∧ cs.size = cs'.size ∧ ∀ (i : Nat) (h : i < cs.size) (h' : i < cs'.size), VRel n m cs[i] cs'[i] := by
  cases h; exact ⟨_, rfl, ‹_›, ‹_›⟩
/-- What is known of a slice that is not nil. -/
structure SlR (n : Nat) (m : Map) (a : Addr) (l c : Nat) (y : Addr) (c' : Nat) : Prop where
  lt : a.block < n
  spot : y.spot = none
  blk : y.block = (m a.block).b
  cap : c ≤ c'
  pl : l ≠ 0 ∨ c ≠ 0 → y = place m a
  ex : a.spot = none → c' = c ∧ y = place m a
  inx : a.spot ≠ none → a.spot = some 0 ∧ (m a.block).o ≤ y.off ∧ y.off + c' * (m a.block).e ≤ (m a.block).o + (m a.block).room
theorem inv_slice {n : Nat} {m : Map} {a : Addr} {l c : Nat} {v : Value} (h : VRel n m (.slice (some a) l c) v) :
    ∃ y c', v = .slice (some y) l c' ∧ SlR n m a l c y c' := by
  cases h with
  | slice _ _ _ ha hn => exact ⟨_, _, rfl, ⟨hn, rfl, rfl, Nat.le_refl _, fun _ => rfl, fun _ => ⟨rfl, rfl⟩, fun h => absurd ha h⟩⟩
  | sliceIn _ y _ _ c' ha hn hc hy hb hp hlo hhi =>
    exact ⟨y, c', rfl, ⟨hn, hy, hb, hc, hp, fun h => absurd (ha.symm.trans h) (by simp), fun _ => ⟨ha, hlo, hhi⟩⟩⟩
theorem SlR.vrel {n : Nat} {m : Map} {a : Addr} {l c : Nat} {y : Addr} {c' : Nat} (s : SlR n m a l c y c') : VRel n m (.slice (some a) l c) (.slice (some y) l c') := by
  by_cases hs : a.spot = none
  · obtain ⟨h1, h2⟩ := s.ex hs
    subst h1; subst h2
    exact .slice a l c' hs s.lt
  · obtain ⟨h1, h2, h3⟩ := s.inx hs
    exact .sliceIn a y l c c' h1 s.lt s.cap s.spot s.blk s.pl h2 h3
end Go.Proofs.YtdldekkojjfllaaDoor.Am
namespace Go.Proofs.YtdldekkojjfllaaDoor.Am
open Go
set_option linter.unusedVariables false
set_option linter.unusedSimpArgs false
section
variable {P : Program} {G : Glo} {m : Map} {h : Heap} {w : World}
theorem WRel.getC (r : WRel G m h w) {id off : Nat} {v : Value} (hc : Am.getC h id off = some v) :
    ∃ v', w.cell? ⟨(m id).b, (m id).o + off, none⟩ = some v' ∧ VRel h.length m v v' ∧ flat v = true := by
  unfold Am.getC at hc
  cases hb : h[id]? with
  | none => rw [hb] at hc; simp at hc
  | some b =>
    rw [hb] at hc
    simp only at hc
    split at hc
    · rename_i hk; exact r.cell id b hb hk off v hc
    · simp at hc
theorem WRel.loadCs (r : WRel G m h w) {id off n : Nat} {l : List Value} (hl : Am.loadCs h id off n = some l) :
    l.length = n ∧ ∃ l' : List Value, l'.length = n ∧ (∀ (j : Nat) (v' : Value), l'[j]? = some v' → w.cell? ⟨(m id).b, (m id).o + off + j, none⟩ = some v') ∧
      ∀ (j : Nat) (v : Value), l[j]? = some v → ∃ v', l'[j]? = some v' ∧ VRel h.length m v v' ∧ flat v = true := by
  unfold Am.loadCs at hl
  cases hb : h[id]? with
  | none => rw [hb] at hl; simp at hl
  | some b =>
    rw [hb] at hl
    simp only at hl
    split at hl
    · rename_i hk
      obtain ⟨hk, hn⟩ := hk
      cases hl
      refine ⟨by simp; omega, (List.range n).map (fun j => (w.cell? ⟨(m id).b, (m id).o + off + j, none⟩).getD undef), by simp, ?_, ?_⟩
      · intro j v' hj
        obtain ⟨h1, h2⟩ := List.getElem?_eq_some_iff.1 hj
        simp at h1
        have hc : ∃ u, b.cs[off + j]? = some u := ⟨_, List.getElem?_eq_getElem (by omega)⟩
        obtain ⟨u, hu⟩ := hc
        obtain ⟨u', q1, _, _⟩ := r.cell id b hb hk (off + j) u hu
        rw [← Nat.add_assoc] at q1
        simp only [List.getElem_map, List.getElem_range, q1, Option.getD_some] at h2
        rw [q1, h2]
      · intro j v hj
        have hjn : j < n := by
          obtain ⟨h1, _⟩ := List.getElem?_eq_some_iff.1 hj
          simp at h1; omega
        rw [List.getElem?_take_of_lt hjn, List.getElem?_drop] at hj
        obtain ⟨u', q1, q2, q3⟩ := r.cell id b hb hk (off + j) v hj
        rw [← Nat.add_assoc] at q1
        exact ⟨u', by simp [hjn, q1], q2, q3⟩
    · simp at hl
theorem run_loadCells_at {a : Addr} (ha : a.spot = none) {l' : List Value}
    (hc : ∀ (j : Nat) (v' : Value), l'[j]? = some v' → w.cell? ⟨a.block, a.off + j, none⟩ = some v') :
    (loadCells a l'.length).run P w = .ok l'.toArray w :=
  run_loadCells_list w a l' (fun j v hj => by rw [add_none a ha]; exact hc j v hj)
def ldv (P : Program) (t : TypeId) (h : Heap) : Value → Option Value
  | .pointer (some a) => match ldK P t with
    | some (some n) => (Am.loadCs h a.block a.off n).map fun l => .agg l.toArray
    | some none => Am.getC h a.block a.off
    | none => none
  | _ => none
theorem run_isAgg {t : TypeId} {d : TypeDesc} (hd : P.underlying t = some d) : (isAgg t).run P w =
    .ok (aggD d) w := by
  simp only [isAgg, Sem.run_bind, run_underlying hd, Result.andThen_ok]
  cases d <;> rfl
theorem VRel.agg_list {n : Nat} {m : Map} {l l' : List Value} (hl : l.length = l'.length)
    (hp : ∀ (j : Nat) (v : Value), l[j]? = some v → ∃ v', l'[j]? = some v' ∧ VRel n m v v') : VRel n m (.agg l.toArray) (.agg l'.toArray) := by
  refine .agg _ _ (by simp [hl]) fun i h1 h2 => ?_
  simp only [List.size_toArray] at h1 h2
  obtain ⟨v', q1, q2⟩ := hp i l[i] (List.getElem?_eq_getElem h1)
  rw [List.getElem?_eq_getElem h2] at q1
  simp only [List.getElem_toArray]
  rw [Option.some.inj q1]; exact q2
theorem run_ldv (r : WRel G m h w) {t : TypeId} {x x' v : Value} (hx : VRel h.length m x x') (hv : ldv P t h x = some v) :
    ∃ v', (Instr.loadAt t x').run P w = .ok v' w ∧ VRel h.length m v v' := by
  unfold ldv at hv
  split at hv
  · rename_i a
    obtain ⟨hs, hlt, rfl⟩ := inv_ptr hx
    have hK : ∀ k, ldK P t = some k → ∃ d i, P.underlying t = some d ∧ P.info? t = some i ∧ k = if aggD d = true then some i.size else none := by
      intro k hk
      unfold ldK at hk
      cases hu : P.underlying t with
      | none => rw [hu] at hk; simp at hk
      | some d =>
        cases hi : P.info? t with
        | none => rw [hu, hi] at hk; simp at hk
        | some i =>
          rw [hu, hi] at hk
          exact ⟨d, i, rfl, rfl, (Option.some.inj hk).symm⟩
    cases hk : ldK P t with
    | none => rw [hk] at hv; simp at hv
    | some k =>
      obtain ⟨d, i, hu, hi, hkd⟩ := hK k hk
      rw [hk] at hv
      cases k with
      | some n =>
        simp only at hv
        cases hl : Am.loadCs h a.block a.off n with
        | none => rw [hl] at hv; simp at hv
        | some l =>
          rw [hl] at hv
          simp only [Option.map_some] at hv
          cases hv
          obtain ⟨h1, l', h2, h3, h4⟩ := r.loadCs hl
          have hag : aggD d = true ∧ i.size = n := by
            by_cases ha : aggD d = true
            · rw [if_pos ha] at hkd; exact ⟨ha, (Option.some.inj hkd).symm⟩
            · rw [if_neg ha] at hkd; cases hkd
          refine ⟨.agg l'.toArray, ?_, VRel.agg_list (by omega) (fun j v hj => by obtain ⟨v', q1, q2, _⟩ := h4 j v hj; exact ⟨v', q1, q2⟩)⟩
          simp only [Instr.loadAt, Instr.sureAddr, pure_bind, loadVar, Sem.run_bind, run_isAgg hu, Result.andThen_ok, hag.1, if_true]
          rw [run_sizeOf (n := n) (by simp [szT, hi, hag.2])]
          simp only [Result.andThen_ok, Sem.run_bind]
          rw [← h2, run_loadCells_at (a := place m a) rfl h3]
          rfl
      | none =>
        simp only at hv
        have hag : aggD d = false := by
          by_cases ha : aggD d = true
          · rw [if_pos ha] at hkd; cases hkd
          · simpa using ha
        obtain ⟨v', q1, q2, q3⟩ := r.getC hv
        refine ⟨v', ?_, q2⟩
        simp only [Instr.loadAt, Instr.sureAddr, pure_bind, loadVar, Sem.run_bind, run_isAgg hu, Result.andThen_ok, hag, Bool.false_eq_true, if_false]
        rw [run_load]
        simp only [place, q1]
  · simp at hv
def stv (P : Program) (t : TypeId) (h : Heap) (x y : Value) : Option Heap :=
  match x, vcs y with
  | .pointer (some a), some l => if szT P t = some l.length then Am.setCs h a.block a.off l else none
  | _, _ => none
theorem run_stv (r : WRel G m h w) {t : TypeId} {x x' y y' : Value} {h' : Heap} (hx : VRel h.length m x x') (hy : VRel h.length m y y')
    (hv : stv P t h x y = some h') : ∃ w', (Instr.storeAt t x' y').run P w = .ok () w' ∧ WRel G m h' w' ∧ Grow m h w m h' w' ∧ h'.length = h.length := by
  unfold stv at hv
  split at hv
  · rename_i x a l hl
    split at hv
    · rename_i hsz
      obtain ⟨hs, hlt, rfl⟩ := inv_ptr hx
      obtain ⟨hn, hp⟩ := hy.vcs hl
      unfold Am.setCs at hv
      cases hb : h[a.block]? with
      | none => rw [hb] at hv; simp at hv
      | some b =>
        rw [hb] at hv
        simp only at hv
        split at hv
        · rename_i hk
          obtain ⟨hk, hfit⟩ := hk
          cases hv
          obtain ⟨re, rl, rr⟩ := r.room a.block b hb hk
          have hlen : l.length = y'.cells.toList.length := by simp [hn]
          refine ⟨Am.setMany w (m a.block).b ((m a.block).o + a.off) y'.cells.toList, ?_, ?_, Grow.setMany r hb hk _ _ _ (.inl rfl), by simp⟩
          · simp only [Instr.storeAt, Instr.sureAddr, pure_bind, storeVar, Sem.run_bind]
            rw [run_sizeOf hsz]
            simp only [Result.andThen_ok, hn, ne_eq, not_true_eq_false, if_false]
            have := run_storeCells (P := P) y'.cells.toList w (place m a) 0 rfl
              (fun u hu => by
                obtain ⟨j, hj, he⟩ := List.mem_iff_getElem.1 hu
                have hj' : j < l.length := by omega
                obtain ⟨u', q1, q2, q3⟩ := hp j l[j] (List.getElem?_eq_getElem hj')
                have hyj : y'.cells[j]? = some u := by
                  rw [← Array.getElem?_toList, List.getElem?_eq_getElem hj, he]
                rw [hyj] at q1
                cases q1
                rw [q2.flat_eq]; exact q3)
              (fun j hj => by
                have := rr (a.off + j) (by omega)
                simp only [place, Nat.add_zero]
                rw [Nat.add_assoc]; exact this)
            have h0 : (place m a).off + 0 = (m a.block).o + a.off := rfl
            rw [h0] at this
            exact this
          · exact r.setMany hb hk a.off l y'.cells.toList hlen
              (fun j v hj => by
                obtain ⟨u', q1, q2, q3⟩ := hp j v hj
                exact ⟨u', by rw [Array.getElem?_toList]; exact q1, q2, q3⟩)
              (by omega) _ (by rw [length_splice]; exact rl)
              (fun j v hj ho => by rw [splice_out _ _ _ _ ho] at hj; exact hj)
              (fun j v hj he => by rw [splice_in _ _ _ _ hfit hj] at he; exact he)
        · simp at hv
    · simp at hv
  · simp at hv
/-- A new block, and its address. -/
def newB (h : Heap) (e : Nat) (cs : List Value) : Value × Heap := (.pointer (some ⟨h.length, 0, none⟩), h ++ [⟨2, e, cs⟩])
theorem new_does (r : WRel G m h w) (t : TypeId) (e : Nat) (cs : List Value) (cs' : Array Value) (hl : cs.length ≤ cs'.size)
    (hv : ∀ (j : Nat) (v : Value), cs[j]? = some v → ∃ v', cs'[j]? = some v' ∧ VRel h.length m v v' ∧ flat v = true) :
    ∃ m', VRel (h ++ [(⟨2, e, cs⟩ : Blk)]).length m' (.pointer (some ⟨h.length, 0, none⟩)) (.pointer (some ⟨w.heap.size, 0, none⟩)) ∧
      WRel G m' (h ++ [⟨2, e, cs⟩]) (w.alloc (.cells cs' t)) ∧ Grow m h w m' (h ++ [⟨2, e, cs⟩]) (w.alloc (.cells cs' t)) ∧ m' h.length = ⟨w.heap.size, 0, e, cs'.size⟩ := by
  refine ⟨m.put h.length ⟨w.heap.size, 0, e, cs'.size⟩, ?_, r.alloc t e cs cs' hl hv, Grow.alloc _ _ _ _ _ _ rfl, Map.put_same _ _ _⟩
  have := VRel.ptr (n := (h ++ [(⟨2, e, cs⟩ : Blk)]).length) (m := m.put h.length ⟨w.heap.size, 0, e, cs'.size⟩) ⟨h.length, 0, none⟩ rfl (by simp)
  unfold place at this
  rw [Map.put_same] at this
  exact this
theorem run_alloc_zc (r : WRel G m h w) {t : TypeId} {z : List Value} (hz : zcT P t = some z) :
    ∃ v' w' m', (Instr.alloc t true (.tuple #[])).run P w = .ok v' w' ∧ VRel (newB h 1 z).2.length m' (newB h 1 z).1 v' ∧ WRel G m' (newB h 1 z).2 w' ∧
      Grow m h w m' (newB h 1 z).2 w' := by
  obtain ⟨i, zv, hi, hzz, hzl, hsz, hall⟩ := zcT_spec hz
  subst hzl
  obtain ⟨m', q1, q2, q3, _⟩ := new_does r t 1 zv.cells.toList zv.cells (by simp) (fun j v hj => by
    rw [Array.getElem?_toList] at hj
    refine ⟨v, hj, ?_⟩
    have hm : v ∈ zv.cells.toList := by
      obtain ⟨h1, h2⟩ := Array.getElem?_eq_some_iff.1 hj
      rw [← h2]; simp
    have := hall v hm
    exact ⟨VRel.const _ _ this.2, this.1⟩)
  refine ⟨_, _, m', ?_, q1, q2, q3⟩
  simp only [Instr.alloc, zeroValue, Sem.run_bind, run_typeInfo hi, Result.andThen_ok, hzz, Sem.run_pure, newVar, newRow, run_newObj]
  rfl
theorem run_box (r : WRel G m h w) {t : TypeId} {x x' : Value} {l : List Value} (hx : VRel h.length m x x') (hl : vcs x = some l) :
    ∃ v' w' m', (Instr.box t x').run P w = .ok v' w' ∧ VRel (newB h 1 l).2.length m' (newB h 1 l).1 v' ∧ WRel G m' (newB h 1 l).2 w' ∧
      Grow m h w m' (newB h 1 l).2 w' := by
  obtain ⟨hn, hp⟩ := hx.vcs hl
  obtain ⟨m', q1, q2, q3, _⟩ := new_does r t 1 l x'.cells (by omega) hp
  refine ⟨_, _, m', ?_, q1, q2, q3⟩
  simp only [Instr.box, newVar, newRow, Sem.run_bind, run_newObj, Result.andThen_ok, Sem.run_pure]
  rfl
end
end Go.Proofs.YtdldekkojjfllaaDoor.Am
namespace Go.Proofs.YtdldekkojjfllaaDoor.Am
open Go
set_option linter.unusedVariables false
set_option linter.unusedSimpArgs false
/-- Cells and their likes. -/
def LR (n : Nat) (m : Map) (l l' : List Value) : Prop :=
  l.length = l'.length ∧ ∀ (j : Nat) (v : Value), l[j]? = some v → ∃ v', l'[j]? = some v' ∧ VRel n m v v' ∧ flat v = true
theorem LR.set {n : Nat} {m : Map} {l l' : List Value} (hl : LR n m l l') {v v' : Value} (hv : VRel n m v v') (hf : flat v = true) (off : Nat) :
    LR n m (l.set off v) (l'.set off v') := by
  refine ⟨by simp [hl.1], fun j u hj => ?_⟩
  by_cases ho : off = j
  · subst ho
    have hlt : off < l.length := by
      obtain ⟨h1, _⟩ := List.getElem?_eq_some_iff.1 hj; simpa using h1
    rw [List.getElem?_set_self hlt] at hj
    cases hj
    exact ⟨v', List.getElem?_set_self (by rw [← hl.1]; exact hlt), hv, hf⟩
  · rw [List.getElem?_set_ne ho] at hj ⊢
    exact hl.2 j u hj
theorem LR.splice {n : Nat} {m : Map} (vs : List Value) : ∀ {l l' vs' : List Value} (hl : LR n m l l') (hv : LR n m vs vs') (off : Nat),
    LR n m (Am.splice l off vs) (Am.splice l' off vs') := by
  induction vs with
  | nil =>
    intro l l' vs' hl hv off
    have : vs' = [] := by have := hv.1; simp at this; exact List.eq_nil_of_length_eq_zero (by simpa using this.symm)
    subst this; exact hl
  | cons v vs ih =>
    intro l l' vs' hl hv off
    cases vs' with
    | nil => have := hv.1; simp at this
    | cons v' vs' =>
      obtain ⟨u', h1, h2, h3⟩ := hv.2 0 v rfl
      simp at h1; subst h1
      simp only [Am.splice]
      refine ih (hl.set h2 h3 off) ⟨by have := hv.1; simpa using this, fun j u hj => ?_⟩ (off + 1)
      have := hv.2 (j + 1) u (by simpa using hj)
      simpa using this
theorem LR.append {n : Nat} {m : Map} {l l' k k' : List Value} (hl : LR n m l l') (hk : LR n m k k') : LR n m (l ++ k) (l' ++ k') := by
  refine ⟨by simp [hl.1, hk.1], fun j u hj => ?_⟩
  by_cases h : j < l.length
  · rw [List.getElem?_append_left h] at hj
    rw [List.getElem?_append_left (by rw [← hl.1]; exact h)]
    exact hl.2 j u hj
  · rw [List.getElem?_append_right (by omega)] at hj
    rw [List.getElem?_append_right (by rw [← hl.1]; omega), ← hl.1]
    exact hk.2 _ u hj
theorem LR.const {n : Nat} {m : Map} {l : List Value} (h : ∀ v, v ∈ l → flat v = true ∧ constOk v = true) : LR n m l l :=
  ⟨rfl, fun j v hj => by
    have hm : v ∈ l := List.mem_of_getElem? hj
    exact ⟨v, hj, VRel.const _ _ (h v hm).2, (h v hm).1⟩⟩
/-! ### zero cells -/
def zeros (z : List Value) (c : Nat) : List Value := (List.replicate c z).flatten
theorem length_zeros (z : List Value) (c : Nat) : (zeros z c).length = c * z.length := by
  unfold zeros; induction c with
  | zero => simp
  | succ c ih => rw [List.replicate_succ, List.flatten_cons, List.length_append, ih, Nat.succ_mul, Nat.add_comm]
theorem mem_zeros {z : List Value} {c : Nat} {v : Value} (h : v ∈ zeros z c) : v ∈ z := by
  unfold zeros at h
  obtain ⟨l, h1, h2⟩ := List.mem_flatten.1 h
  rw [List.mem_replicate] at h1; rw [← h1.2]; exact h2
theorem get_zeros (z : List Value) (c : Nat) : ∀ j, j < c * z.length → (zeros z c)[j]? = z[j % z.length]? := by
  unfold zeros
  induction c with
  | zero => intro j h; simp at h
  | succ c ih =>
    intro j h
    rw [List.replicate_succ, List.flatten_cons]
    by_cases hj : j < z.length
    · rw [List.getElem?_append_left hj, Nat.mod_eq_of_lt hj]
    · rw [List.getElem?_append_right (by omega), ih _ (by rw [Nat.succ_mul] at h; omega)]
      rw [Nat.mod_eq_sub_mod (a := j) (by omega)]
theorem madeCells_list (z : Array Value) (c : Nat) : (madeCells z (c * z.size)).toList = zeros z.toList c := by
  apply List.ext_getElem?
  intro j
  by_cases hj : j < c * z.size
  · rw [get_zeros _ _ _ (by simpa using hj)]
    have hz : 0 < z.size := by rcases Nat.eq_zero_or_pos z.size with h | h; · rw [h] at hj; simp at hj
                               · exact h
    have hm : j % z.size < z.size := Nat.mod_lt _ hz
    simp only [madeCells, Array.toList_map, Array.toList_range, List.getElem?_map, Array.length_toList]
    rw [List.getElem?_range hj, Option.map_some, Array.getElem?_toList, Array.getElem?_eq_getElem hm, getElem!_pos z _ hm]
  · rw [List.getElem?_eq_none (by simp [madeCells]; omega), List.getElem?_eq_none (by rw [length_zeros]; simp; omega)]
section
variable {P : Program} {G : Glo} {m : Map} {h : Heap} {w : World}
theorem slT_spec {t e : TypeId} (hs : slT P t = some e) : P.underlying t = some (.slice e) := by
  unfold slT at hs
  split at hs
  · rename_i hu; cases hs; exact hu
  · cases hs
def newS (h : Heap) (sp : Option Nat) (e l c : Nat) (cs : List Value) : Value × Heap := (.slice (some ⟨h.length, 0, sp⟩) l c, h ++ [⟨2, e, cs⟩])
def mkS (P : Program) (t : TypeId) (h : Heap) (l c : Value) : Option (Value × Heap) :=
  match slT P t, l, c with
  | some e, .int _ l, .int _ c => match zcT P e, byT P e with
    | some z, some by' => if 0 ≤ l ∧ l ≤ c ∧ (by' : Int) * c ≤ 281474976710656 ∧ c ≤ 9223372036854775807 then
        some (newS h none z.length l.toNat c.toNat (zeros z c.toNat)) else none
    | _, _ => none
  | _, _, _ => none
theorem vrel_new {b : Nat} {e : Nat} {cs : List Value} {m' : Map} {p : Pl} (hp : m' h.length = p) (ho : p.o = 0) (l c : Nat) :
    VRel (h ++ [(⟨2, e, cs⟩ : Blk)]).length m' (.slice (some ⟨h.length, 0, none⟩) l c) (.slice (some ⟨p.b, 0, none⟩) l c) := by
  have := VRel.slice (n := (h ++ [(⟨2, e, cs⟩ : Blk)]).length) (m := m') ⟨h.length, 0, none⟩ l c rfl (by simp)
  unfold place at this
  simp only [hp, ho] at this
  exact this
theorem run_mkS (r : WRel G m h w) {t : TypeId} {l l' c c' v : Value} {h' : Heap} (hl : VRel h.length m l l') (hc : VRel h.length m c c')
    (hv : mkS P t h l c = some (v, h')) :
    ∃ v' w' m', (Instr.makeSlice t l' c').run P w = .ok v' w' ∧ VRel h'.length m' v v' ∧ WRel G m' h' w' ∧ Grow m h w m' h' w' := by
  unfold mkS at hv
  split at hv
  · rename_i e kl l kc c hs
    have hu := slT_spec hs
    rw [inv_int hl, inv_int hc]
    split at hv
    · rename_i z by' hz hb
      split at hv
      · rename_i hk
        obtain ⟨k1, k2, k3, k4⟩ := hk
        cases hv
        obtain ⟨i, zv, hi, hzz, hzl, hsz, hall⟩ := zcT_spec hz
        have hby : i.bytes = by' := by unfold byT at hb; rw [hi] at hb; simpa using hb
        subst hzl
        have hrun := run_make (P := P) w t e i zv hu hi hzz kl kc l c k1 k2 (by rw [hby]; exact k3) k4
        obtain ⟨m', q1, q2, q3, q4⟩ := new_does r e zv.cells.toList.length (zeros zv.cells.toList c.toNat) (madeCells zv.cells (c.toNat * i.size))
          (by rw [length_zeros, size_madeCells]; simp [hsz])
          (fun j v hj => by
            rw [← hsz, ← Array.getElem?_toList, madeCells_list]
            have hm := mem_zeros (List.mem_of_getElem? hj)
            exact ⟨v, hj, VRel.const _ _ (hall v hm).2, (hall v hm).1⟩)
        exact ⟨_, _, m', hrun, vrel_new (b := 0) q4 rfl _ _, q2, q3⟩
      · cases hv
    · cases hv
  · cases hv
/-! ### literals -/
def fillL (place : Nat → Option (Nat × Nat)) (cells : List Value) : List (Nat × Value) → Option (List Value)
  | [] => some cells
  | (i, v) :: rest =>
    match place i, vcs v with
    | some (off, size), some l => if l.length = size ∧ off + l.length ≤ cells.length then fillL place (splice cells off l) rest else none
    | _, _ => none
theorem foldl_splice (off : Nat) (l : List Value) : ∀ (k : Nat) (cells : Array Value),
    ((l.zipIdx k).foldl (fun cs (p : Value × Nat) => cs.setIfInBounds (off + p.2) p.1) cells).toList = splice cells.toList (off + k) l := by
  induction l with
  | nil => intro k cells; rfl
  | cons v l ih =>
    intro k cells
    simp only [List.zipIdx_cons, List.foldl_cons, splice]
    rw [ih]
    simp only [Array.toList_setIfInBounds]
    rw [Nat.add_assoc]
theorem fill_rel {n : Nat} {place' : Nat → Option (Nat × Nat)} (parts : List (Nat × Value)) :
    ∀ {cells : List Value} {cells' : Array Value} {parts' : List (Nat × Value)} {out : List Value}, LR n m cells cells'.toList →
    parts.length = parts'.length → (∀ (j : Nat) (i : Nat) (v : Value), parts[j]? = some (i, v) → ∃ v', parts'[j]? = some (i, v') ∧ VRel n m v v') →
    fillL place' cells parts = some out → ∃ out', Instr.fill place' cells' parts' = some out' ∧ LR n m out out'.toList := by
  induction parts with
  | nil =>
    intro cells cells' parts' out hc hl hp hf
    have : parts' = [] := by simp at hl; exact List.eq_nil_of_length_eq_zero hl.symm
    subst this
    simp only [fillL] at hf
    cases hf
    exact ⟨cells', rfl, hc⟩
  | cons p rest ih =>
    intro cells cells' parts' out hc hl hp hf
    obtain ⟨i, v⟩ := p
    cases parts' with
    | nil => simp at hl
    | cons p' rest' =>
      obtain ⟨v', h1, h2⟩ := hp 0 i v rfl
      simp at h1; subst h1
      simp only [fillL] at hf
      simp only [Instr.fill]
      cases hpl : place' i with
      | none => rw [hpl] at hf; simp at hf
      | some q =>
        obtain ⟨off, size⟩ := q
        rw [hpl] at hf
        cases hvc : vcs v with
        | none => rw [hvc] at hf; simp at hf
        | some l =>
          rw [hvc] at hf
          simp only at hf
          split at hf
          · rename_i hk
            obtain ⟨k1, k2⟩ := hk
            obtain ⟨g1, g2⟩ := h2.vcs hvc
            have hlr : LR n m l v'.cells.toList := ⟨by simp [g1], fun j u hj => by
              obtain ⟨u', q1, q2, q3⟩ := g2 j u hj
              exact ⟨u', by rw [Array.getElem?_toList]; exact q1, q2, q3⟩⟩
            have hsz : cells.length = cells'.size := by have := hc.1; simpa using this
            have hcond : (decide (v'.cells.size ≠ size) || decide (off + v'.cells.size > cells'.size)) = false := by
              simp only [Bool.or_eq_false_iff, decide_eq_false_iff_not]; omega
            simp only [hcond, Bool.false_eq_true, if_false]
            have hfold : (v'.cells.zipIdx.foldl (fun cs (p : Value × Nat) => cs.setIfInBounds (off + p.2) p.1) cells').toList = splice cells'.toList off v'.cells.toList := by
              rw [← Array.foldl_toList, Array.toList_zipIdx, foldl_splice]; rfl
            refine ih (cells' := v'.cells.zipIdx.foldl (fun cs (p : Value × Nat) => cs.setIfInBounds (off + p.2) p.1) cells') (parts' := rest') ?_
              (by simpa using hl) (fun j i2 u hj => by have := hp (j + 1) i2 u (by simpa using hj); simpa using this) hf
            rw [hfold]
            exact hc.splice l hlr off
          · cases hf
def bsl (P : Program) (t : TypeId) (h : Heap) (len : Nat) (parts : List (Nat × Value)) : Option (Value × Heap) :=
  match slT P t with
  | some e => match zcT P e with
    | some z => if len * z.length ≤ 16777216 then
        (fillL (fun i => some (i * z.length, z.length)) (zeros z len) parts).map fun out => newS h none z.length len len out
      else none
    | none => none
  | none => none
theorem map_range_zero (z : Array Value) (len : Nat) (zero : Array Value) (hz : len * z.size = 0 ∨ zero = z) :
    ((Array.range (len * z.size)).map (zero[· % zero.size]!)).toList = zeros z.toList len := by
  rcases hz with hz | hz
  · rw [hz]
    have : (zeros z.toList len) = [] := List.eq_nil_of_length_eq_zero (by rw [length_zeros]; simpa using hz)
    rw [this]; simp
  · subst hz
    exact madeCells_list zero len
theorem run_bsl (r : WRel G m h w) {t : TypeId} {len : Nat} {parts parts' : Array (Nat × Value)} {v : Value} {h' : Heap}
    (hl : parts.toList.length = parts'.toList.length)
    (hp : ∀ (j : Nat) (i : Nat) (v : Value), parts.toList[j]? = some (i, v) → ∃ v', parts'.toList[j]? = some (i, v') ∧ VRel h.length m v v')
    (hv : bsl P t h len parts.toList = some (v, h')) :
    ∃ v' w' m', (Instr.buildSlice t len parts').run P w = .ok v' w' ∧ VRel h'.length m' v v' ∧ WRel G m' h' w' ∧ Grow m h w m' h' w' := by
  unfold bsl at hv
  cases hs : slT P t with
  | none => rw [hs] at hv; simp at hv
  | some e =>
    rw [hs] at hv
    simp only at hv
    have hu := slT_spec hs
    cases hz : zcT P e with
    | none => rw [hz] at hv; simp at hv
    | some z =>
      rw [hz] at hv
      simp only at hv
      split at hv
      · rename_i hlim
        obtain ⟨i, zv, hi, hzz, hzl, hsz, hall⟩ := zcT_spec hz
        subst hzl
        cases hf : fillL (fun i => some (i * zv.cells.toList.length, zv.cells.toList.length)) (zeros zv.cells.toList len) parts.toList with
        | none => rw [hf] at hv; simp at hv
        | some out =>
          rw [hf] at hv
          simp only [Option.map_some] at hv
          cases hv
          have hsize : (sizeOf e).run P w = .ok i.size w := run_sizeOf (by simp [szT, hi]) w
          simp only [Array.length_toList] at hlim hf
          have hlim' : ¬ (len * i.size > 2 ^ 24) := by rw [← hsz]; omega
          obtain ⟨zero, hz2, hz3⟩ : ∃ zero : Array Value, (len * zv.cells.size = 0 ∨ zero = zv.cells) ∧
              ((len * i.size = 0 ∧ zero = #[]) ∨ (len * i.size ≠ 0 ∧ zero = zv.cells)) := by
            by_cases h0 : len * i.size = 0
            · exact ⟨#[], .inl (by rw [hsz]; exact h0), .inl ⟨h0, rfl⟩⟩
            · exact ⟨zv.cells, .inr rfl, .inr ⟨h0, rfl⟩⟩
          have hlr : LR h.length m (zeros zv.cells.toList len) ((Array.range (len * i.size)).map (zero[· % zero.size]!)).toList := by
            rw [← hsz, map_range_zero zv.cells len zero hz2]
            exact LR.const fun v hv => hall v (mem_zeros hv)
          obtain ⟨out', h1, h2⟩ := fill_rel (place' := fun i => some (i * zv.cells.size, zv.cells.size)) parts.toList hlr hl hp hf
          obtain ⟨m', q1, q2, q3, q4⟩ := new_does r e zv.cells.toList.length out out' (by rw [h2.1]; simp)
            (fun j v hj => by have := h2.2 j v hj; rw [Array.getElem?_toList] at this; exact this)
          refine ⟨_, _, m', ?_, vrel_new (b := 0) q4 rfl _ _, q2, q3⟩
          rw [← hsz] at h1 hlim'
          simp only [Instr.buildSlice, Sem.run_bind, run_underlying hu, Result.andThen_ok, hsize]
          rw [← hsz]
          simp only [hlim', if_false, Sem.run_bind, Sem.run_pure, Result.andThen_ok]
          rcases hz3 with ⟨g1, g2⟩ | ⟨g1, g2⟩
          · rw [← hsz] at g1
            subst g2
            simp only [g1, if_true, pure_bind] at h1 ⊢
            rw [h1]
            rfl
          · rw [← hsz] at g1
            subst g2
            simp only [g1, if_false, Sem.run_bind, zeroValue, run_typeInfo hi, hzz, Result.andThen_ok, Sem.run_pure]
            rw [h1]
            rfl
      · cases hv
def plT (P : Program) (t : TypeId) : Option (Array (Nat × Nat)) :=
  match P.underlying t with
  | some (.struct fs) => pureRun P (fs.mapM fun f => do pure (f.offset, ← sizeOf f.type))
  | _ => none
def bld (P : Program) (t : TypeId) (parts : List (Nat × Value)) : Option Value :=
  match zcT P t with
  | none => none
  | some z => match plT P t with
    | some pl => (fillL (fun i => pl[i]?) z parts).map fun out => .agg out.toArray
    | none => match arT P t with
      | some (_, e) => match szT P e with
        | some size => (fillL (fun i => some (i * size, size)) z parts).map fun out => .agg out.toArray
        | none => none
      | none => none
theorem LR.vagg {n : Nat} {out : List Value} {out' : Array Value} (h : LR n m out out'.toList) : VRel n m (.agg out.toArray) (.agg out') := by
  refine .agg _ _ (by have := h.1; simpa using this) fun i h1 h2 => ?_
  simp only [List.size_toArray] at h1
  obtain ⟨v', q1, q2, _⟩ := h.2 i out[i] (List.getElem?_eq_getElem h1)
  rw [Array.getElem?_toList, Array.getElem?_eq_getElem h2] at q1
  simp only [List.getElem_toArray]
  rw [Option.some.inj q1]; exact q2
theorem run_bld (r : WRel G m h w) {t : TypeId} {parts parts' : Array (Nat × Value)} {v : Value}
    (hl : parts.toList.length = parts'.toList.length)
    (hp : ∀ (j : Nat) (i : Nat) (v : Value), parts.toList[j]? = some (i, v) → ∃ v', parts'.toList[j]? = some (i, v') ∧ VRel h.length m v v')
    (hv : bld P t parts.toList = some v) : ∃ v', (Instr.build t parts').run P w = .ok v' w ∧ VRel h.length m v v' := by
  unfold bld at hv
  cases hz : zcT P t with
  | none => rw [hz] at hv; simp at hv
  | some z =>
    rw [hz] at hv
    simp only at hv
    obtain ⟨i, zv, hi, hzz, hzl, hsz, hall⟩ := zcT_spec hz
    have hzrun : (zeroValue t).run P w = .ok zv w := by simp [zeroValue, run_typeInfo hi, hzz]
    have hlr : LR h.length m z zv.cells.toList := by rw [hzl]; exact LR.const hall
    cases hpl : plT P t with
    | some pl =>
      rw [hpl] at hv
      simp only at hv
      cases hf : fillL (fun i => pl[i]?) z parts.toList with
      | none => rw [hf] at hv; simp at hv
      | some out =>
        rw [hf] at hv; simp only [Option.map_some] at hv; cases hv
        obtain ⟨out', h1, h2⟩ := fill_rel (place' := fun i => pl[i]?) parts.toList hlr hl hp hf
        refine ⟨.agg out', ?_, h2.vagg⟩
        unfold plT at hpl
        split at hpl
        · rename_i fs hu
          have hm := pureRun_sound _ hpl w
          simp only [Instr.build, Sem.run_bind, hzrun, Result.andThen_ok, run_underlying hu, hm, h1, Sem.run_pure]
        · cases hpl
    | none =>
      rw [hpl] at hv
      simp only at hv
      cases ha : arT P t with
      | none => rw [ha] at hv; simp at hv
      | some q =>
        obtain ⟨n, e⟩ := q
        rw [ha] at hv
        simp only at hv
        cases hs : szT P e with
        | none => rw [hs] at hv; simp at hv
        | some size =>
          rw [hs] at hv
          simp only at hv
          cases hf : fillL (fun i => some (i * size, size)) z parts.toList with
          | none => rw [hf] at hv; simp at hv
          | some out =>
            rw [hf] at hv; simp only [Option.map_some] at hv; cases hv
            obtain ⟨out', h1, h2⟩ := fill_rel (place' := fun i => some (i * size, size)) parts.toList hlr hl hp hf
            refine ⟨.agg out', ?_, h2.vagg⟩
            unfold arT at ha
            split at ha
            · rename_i hu
              cases ha
              simp only [Instr.build, Sem.run_bind, hzrun, Result.andThen_ok, run_underlying hu, run_sizeOf hs, h1, Sem.run_pure]
            · cases ha
end
end Go.Proofs.YtdldekkojjfllaaDoor.Am
namespace Go.Proofs.YtdldekkojjfllaaDoor.Am
open Go
set_option linter.unusedVariables false
set_option linter.unusedSimpArgs false
section
variable {P : Program} {G : Glo} {m : Map} {h : Heap} {w : World}
/-- A bound of a cut. -/
def bnd (hi : Nat) (d : Nat) : Option Value → Option Nat
  | none => some d
  | some (.int _ i) => if 0 ≤ i ∧ i ≤ hi then some i.toNat else none
  | some _ => none
theorem bnd_none (hi d : Nat) : bnd hi d none = some d := rfl
theorem run_bound (code : BoundsCode) {v v' : Value} (hv : VRel h.length m v v') {hi d x : Nat} (hb : bnd hi d (some v) = some x) {hi' : Nat} (hh : hi ≤ hi') :
    (Instr.sliceBound v' hi' code).run P w = .ok x w ∧ x ≤ hi := by
  cases v with
  | int k i =>
    simp only [bnd] at hb
    split at hb
    · rename_i hk
      cases hb
      rw [inv_int hv]
      exact ⟨run_sliceBound w k i hi' code hk.1 (by omega), by omega⟩
    · cases hb
  | _ => simp [bnd] at hb
/-- Cuts of a slice: the first, the length, the capacity. -/
def cutB (l c : Nat) (lo hi mx : Option Value) : Option (Nat × Nat × Nat) :=
  match bnd c c mx with
  | some m => match (match hi with | none => if mx.isSome then none else some l | some v => bnd m m (some v)) with
    | some b => match bnd b 0 lo with
      | some a => some (a, b, m)
      | none => none
    | none => none
  | none => none
def OV (n : Nat) (m : Map) (x x' : Option Value) : Prop :=
  match x, x' with
  | none, none => True
  | some v, some v' => VRel n m v v'
  | _, _ => False
theorem run_cutB {isSlice : Bool} {l c c' : Nat} (hc : c ≤ c') {lo hi mx lo' hi' mx' : Option Value} (hlo : OV h.length m lo lo') (hhi : OV h.length m hi hi')
    (hmx : OV h.length m mx mx') {a b d : Nat} (hb : cutB l c lo hi mx = some (a, b, d)) (hl : l ≤ c) :
    (Instr.sliceBounds isSlice l c' lo' hi' mx').run P w = .ok (a, b, if mx.isSome then d else c') w ∧ a ≤ b ∧ b ≤ d ∧ d ≤ c ∧ (mx.isSome = false → d = c) := by
  unfold cutB at hb
  cases mx with
  | none =>
    cases mx' with
    | some _ => exact hmx.elim
    | none =>
      simp only [bnd_none] at hb
      cases hi with
      | none =>
        cases hi' with
        | some _ => exact hhi.elim
        | none =>
          simp only [Option.isSome_none, Bool.false_eq_true, if_false] at hb
          cases lo with
          | none =>
            cases lo' with
            | some _ => exact hlo.elim
            | none =>
              simp only [bnd_none] at hb; cases hb
              refine ⟨by simp [Instr.sliceBounds], by omega, hl, Nat.le_refl _, fun _ => rfl⟩
          | some v =>
            cases lo' with
            | none => exact hlo.elim
            | some v' =>
              cases hq : bnd l 0 (some v) with
              | none => rw [hq] at hb; simp at hb
              | some x =>
                rw [hq] at hb; simp only at hb; cases hb
                obtain ⟨q1, q2⟩ := run_bound (P := P) (w := w) .sliceB hlo hq (Nat.le_refl _)
                refine ⟨by simp [Instr.sliceBounds, q1], q2, hl, Nat.le_refl _, fun _ => rfl⟩
      | some u =>
        cases hi' with
        | none => exact hhi.elim
        | some u' =>
          simp only at hb
          cases hq : bnd c c (some u) with
          | none => rw [hq] at hb; simp at hb
          | some y =>
            rw [hq] at hb
            simp only at hb
            obtain ⟨q1, q2⟩ := run_bound (P := P) (w := w) (if isSlice then .sliceAcap else .sliceAlen) hhi hq hc
            cases lo with
            | none =>
              cases lo' with
              | some _ => exact hlo.elim
              | none =>
                simp only [bnd_none] at hb; cases hb
                refine ⟨by simp [Instr.sliceBounds, q1], by omega, q2, Nat.le_refl _, fun _ => rfl⟩
            | some v =>
              cases lo' with
              | none => exact hlo.elim
              | some v' =>
                cases hr : bnd y 0 (some v) with
                | none => rw [hr] at hb; simp at hb
                | some x =>
                  rw [hr] at hb; cases hb
                  obtain ⟨p1, p2⟩ := run_bound (P := P) (w := w) .sliceB hlo hr (Nat.le_refl _)
                  refine ⟨by simp [Instr.sliceBounds, q1, p1], p2, q2, Nat.le_refl _, fun _ => rfl⟩
  | some z =>
    cases mx' with
    | none => exact hmx.elim
    | some z' =>
      cases hm : bnd c c (some z) with
      | none => rw [hm] at hb; simp at hb
      | some d0 =>
        rw [hm] at hb
        simp only at hb
        obtain ⟨s1, s2⟩ := run_bound (P := P) (w := w) (if isSlice then .slice3Acap else .slice3Alen) hmx hm hc
        cases hi with
        | none => simp at hb
        | some u =>
          cases hi' with
          | none => exact hhi.elim
          | some u' =>
            simp only at hb
            cases hq : bnd d0 d0 (some u) with
            | none => rw [hq] at hb; simp at hb
            | some y =>
              rw [hq] at hb
              simp only at hb
              obtain ⟨q1, q2⟩ := run_bound (P := P) (w := w) .slice3B hhi hq (Nat.le_refl _)
              cases lo with
              | none =>
                cases lo' with
                | some _ => exact hlo.elim
                | none =>
                  simp only [bnd_none] at hb; cases hb
                  refine ⟨by simp [Instr.sliceBounds, s1, q1], by omega, q2, s2, fun h => by simp at h⟩
              | some v =>
                cases lo' with
                | none => exact hlo.elim
                | some v' =>
                  cases hr : bnd y 0 (some v) with
                  | none => rw [hr] at hb; simp at hb
                  | some x =>
                    rw [hr] at hb; cases hb
                    obtain ⟨p1, p2⟩ := run_bound (P := P) (w := w) .slice3C hlo hr (Nat.le_refl _)
                    refine ⟨by simp [Instr.sliceBounds, s1, q1, p1], p2, q2, s2, fun h => by simp at h⟩
def stT (P : Program) (t : TypeId) : Bool := match P.underlying t with | some .string => true | _ => false
theorem stT_spec {t : TypeId} (h : stT P t = true) : P.underlying t = some .string := by
  unfold stT at h
  split at h
  · rename_i hu; exact hu
  · cases h
def cut (P : Program) (t : TypeId) (h : Heap) (x : Value) (lo hi mx : Option Value) : Option Value :=
  match x with
  | .string s => if stT P t = true ∧ mx.isSome = false then
      (cutB s.size s.size lo hi none).map fun q => .string (s.extract q.1 q.2.1) else none
  | .slice none l c => if (slT P t).isSome ∧ l ≤ c ∧ (∀ e, slT P t = some e → (szT P e).isSome) then (cutB l c lo hi mx).map fun q => .slice none (q.2.1 - q.1) (q.2.2 - q.1) else none
  | .slice (some a) l c => match slT P t with
    | some e => match szT P e with
      | some size => if l ≤ c then match cutB l c lo hi mx with
          | some (x, b, d) =>
            if a.spot = none then some (.slice (some (if d = x then a else ⟨a.block, a.off + x * size, none⟩)) (b - x) (d - x))
            else if mx.isSome then (if c = 0 then none else some (.slice (some (if d = x then ⟨a.block, a.off, none⟩ else ⟨a.block, a.off + x * size, none⟩)) (b - x) (d - x)))
            else match h[a.block]? with
              | some bk => if bk.k = 2 ∧ bk.e = size then some (.slice (some ⟨a.block, a.off + x * size, some 0⟩) (b - x) (c - x)) else none
              | none => none
          | none => none
        else none
      | none => none
    | none => none
  | .pointer (some a) => match arT P t with
    | some (n, e) => match szT P e with
      | some size => match cutB n n lo hi mx with
        | some (x, b, d) => if a.spot = none then some (.slice (some (if d = x then a else ⟨a.block, a.off + x * size, none⟩)) (b - x) (d - x)) else none
        | none => none
      | none => none
    | none => none
  | _ => none
theorem place_add (m : Map) (a : Addr) (n : Nat) (sp : Option Nat) : place m ⟨a.block, a.off + n, sp⟩ = (place m a).add n := by
  rw [add_none _ rfl]; unfold place; simp [Nat.add_assoc]
theorem run_cut (r : WRel G m h w) {t : TypeId} {x x' v : Value} {lo hi mx lo' hi' mx' : Option Value} (hx : VRel h.length m x x')
    (hlo : OV h.length m lo lo') (hhi : OV h.length m hi hi') (hmx : OV h.length m mx mx') (hv : cut P t h x lo hi mx = some v) :
    ∃ v', (Instr.sliceAt t x' lo' hi' mx').run P w = .ok v' w ∧ VRel h.length m v v' := by
  unfold cut at hv
  split at hv
  · rename_i s
    split at hv
    · rename_i hk
      obtain ⟨hu, hm⟩ := hk
      have hu := stT_spec hu
      rw [inv_string hx]
      have hmx' : mx' = none := by
        cases mx with
        | none => cases mx' with
          | none => rfl
          | some _ => exact hmx.elim
        | some _ => simp at hm
      subst hmx'
      cases hc : cutB s.size s.size lo hi none with
      | none => rw [hc] at hv; simp at hv
      | some q =>
        obtain ⟨a, b, d⟩ := q
        rw [hc] at hv; simp only [Option.map_some] at hv; cases hv
        obtain ⟨q1, q2, q3, q4, q5⟩ := run_cutB (P := P) (w := w) (isSlice := false) (mx' := none) (Nat.le_refl _) hlo hhi (by trivial) hc (Nat.le_refl _)
        refine ⟨_, ?_, .string _⟩
        simp only [Instr.sliceAt, Sem.run_bind, run_underlying hu, Result.andThen_ok, Instr.slice]
        simp [q1]
    · cases hv
  · rename_i l c
    split at hv
    · rename_i hk
      obtain ⟨hs, hlc, hsz⟩ := hk
      obtain ⟨e, hs⟩ := Option.isSome_iff_exists.1 hs
      obtain ⟨size, hsz⟩ := Option.isSome_iff_exists.1 (hsz e hs)
      have hu := slT_spec hs
      rw [inv_sliceNone hx]
      cases hc : cutB l c lo hi mx with
      | none => rw [hc] at hv; simp at hv
      | some q =>
        obtain ⟨a, b, d⟩ := q
        rw [hc] at hv; simp only [Option.map_some] at hv; cases hv
        obtain ⟨q1, q2, q3, q4, q5⟩ := run_cutB (P := P) (w := w) (isSlice := true) (Nat.le_refl _) hlo hhi hmx hc hlc
        have hd : (if mx.isSome then d else c) = d := by
          cases hm : mx.isSome
          · simp [q5 hm]
          · simp
        rw [hd] at q1
        refine ⟨.slice none (b - a) (d - a), ?_, .sliceNone _ _⟩
        simp only [Instr.sliceAt, Sem.run_bind, run_underlying hu, Result.andThen_ok, Instr.slice, q1, run_sizeOf hsz, Sem.run_pure, Option.map_none, ite_self]
    · cases hv
  · rename_i a l c
    cases hs : slT P t with
    | none => rw [hs] at hv; simp at hv
    | some e =>
      rw [hs] at hv; simp only at hv
      have hu := slT_spec hs
      cases hsz : szT P e with
      | none => rw [hsz] at hv; simp at hv
      | some size =>
        rw [hsz] at hv; simp only at hv
        split at hv
        · rename_i hlc
          cases hc : cutB l c lo hi mx with
          | none => rw [hc] at hv; simp at hv
          | some q =>
            obtain ⟨xx, b, d⟩ := q
            rw [hc] at hv; simp only at hv
            obtain ⟨y, c', rfl, sr⟩ := inv_slice hx
            obtain ⟨q1, q2, q3, q4, q5⟩ := run_cutB (P := P) (w := w) (isSlice := true) sr.cap hlo hhi hmx hc hlc
            have hrun : (Instr.sliceAt t (.slice (some y) l c') lo' hi' mx').run P w =
                .ok (.slice (some (if (if mx.isSome then d else c') = xx then y else y.add (xx * size))) (b - xx) ((if mx.isSome then d else c') - xx)) w := by
              simp only [Instr.sliceAt, Sem.run_bind, run_underlying hu, Result.andThen_ok, Instr.slice, q1, run_sizeOf hsz, Sem.run_pure]
              generalize (if mx.isSome then d else c') = q
              by_cases hq : q = xx <;> simp [hq]
            refine ⟨_, hrun, ?_⟩
            by_cases hsp : a.spot = none
            · rw [if_pos hsp] at hv
              cases hv
              obtain ⟨e1, e2⟩ := sr.ex hsp
              subst e1; subst e2
              have hd : (if mx.isSome then d else c') = d := by
                cases hm : mx.isSome
                · simp [q5 hm]
                · simp
              rw [hd]
              by_cases hdx : d = xx
              · rw [if_pos hdx, if_pos hdx]; exact .slice a _ _ hsp sr.lt
              · rw [if_neg hdx, if_neg hdx, ← place_add m a (xx * size) none]; exact .slice _ _ _ rfl sr.lt
            · rw [if_neg hsp] at hv
              obtain ⟨i1, i2, i3⟩ := sr.inx hsp
              cases hm : mx.isSome with
              | true =>
                rw [hm] at hv
                simp only [if_true] at hv ⊢
                split at hv
                · cases hv
                · rename_i hc0
                  cases hv
                  have hy := sr.pl (.inr hc0)
                  subst hy
                  by_cases hdx : d = xx
                  · rw [if_pos hdx, if_pos hdx]; exact .slice ⟨a.block, a.off, none⟩ _ _ rfl sr.lt
                  · rw [if_neg hdx, if_neg hdx, ← place_add m a (xx * size) none]; exact .slice _ _ _ rfl sr.lt
              | false =>
                rw [hm] at hv
                simp only [Bool.false_eq_true, if_false] at hv ⊢
                cases hb : h[a.block]? with
                | none => rw [hb] at hv; simp at hv
                | some bk =>
                  rw [hb] at hv; simp only at hv
                  split at hv
                  · rename_i hk
                    cases hv
                    have hcd := q5 hm
                    subst hcd
                    have he : (m a.block).e = size := by rw [(r.room _ _ hb hk.1).1]; exact hk.2
                    have hcap := sr.cap
                    have hmul : xx * size + (c' - xx) * size = c' * size := by
                      rw [← Nat.add_mul]; congr 1; omega
                    rw [he] at i3
                    by_cases hdx : c' = xx
                    · rw [if_pos hdx]
                      refine .sliceIn _ y _ _ _ rfl sr.lt (by omega) sr.spot sr.blk (fun hq => by omega) i2 ?_
                      show y.off + (c' - xx) * (m a.block).e ≤ (m a.block).o + (m a.block).room
                      rw [he, hdx, Nat.sub_self, Nat.zero_mul]
                      have : 0 ≤ c' * size := Nat.zero_le _
                      omega
                    · rw [if_neg hdx, add_none y sr.spot]
                      refine .sliceIn _ _ _ _ _ rfl sr.lt (by omega) rfl sr.blk (fun hq => ?_) (by simp only; omega) (by simp only; rw [he]; omega)
                      have hy := sr.pl (.inr (by omega))
                      subst hy
                      unfold place
                      simp [Nat.add_assoc]
                  · cases hv
        · cases hv
  · rename_i a
    cases ha : arT P t with
    | none => rw [ha] at hv; simp at hv
    | some q =>
      obtain ⟨n, e⟩ := q
      rw [ha] at hv; simp only at hv
      have hu : P.underlying t = some (.array n e) := by
        unfold arT at ha
        split at ha
        · rename_i hu; cases ha; exact hu
        · cases ha
      cases hsz : szT P e with
      | none => rw [hsz] at hv; simp at hv
      | some size =>
        rw [hsz] at hv; simp only at hv
        cases hc : cutB n n lo hi mx with
        | none => rw [hc] at hv; simp at hv
        | some q =>
          obtain ⟨xx, b, d⟩ := q
          rw [hc] at hv; simp only at hv
          split at hv
          · rename_i hsp
            cases hv
            obtain ⟨_, hlt, rfl⟩ := inv_ptr hx
            obtain ⟨q1, q2, q3, q4, q5⟩ := run_cutB (P := P) (w := w) (isSlice := false) (Nat.le_refl _) hlo hhi hmx hc (Nat.le_refl _)
            have hd : (if mx.isSome then d else n) = d := by
              cases hm : mx.isSome
              · simp [q5 hm]
              · simp
            rw [hd] at q1
            refine ⟨.slice (some (if d = xx then place m a else (place m a).add (xx * size))) (b - xx) (d - xx), ?_, ?_⟩
            · simp only [Instr.sliceAt, Sem.run_bind, run_underlying hu, Result.andThen_ok, Instr.sureAddr, Sem.run_pure, q1, run_sizeOf hsz]
            · by_cases hdx : d = xx
              · rw [if_pos hdx, if_pos hdx]; exact .slice a _ _ hsp hlt
              · rw [if_neg hdx, if_neg hdx, ← place_add m a (xx * size) none]; exact .slice _ _ _ rfl hlt
          · cases hv
  · cases hv
end
end Go.Proofs.YtdldekkojjfllaaDoor.Am
namespace Go.Proofs.YtdldekkojjfllaaDoor.Am
open Go
set_option linter.unusedVariables false
set_option linter.unusedSimpArgs false
section
variable {P : Program} {G : Glo} {m : Map} {h : Heap} {w : World}
theorem run_append_in (t u ty e e2 : TypeId) (i : TypeInfo) (ht : P.underlying t = some (.slice e)) (hu : P.underlying u = some (.slice e2)) (hi : P.info? e = some i)
    (y : Addr) (hy : y.spot = none) (sl c n : Nat) (xb : Option Addr) (xc : Nat) (news : List Value) (w : World)
    (hf : (Builtin.firstCells i.size n (.slice xb n xc)).run P w = .ok news.toArray w)
    (hroom : sl + n ≤ c) (hflat : ∀ v, v ∈ news → flat v = true)
    (hc : ∀ j, j < news.length → (∃ u, w.cell? ⟨y.block, y.off + sl * i.size + j, none⟩ = some u) ∧ w.frozen? ⟨y.block, y.off + sl * i.size + j, none⟩ = false) :
    (Builtin.append_ #[t, u] ty #[.slice (some y) sl c, .slice xb n xc]).run P w = .ok (.slice (some y) (sl + n) c) (setMany w y.block (y.off + sl * i.size) news) := by
  have hst := run_storeCells (P := P) news w ⟨y.block, y.off + sl * i.size, none⟩ 0 rfl hflat (by simpa using hc)
  simp only [Nat.add_zero] at hst
  simp [Builtin.append_, run_underlying ht, run_underlying hu, sizeOf, typeInfo, hi, Builtin.lenOf, hroom, hf, add_none y hy, hst]
theorem run_append_idle (t u ty e e2 : TypeId) (i : TypeInfo) (ht : P.underlying t = some (.slice e)) (hu : P.underlying u = some (.slice e2)) (hi : P.info? e = some i)
    (yb : Option Addr) (sl c : Nat) (xb : Option Addr) (xc : Nat) (w : World) (hroom : sl ≤ c) :
    (Builtin.append_ #[t, u] ty #[.slice yb sl c, .slice xb 0 xc]).run P w = .ok (.slice yb sl c) w := by
  have hf : (Builtin.firstCells i.size 0 (.slice xb 0 xc)).run P w = .ok #[] w := by
    cases xb with
    | none => simp [Builtin.firstCells]
    | some b => simp [Builtin.firstCells, loadCells, loadCellsFrom]
  cases yb with
  | none => simp [Builtin.append_, run_underlying ht, run_underlying hu, sizeOf, typeInfo, hi, Builtin.lenOf, hroom, hf]
  | some y =>
    have hst : (storeCells (y.add (sl * i.size)) [] 0).run P w = .ok () w := rfl
    simp [Builtin.append_, run_underlying ht, run_underlying hu, sizeOf, typeInfo, hi, Builtin.lenOf, hroom, hf, hst]
theorem run_append_new (t u ty e e2 : TypeId) (i : TypeInfo) (z : Value) (ht : P.underlying t = some (.slice e)) (hu : P.underlying u = some (.slice e2))
    (hi : P.info? e = some i) (hz : i.zero = some z)
    (yb : Option Addr) (sl c n : Nat) (xb : Option Addr) (xc : Nat) (olds news : List Value) (w : World)
    (ho : (Builtin.firstCells i.size sl (.slice yb sl c)).run P w.drew = .ok olds.toArray w.drew)
    (hf : (Builtin.firstCells i.size n (.slice xb n xc)).run P w.drew = .ok news.toArray w.drew)
    (hg : c < sl + n) (h63 : ((sl + n : Nat) : Int) ≤ 9223372036854775807) (hfit : Builtin.nextslicecap (sl + n) c * i.bytes ≤ 281474976710656) :
    (Builtin.append_ #[t, u] ty #[.slice yb sl c, .slice xb n xc]).run P w =
      .ok (.slice (some ⟨w.heap.size, 0, none⟩) (sl + n) (grownCap w (sl + n) c e))
        (w.drew.alloc (.cells (olds.toArray ++ news.toArray ++ Builtin.zeroCells z.cells (grownCap w (sl + n) c e - (sl + n))) e)) := by
  have hn : ¬ (sl + n ≤ c) := by omega
  have h63' : ¬ (9223372036854775807 < ((sl : Int) + (n : Int))) := by omega
  have h48' : ¬ (281474976710656 < Builtin.nextslicecap (sl + n) c * i.bytes) := by omega
  simp [Builtin.append_, run_underlying ht, run_underlying hu, sizeOf, typeInfo, zeroValue, hi, hz, Builtin.lenOf, hn, h63', h48', Question.forced, hf, ho, newRow, grownCap]
  congr 2
  apply Array.ext'
  simp [List.append_assoc]
/-- The first n elements' cells of a slice. -/
def cellsOf (h : Heap) (size n : Nat) : Value → Option (List Value)
  | .slice (some a) _ _ => loadCs h a.block a.off (n * size)
  | .slice none _ _ => if n = 0 then some [] else none
  | _ => none
theorem WRel.cellsOf (r : WRel G m h w) {size n : Nat} {a : Option Addr} {l c : Nat} {x' : Value} {cs : List Value} (hx : VRel h.length m (.slice a l c) x') (hln : n ≤ l)
    (hc : Am.cellsOf h size n (.slice a l c) = some cs) :
    ∃ cs', (Builtin.firstCells size n x').run P w = .ok cs'.toArray w ∧ cs.length = n * size ∧ LR h.length m cs cs' := by
  cases a with
  | none =>
    simp only [Am.cellsOf] at hc
    split at hc
    · rename_i hn; subst hn; cases hc
      rw [inv_sliceNone hx]
      exact ⟨[], by simp [Builtin.firstCells], by simp, rfl, fun j v hj => by simp at hj⟩
    · cases hc
  | some a =>
    simp only [Am.cellsOf] at hc
    obtain ⟨y, c', rfl, sr⟩ := inv_slice hx
    obtain ⟨h1, l', h2, h3, h4⟩ := r.loadCs hc
    refine ⟨l', ?_, h1, by rw [h1, h2], h4⟩
    simp only [Builtin.firstCells]
    by_cases hn : n = 0
    · subst hn
      have : l' = [] := List.eq_nil_of_length_eq_zero (by simpa using h2)
      subst this
      simp [loadCells, loadCellsFrom]
    · have hy := sr.pl (.inl (by omega))
      subst hy
      rw [← h2]
      exact run_loadCells_at (a := place m a) rfl h3
def apS (P : Program) (h : Heap) (t u : TypeId) (s x : Value) : Option (Value × Heap) :=
  match slT P t, slT P u, s, x with
  | some e, some _, .slice b sl c, .slice xb n xc =>
    if sl ≤ c ∧ n ≤ xc then
      if n = 0 then (if (szT P e).isSome then some (.slice b sl c, h) else none)
      else match zcT P e, byT P e with
        | some z, some by' => match cellsOf h z.length n x with
          | some news =>
            if sl + n ≤ c then match b with
              | some a => match setCs h a.block (a.off + sl * z.length) news with
                | some h' => some (.slice (some a) (sl + n) c, h')
                | none => none
              | none => none
            else if (sl + n) * by' ≤ 70368744177664 ∧ sl + n ≤ 4611686018427387904 then
              match cellsOf h z.length sl s with
              | some olds => match b with
                | none => some (newS h (some 0) z.length (sl + n) (sl + n) (olds ++ news))
                | some a => if a.spot = none then some (newS h (some 0) z.length (sl + n) (sl + n) (olds ++ news))
                  else match h[a.block]? with
                    | some bk => if bk.k = 2 ∧ bk.e = z.length then
                        some (newS (h.set a.block ⟨0, 0, []⟩) (some 0) z.length (sl + n) (sl + n) (olds ++ news)) else none
                    | none => none
              | none => none
            else none
          | none => none
        | _, _ => none
    else none
  | _, _, _, _ => none
/-- A block under a new name, in the place of one that is given up. -/
theorem WRel.move {G : Glo} {m : Map} {h : Heap} {w : World} (r : WRel G m h w) {id : Nat} {b : Blk} (hb : h[id]? = some b) (hk : b.k = 2)
    (d : Nat) (cs : List Value) (hlen : d + cs.length ≤ (m id).room)
    (hc : ∀ (j : Nat) (v : Value), cs[j]? = some v → ∃ v', w.cell? ⟨(m id).b, (m id).o + d + j, none⟩ = some v' ∧ VRel h.length m v v' ∧ flat v = true) :
    WRel G (m.put h.length ⟨(m id).b, (m id).o + d, b.e, (m id).room - d⟩) (h.set id ⟨0, 0, []⟩ ++ [⟨2, b.e, cs⟩]) w := by
  have hid := lt_of_get hb
  have rk := r.kill id 0 []
  have hl0 : (h.set id (⟨0, 0, []⟩ : Blk)).length = h.length := by simp
  have hag : Agree h.length m (m.put h.length ⟨(m id).b, (m id).o + d, b.e, (m id).room - d⟩) := Map.agree_put _ _ _
  have hs : ∀ {i : Nat} {x : Blk}, (h.set id (⟨0, 0, []⟩ : Blk) ++ [(⟨2, b.e, cs⟩ : Blk)])[i]? = some x →
      (i < h.length ∧ (h.set id (⟨0, 0, []⟩ : Blk))[i]? = some x) ∨ (i = h.length ∧ x = ⟨2, b.e, cs⟩) := by
    intro i x hx
    have := get_snoc hx
    rw [hl0] at this; exact this
  have hlen2 : (h.set id (⟨0, 0, []⟩ : Blk) ++ [(⟨2, b.e, cs⟩ : Blk)]).length = h.length + 1 := by simp
  obtain ⟨re, rl, rr⟩ := r.room id b hb hk
  refine ⟨?_, ?_, ?_, ?_, ?_, fun g hg => ?_, fun g o hg => ?_⟩
  · intro i x hx hkx j v hj
    rw [hlen2]
    rcases hs hx with ⟨h1, h2⟩ | ⟨rfl, rfl⟩
    · obtain ⟨v', q1, q2, q3⟩ := rk.cell i x h2 hkx j v hj
      rw [hl0] at q2
      exact ⟨v', by rw [hag i h1]; exact q1, q2.mono (Nat.le_succ _) hag, q3⟩
    · obtain ⟨v', q1, q2, q3⟩ := hc j v hj
      exact ⟨v', by rw [Map.put_same]; exact q1, q2.mono (Nat.le_succ _) hag, q3⟩
  · intro i x hx hkx
    rcases hs hx with ⟨h1, h2⟩ | ⟨rfl, rfl⟩
    · rw [hag i h1]; exact rk.room i x h2 hkx
    · rw [Map.put_same]
      refine ⟨rfl, by show cs.length ≤ (m id).room - d; omega, fun j hj => ?_⟩
      have hj' : j < (m id).room - d := hj
      have := rr (d + j) (by omega)
      rw [← Nat.add_assoc] at this
      exact this
  · intro i x hx hkx
    rcases hs hx with ⟨h1, h2⟩ | ⟨rfl, rfl⟩
    · rw [hag i h1]; exact rk.iter i x h2 hkx
    · simp at hkx
  · intro i x hx hkx
    rcases hs hx with ⟨h1, h2⟩ | ⟨rfl, rfl⟩
    · rw [hag i h1]; exact rk.live i x h2 hkx
    · rw [Map.put_same]; exact r.live id b hb (by omega)
  · intro i i' x x' hx hx' ho hk0 hii
    have old : ∀ {q : Nat} {y : Blk}, (h.set id (⟨0, 0, []⟩ : Blk))[q]? = some y → y.k ≠ 0 → q ≠ id ∧ h[q]? = some y := by
      intro q y hy hy0
      by_cases hq : q = id
      · subst hq
        rw [List.getElem?_set_self hid] at hy
        exact absurd (by rw [← Option.some.inj hy]) hy0
      · rw [List.getElem?_set_ne (Ne.symm hq)] at hy
        exact ⟨hq, hy⟩
    rcases hs hx with ⟨h1, h2⟩ | ⟨rfl, rfl⟩ <;> rcases hs hx' with ⟨h3, h4⟩ | ⟨rfl, rfl⟩
    · rw [hag i h1, hag i' h3]; exact rk.apart i i' x x' h2 h4 ho hk0 hii
    · rw [hag i h1, Map.put_same]
      obtain ⟨q1, q2⟩ := old h2 (Blk.own_live ho)
      exact r.apart i id x b q2 hb ho (by omega) q1
    · rw [Map.put_same, hag i' h3]
      obtain ⟨q1, q2⟩ := old h4 hk0
      exact r.apart id i' b x' hb q2 (.inl hk) hk0 (Ne.symm q1)
    · exact absurd rfl hii
  · obtain ⟨h1, h2, h3⟩ := r.glob g hg
    refine ⟨by rw [hlen2]; omega, ?_, ?_⟩ <;> rw [hag g h1] <;> assumption
  · obtain ⟨h1, h2⟩ := r.tab g o hg
    refine ⟨h1, fun i x hx ho => ?_⟩
    rcases hs hx with ⟨q1, q2⟩ | ⟨rfl, rfl⟩
    · rw [hag i q1]
      by_cases hi : i = id
      · subst hi
        rw [List.getElem?_set_self hid] at q2
        cases q2
        rcases ho with ho | ho <;> cases ho
      · rw [List.getElem?_set_ne (Ne.symm hi)] at q2
        exact h2 i x q2 ho
    · rw [Map.put_same]; exact h2 id b hb (.inl hk)
theorem Grow.move (m : Map) (h : Heap) (w : World) {id : Nat} {b : Blk} (hb : h[id]? = some b) (hk : b.k = 2) (p : Pl) (hp : p.b = (m id).b) (x : Blk) :
    Grow m h w (m.put h.length p) (h.set id ⟨0, 0, []⟩ ++ [x]) w := by
  have hid := lt_of_get hb
  refine ⟨Map.agree_put _ _ _, by simp, Nat.le_refl _, ⟨rfl, rfl, rfl⟩, fun _ _ _ => rfl, ?_⟩
  intro i y hy hl
  right
  have hl0 : (h.set id (⟨0, 0, []⟩ : Blk)).length = h.length := by simp
  have := get_snoc hy
  rw [hl0] at this
  rcases this with ⟨h1, h2⟩ | ⟨rfl, rfl⟩
  · by_cases hi : i = id
    · subst hi
      rw [List.getElem?_set_self hid] at h2
      exact absurd (by rw [← Option.some.inj h2]) hl
    · rw [List.getElem?_set_ne (Ne.symm hi)] at h2
      exact ⟨i, y, h2, hl, fun z => z, by rw [Map.put_ne _ _ (Nat.ne_of_lt h1)]⟩
  · exact ⟨id, b, hb, by omega, fun _ => .inl hk, by rw [Map.put_same, hp]⟩
theorem VRel.newIn {b : Nat} {e : Nat} {cs : List Value} {h0 : Heap} {m' : Map} {p : Pl} (hp : m' h0.length = p) (y : Addr) (hy : y.spot = none) (hyb : y.block = p.b)
    (hyo : y.off = p.o) (l c' : Nat) (hlc : l ≤ c') (hfit : c' * p.e ≤ p.room) :
    VRel (h0 ++ [(⟨2, e, cs⟩ : Blk)]).length m' (.slice (some ⟨h0.length, 0, some 0⟩) l l) (.slice (some y) l c') := by
  refine .sliceIn _ y l l c' rfl (by simp) hlc hy (by rw [hp]; exact hyb) (fun _ => ?_) (by rw [hp]; omega) (by rw [hp]; omega)
  unfold place
  simp only [hp, Nat.add_zero]
  cases y; simp_all
theorem grow_new (r : WRel G m h w) {t u ty e e2 : TypeId} {i : TypeInfo} {zv : Value} (ht : P.underlying t = some (.slice e)) (hu : P.underlying u = some (.slice e2))
    (hi : P.info? e = some i) (hz : i.zero = some zv) (hzs : zv.cells.size = i.size)
    {yb : Option Addr} {sl c n : Nat} {xb : Option Addr} {xc : Nat} {olds news olds' news' : List Value}
    (ho : (Builtin.firstCells i.size sl (.slice yb sl c)).run P w.drew = .ok olds'.toArray w.drew) (hol : olds.length = sl * i.size) (hoR : LR h.length m olds olds')
    (hf : (Builtin.firstCells i.size n (.slice xb n xc)).run P w.drew = .ok news'.toArray w.drew) (hnl : news.length = n * i.size) (hnR : LR h.length m news news')
    (hg : c < sl + n) (h63 : ((sl + n : Nat) : Int) ≤ 9223372036854775807) (hfit : Builtin.nextslicecap (sl + n) c * i.bytes ≤ 281474976710656) :
    ∃ v' w' m', (Builtin.append_ #[t, u] ty #[.slice yb sl c, .slice xb n xc]).run P w = .ok v' w' ∧
      VRel (h ++ [(⟨2, i.size, olds ++ news⟩ : Blk)]).length m' (.slice (some ⟨h.length, 0, some 0⟩) (sl + n) (sl + n)) v' ∧
      WRel G m' (h ++ [⟨2, i.size, olds ++ news⟩]) w' ∧ Grow m h w m' (h ++ [⟨2, i.size, olds ++ news⟩]) w' := by
  have hrun := run_append_new t u ty e e2 i zv ht hu hi hz yb sl c n xb xc olds' news' w ho hf hg h63 hfit
  have hcap := grownCap_ge w (sl + n) c e
  have hR := hoR.append hnR
  have hl1 : olds'.length = sl * i.size := by rw [← hoR.1]; exact hol
  have hl2 : news'.length = n * i.size := by rw [← hnR.1]; exact hnl
  obtain ⟨m', q1, q2, q3, q4⟩ := new_does r.drew e i.size (olds ++ news)
    (olds'.toArray ++ news'.toArray ++ Builtin.zeroCells zv.cells (grownCap w (sl + n) c e - (sl + n)))
    (by simp [hoR.1, hnR.1])
    (fun j v hj => by
      obtain ⟨v', p1, p2, p3⟩ := hR.2 j v hj
      refine ⟨v', ?_, p2, p3⟩
      have hjl : j < (olds' ++ news').length := by
        obtain ⟨hh, _⟩ := List.getElem?_eq_some_iff.1 p1; exact hh
      rw [← Array.getElem?_toList]
      simp only [Array.toList_append]
      rw [List.getElem?_append_left (by simpa using hjl)]
      exact p1)
  refine ⟨_, _, m', hrun, ?_, q2, (Grow.drew m h w).trans q3⟩
  refine VRel.newIn (b := 0) q4 _ rfl rfl rfl _ _ hcap ?_
  simp only [Array.size_append, List.size_toArray, hl1, hl2, size_zeroCells, hzs]
  rw [← Nat.add_mul, ← Nat.add_mul]
  exact Nat.mul_le_mul_right _ (by omega)
theorem run_apS (r : WRel G m h w) {t u ty : TypeId} {s x s' x' v : Value} {h' : Heap} (hs : VRel h.length m s s') (hx : VRel h.length m x x')
    (hv : apS P h t u s x = some (v, h')) :
    ∃ v' w' m', (Builtin.append_ #[t, u] ty #[s', x']).run P w = .ok v' w' ∧ VRel h'.length m' v v' ∧ WRel G m' h' w' ∧ Grow m h w m' h' w' := by
  unfold apS at hv
  split at hv
  · rename_i e e2 b sl c xb n xc he he2
    have ht := slT_spec he
    have hu := slT_spec he2
    split at hv
    · rename_i hle
      obtain ⟨hle, hnx⟩ := hle
      -- the real source
      obtain ⟨xb', xc', rfl⟩ : ∃ xb' xc', x' = .slice xb' n xc' := by
        cases xb with
        | none => exact ⟨_, _, inv_sliceNone hx⟩
        | some a => obtain ⟨y, c', hh, _⟩ := inv_slice hx; exact ⟨_, _, hh⟩
      obtain ⟨yb, c', hsr, hcc⟩ : ∃ yb c', s' = .slice yb sl c' ∧ c ≤ c' := by
        cases b with
        | none => exact ⟨_, _, inv_sliceNone hs, Nat.le_refl _⟩
        | some a => obtain ⟨y, c', hh, sr⟩ := inv_slice hs; exact ⟨_, _, hh, sr.cap⟩
      split at hv
      · rename_i hn0
        subst hn0
        split at hv
        · rename_i hsome
          cases hv
          obtain ⟨size, hsz⟩ := Option.isSome_iff_exists.1 hsome
          cases hi : P.info? e with
          | none => simp [szT, hi] at hsz
          | some i =>
            subst hsr
            exact ⟨_, _, m, run_append_idle t u ty e e2 i ht hu hi _ _ _ _ _ w (by omega), hs, r, Grow.refl _ _ _⟩
        · cases hv
      · rename_i hn0
        split at hv
        · rename_i z by' hz hb
          obtain ⟨i, zv, hi, hzz, hzl, hsz, hall⟩ := zcT_spec hz
          have hby : i.bytes = by' := by unfold byT at hb; rw [hi] at hb; simpa using hb
          have hzlen : z.length = i.size := by rw [← hzl]; simp [hsz]
          rw [hzlen] at hv
          cases hnews : cellsOf h i.size n (.slice xb n xc) with
          | none => rw [hnews] at hv; simp at hv
          | some news =>
            rw [hnews] at hv
            simp only at hv
            obtain ⟨news', hf, hnl, hnR⟩ := r.cellsOf (P := P) hx (Nat.le_refl _) hnews
            obtain ⟨news'', hf2, _, hnR2⟩ := r.drew.cellsOf (P := P) hx (Nat.le_refl _) hnews
            have hflat : ∀ (l l' : List Value), LR h.length m l l' → ∀ v, v ∈ l' → flat v = true := by
              intro l l' hl u hu
              obtain ⟨j, hj, hjj⟩ := List.mem_iff_getElem.1 hu
              have hj' : j < l.length := by rw [hl.1]; exact hj
              obtain ⟨v', p1, p2, p3⟩ := hl.2 j l[j] (List.getElem?_eq_getElem hj')
              rw [List.getElem?_eq_getElem hj, hjj] at p1
              cases p1
              rw [p2.flat_eq]; exact p3
            split at hv
            · rename_i hin
              cases b with
              | none => simp at hv
              | some a =>
                simp only at hv
                cases hset : setCs h a.block (a.off + sl * i.size) news with
                | none => rw [hset] at hv; simp at hv
                | some h2 =>
                  rw [hset] at hv; simp only at hv; cases hv
                  obtain ⟨y, c2, hh, sr⟩ := inv_slice hs
                  rw [hsr] at hh; cases hh
                  subst hsr
                  have hy := sr.pl (.inr (by omega))
                  unfold setCs at hset
                  cases hbk : h[a.block]? with
                  | none => rw [hbk] at hset; simp at hset
                  | some bk =>
                    rw [hbk] at hset
                    simp only at hset
                    split at hset
                    · rename_i hk
                      obtain ⟨hk, hfit⟩ := hk
                      cases hset
                      obtain ⟨re, rl, rr⟩ := r.room a.block bk hbk hk
                      have hlen : news.length = news'.length := hnR.1
                      have hrun := run_append_in t u ty e e2 i ht hu hi (place m a) rfl sl c' n xb' xc' news' w hf (by omega) (hflat _ _ hnR)
                        (fun j hj => by
                          have := rr (a.off + sl * i.size + j) (by omega)
                          unfold place
                          simp only
                          rw [show (m a.block).o + a.off + sl * i.size + j = (m a.block).o + (a.off + sl * i.size + j) from by omega]; exact this)
                      refine ⟨.slice (some (place m a)) (sl + n) c', Am.setMany w (m a.block).b ((m a.block).o + (a.off + sl * i.size)) news', m, ?_, ?_, ?_, ?_⟩
                      · rw [hy]
                        have e1 : (place m a).off + sl * i.size = (m a.block).o + (a.off + sl * i.size) := by unfold place; simp only; omega
                        have e2' : (place m a).block = (m a.block).b := rfl
                        rw [e1, e2'] at hrun
                        exact hrun
                      · have sr' : SlR (h.set a.block (⟨2, bk.e, splice bk.cs (a.off + sl * i.size) news⟩ : Blk)).length m a (sl + n) c (place m a) c' := by
                          refine ⟨by simp; exact sr.lt, rfl, rfl, sr.cap, fun _ => rfl, fun q => ⟨(sr.ex q).1, rfl⟩, fun q => ?_⟩
                          have := sr.inx q
                          rw [hy] at this; exact this
                        exact sr'.vrel
                      · exact r.setMany hbk hk (a.off + sl * i.size) news news' hlen hnR.2 (by omega) _ (by rw [length_splice]; exact rl)
                          (fun j v hj ho => by rw [splice_out _ _ _ _ ho] at hj; exact hj)
                          (fun j v hj he => by rw [splice_in _ _ _ _ hfit hj] at he; exact he)
                      · exact Grow.setMany r hbk hk _ _ _ (.inl rfl)
                    · cases hset
            · rename_i hin
              split at hv
              · rename_i hlim
                obtain ⟨hlim, hlim2⟩ := hlim
                cases holds : cellsOf h i.size sl (.slice b sl c) with
                | none => rw [holds] at hv; simp at hv
                | some olds =>
                  rw [holds] at hv
                  simp only at hv
                  obtain ⟨olds', ho, hol, hoR⟩ := r.drew.cellsOf (P := P) hs (Nat.le_refl _) holds
                  have h63 : ((sl + n : Nat) : Int) ≤ 9223372036854775807 := by omega
                  have hgrow : c' < sl + n → ∃ v' w' m', (Builtin.append_ #[t, u] ty #[s', .slice xb' n xc']).run P w = .ok v' w' ∧
                      VRel (h ++ [(⟨2, i.size, olds ++ news⟩ : Blk)]).length m' (.slice (some ⟨h.length, 0, some 0⟩) (sl + n) (sl + n)) v' ∧
                      WRel G m' (h ++ [⟨2, i.size, olds ++ news⟩]) w' ∧ Grow m h w m' (h ++ [⟨2, i.size, olds ++ news⟩]) w' := by
                    intro hg
                    rw [hsr] at ho ⊢
                    exact grow_new r ht hu hi hzz hsz ho hol hoR hf2 hnl hnR2 hg h63 (growslice_fits hg (by rw [hby]; omega))
                  have hexact : (∀ a, b = some a → a.spot = none) → newS h (some 0) i.size (sl + n) (sl + n) (olds ++ news) = (v, h') →
                      ∃ v' w' m', (Builtin.append_ #[t, u] ty #[s', .slice xb' n xc']).run P w = .ok v' w' ∧ VRel h'.length m' v v' ∧ WRel G m' h' w' ∧ Grow m h w m' h' w' := by
                    intro hex he
                    have hcap : c' = c := by
                      cases b with
                      | none => have := inv_sliceNone hs; rw [hsr] at this; cases this; rfl
                      | some a =>
                        obtain ⟨y, c2, hh, sr⟩ := inv_slice hs
                        rw [hsr] at hh; cases hh
                        exact (sr.ex (hex a rfl)).1
                    unfold newS at he
                    cases he
                    exact hgrow (by omega)
                  cases b with
                  | none => simp only [Option.some.injEq] at hv; exact hexact (fun a ha => by cases ha) hv
                  | some a =>
                    simp only at hv
                    split at hv
                    · rename_i hsp
                      simp only [Option.some.injEq] at hv
                      exact hexact (fun a' ha => by cases ha; exact hsp) hv
                    · rename_i hsp
                      cases hbk : h[a.block]? with
                      | none => rw [hbk] at hv; simp at hv
                      | some bk =>
                        rw [hbk] at hv
                        simp only at hv
                        split at hv
                        · rename_i hk
                          obtain ⟨hk, hke⟩ := hk
                          simp only [Option.some.injEq, newS] at hv
                          cases hv
                          obtain ⟨y, c2, hh, sr⟩ := inv_slice hs
                          rw [hsr] at hh; cases hh
                          obtain ⟨i1, i2, i3⟩ := sr.inx hsp
                          obtain ⟨re, rl, rr⟩ := r.room a.block bk hbk hk
                          rw [re, hke] at i3
                          have hl0 : (h.set a.block (⟨0, 0, []⟩ : Blk)).length = h.length := by simp
                          by_cases hroom : sl + n ≤ c'
                          · -- in place
                            have hmul : (sl + n) * i.size ≤ c' * i.size := Nat.mul_le_mul_right _ hroom
                            rw [Nat.add_mul] at hmul
                            have hnl' : news'.length = n * i.size := by rw [← hnR.1]; exact hnl
                            have hd : y.off = (m a.block).o + (y.off - (m a.block).o) := by omega
                            have hrun := run_append_in t u ty e e2 i ht hu hi y sr.spot sl c' n xb' xc' news' w hf hroom (hflat _ _ hnR)
                              (fun j hj => by
                                have := rr (y.off - (m a.block).o + sl * i.size + j) (by omega)
                                rw [sr.blk, show y.off + sl * i.size + j = (m a.block).o + (y.off - (m a.block).o + sl * i.size + j) from by omega]; exact this)
                            have r1 := r.setMany hbk hk (y.off - (m a.block).o + sl * i.size) news news' hnR.1 hnR.2 (by omega) [] (by simp)
                              (fun j v hj _ => by simp at hj) (fun j v _ hj => by simp at hj)
                            rw [show (m a.block).o + (y.off - (m a.block).o + sl * i.size) = y.off + sl * i.size from by omega] at r1
                            have hb1 : (h.set a.block (⟨2, bk.e, []⟩ : Blk))[a.block]? = some ⟨2, bk.e, []⟩ := List.getElem?_set_self (lt_of_get hbk)
                            have hl1 : (h.set a.block (⟨2, bk.e, []⟩ : Blk)).length = h.length := by simp
                            have hset2 : (h.set a.block (⟨2, bk.e, []⟩ : Blk)).set a.block (⟨0, 0, []⟩ : Blk) = h.set a.block ⟨0, 0, []⟩ := by simp
                            have r2 := r1.move hb1 rfl (y.off - (m a.block).o) (olds ++ news) (by simp only [List.length_append, hol, hnl]; omega) (by
                              intro j u hj
                              rw [hl1]
                              rw [show (m a.block).o + (y.off - (m a.block).o) + j = y.off + j from by omega]
                              by_cases hjo : j < olds.length
                              · rw [List.getElem?_append_left hjo] at hj
                                have hy := sr.pl (.inl (by rintro rfl; rw [hol] at hjo; simp at hjo))
                                obtain ⟨_, l', p2, p3, p4⟩ := r.loadCs holds
                                obtain ⟨u', q1, q2, q3⟩ := p4 j u hj
                                refine ⟨u', ?_, q2, q3⟩
                                rw [cell_setMany_out _ _ _ _ _ (by right; left; simp only; omega)]
                                have := p3 j u' q1
                                rw [hy]; exact this
                              · rw [List.getElem?_append_right (by omega)] at hj
                                obtain ⟨u', q1, q2, q3⟩ := hnR.2 _ u hj
                                refine ⟨u', ?_, q2, q3⟩
                                have hc2 := cell_setMany_in news' w (m a.block).b (y.off + sl * i.size) (fun q hq => by
                                  obtain ⟨h1, _⟩ := rr (y.off - (m a.block).o + sl * i.size + q) (by omega)
                                  rw [show y.off + sl * i.size + q = (m a.block).o + (y.off - (m a.block).o + sl * i.size + q) from by omega]; exact h1)
                                  (j - olds.length) (by
                                    obtain ⟨hh, _⟩ := List.getElem?_eq_some_iff.1 q1; exact hh)
                                rw [show y.off + sl * i.size + (j - olds.length) = y.off + j from by rw [hol] at hjo ⊢; omega] at hc2
                                rw [hc2]; exact q1)
                            rw [hset2, hl1] at r2
                            rw [hke] at r2
                            have g2 := Grow.move m (h.set a.block ⟨2, bk.e, []⟩) (Am.setMany w (m a.block).b (y.off + sl * i.size) news') hb1 rfl
                              ⟨(m a.block).b, (m a.block).o + (y.off - (m a.block).o), i.size, (m a.block).room - (y.off - (m a.block).o)⟩ rfl (⟨2, i.size, olds ++ news⟩ : Blk)
                            rw [hset2, hl1] at g2
                            refine ⟨.slice (some y) (sl + n) c', Am.setMany w (m a.block).b (y.off + sl * i.size) news',
                              m.put h.length ⟨(m a.block).b, (m a.block).o + (y.off - (m a.block).o), i.size, (m a.block).room - (y.off - (m a.block).o)⟩, ?_, ?_, r2,
                              (Grow.setMany r hbk hk _ _ _ (.inl rfl)).trans g2⟩
                            · rw [hsr, ← sr.blk]; exact hrun
                            · have hp := Map.put_same m h.length ⟨(m a.block).b, (m a.block).o + (y.off - (m a.block).o), i.size, (m a.block).room - (y.off - (m a.block).o)⟩
                              exact VRel.newIn (b := 0) (e := i.size) (cs := olds ++ news) (h0 := h.set a.block ⟨0, 0, []⟩)
                                (p := ⟨(m a.block).b, (m a.block).o + (y.off - (m a.block).o), i.size, (m a.block).room - (y.off - (m a.block).o)⟩)
                                (by rw [hl0]; exact hp) y sr.spot sr.blk (by show y.off = (m a.block).o + (y.off - (m a.block).o); omega) (sl + n) c' hroom
                                (by show c' * i.size ≤ (m a.block).room - (y.off - (m a.block).o); omega)
                          · have hg := hgrow (by omega)
                            obtain ⟨v', w', m', g1, g2, g3, g4⟩ := hg
                            have hne : a.block < h.length := sr.lt
                            have hset3 : (h ++ [(⟨2, i.size, olds ++ news⟩ : Blk)]).set a.block ⟨0, 0, []⟩ = h.set a.block ⟨0, 0, []⟩ ++ [⟨2, i.size, olds ++ news⟩] := by
                              rw [List.set_append_left _ _ hne]
                            have k1 := g3.kill a.block 0 []
                            have k2 := g4.trans (Grow.kill m' (h ++ [(⟨2, i.size, olds ++ news⟩ : Blk)]) w' a.block 0 [])
                            rw [hset3] at k1 k2
                            refine ⟨v', w', m', g1, ?_, ?_, ?_⟩
                            · simpa [hl0, hzlen] using g2
                            · simpa [hl0, hzlen] using k1
                            · simpa [hl0, hzlen] using k2
                        · cases hv
              · cases hv
        · cases hv
    · cases hv
  · cases hv
end
end Go.Proofs.YtdldekkojjfllaaDoor.Am
namespace Go.Proofs.YtdldekkojjfllaaDoor.Am
open Go
set_option linter.unusedVariables false
set_option linter.unusedSimpArgs false
section
variable {P : Program} {G : Glo} {m : Map} {h : Heap} {w : World}
/-! ### addresses and parts -/
def idxA (P : Program) (t : TypeId) (x i : Value) : Option Value :=
  match x, i with
  | .slice (some a) l c, .int _ i => match slT P t with
    | some e => match szT P e with
      | some size => if 0 ≤ i ∧ i < l then some (.pointer (some ⟨a.block, a.off + i.toNat * size, none⟩)) else none
      | none => none
    | none => none
  | .pointer (some a), .int _ i => match arT P t with
    | some (n, e) => match szT P e with
      | some size => if 0 ≤ i ∧ i < n then some (.pointer (some ⟨a.block, a.off + i.toNat * size, none⟩)) else none
      | none => none
    | none => none
  | _, _ => none
theorem arT_spec {t : TypeId} {n : Nat} {e : TypeId} (ha : arT P t = some (n, e)) : P.underlying t = some (.array n e) := by
  unfold arT at ha
  split at ha
  · rename_i hu; cases ha; exact hu
  · cases ha
theorem run_idxA {t : TypeId} {x x' i i' v : Value} (hx : VRel h.length m x x') (hi : VRel h.length m i i') (hv : idxA P t x i = some v) :
    ∃ v', (Instr.indexAt t x' i').run P w = .ok v' w ∧ VRel h.length m v v' := by
  unfold idxA at hv
  split at hv
  · rename_i a l c k i
    rw [inv_int hi]
    cases hs : slT P t with
    | none => rw [hs] at hv; simp at hv
    | some e =>
      rw [hs] at hv; simp only at hv
      have hu := slT_spec hs
      cases hsz : szT P e with
      | none => rw [hsz] at hv; simp at hv
      | some size =>
        rw [hsz] at hv; simp only at hv
        split at hv
        · rename_i hk
          cases hv
          obtain ⟨y, c', rfl, sr⟩ := inv_slice hx
          have hy := sr.pl (.inl (by omega))
          subst hy
          refine ⟨.pointer (some ((place m a).add (i.toNat * size))), ?_, ?_⟩
          · simp [Instr.indexAt, run_underlying hu, asIntOf, hk.1, hk.2, run_sizeOf hsz]
          · rw [← place_add m a _ none]; exact .ptr _ rfl sr.lt
        · cases hv
  · rename_i a k i
    rw [inv_int hi]
    cases ha : arT P t with
    | none => rw [ha] at hv; simp at hv
    | some q =>
      obtain ⟨n, e⟩ := q
      rw [ha] at hv; simp only at hv
      have hu := arT_spec ha
      cases hsz : szT P e with
      | none => rw [hsz] at hv; simp at hv
      | some size =>
        rw [hsz] at hv; simp only at hv
        split at hv
        · rename_i hk
          cases hv
          obtain ⟨hsp, hlt, rfl⟩ := inv_ptr hx
          refine ⟨.pointer (some ((place m a).add (i.toNat * size))), ?_, ?_⟩
          · simp [Instr.indexAt, run_underlying hu, asIntOf, Instr.sureAddr, hk.1, hk.2, run_sizeOf hsz]
          · rw [← place_add m a _ none]; exact .ptr _ rfl hlt
        · cases hv
  · cases hv
def fldA (P : Program) (t : TypeId) (x : Value) (f : Nat) : Option Value :=
  match x with
  | .pointer (some a) => match fldT P t f with
    | some (off, ft) => match szT P ft with
      | some s => if s = 0 then none else some (.pointer (some ⟨a.block, a.off + off, none⟩))
      | none => none
    | none => none
  | _ => none
theorem fldT_spec {t : TypeId} {f : Nat} {off : Nat} {ft : TypeId} (hf : fldT P t f = some (off, ft)) :
    ∃ fs x, P.underlying t = some (.struct fs) ∧ fs[f]? = some x ∧ x.offset = off ∧ x.type = ft := by
  unfold fldT at hf
  split at hf
  · rename_i fs hu
    cases hx : fs[f]? with
    | none => rw [hx] at hf; simp at hf
    | some x => rw [hx] at hf; simp at hf; exact ⟨fs, x, hu, hx, hf.1, hf.2⟩
  · cases hf
theorem run_fldA {t : TypeId} {x x' v : Value} {f : Nat} (hx : VRel h.length m x x') (hv : fldA P t x f = some v) :
    ∃ v', (Instr.fieldAt t x' f).run P w = .ok v' w ∧ VRel h.length m v v' := by
  unfold fldA at hv
  split at hv
  · rename_i a
    cases hf : fldT P t f with
    | none => rw [hf] at hv; simp at hv
    | some q =>
      obtain ⟨off, ft⟩ := q
      rw [hf] at hv; simp only at hv
      obtain ⟨fs, fx, hu, hfx, h1, h2⟩ := fldT_spec hf
      cases hsz : szT P ft with
      | none => rw [hsz] at hv; simp at hv
      | some s =>
        rw [hsz] at hv; simp only at hv
        split at hv
        · cases hv
        · rename_i hs
          cases hv
          obtain ⟨hsp, hlt, rfl⟩ := inv_ptr hx
          refine ⟨.pointer (some ((place m a).add off)), ?_, ?_⟩
          · simp [Instr.fieldAt, run_underlying hu, hfx, Instr.sureAddr, fieldPlace, h1, h2, run_sizeOf hsz, hs]
          · rw [← place_add m a _ none]; exact .ptr _ rfl hlt
  · cases hv
/-- A part of an aggregate. -/
def prt (P : Program) (t : TypeId) (cs : Array Value) (off : Nat) : Option Value :=
  match ldK P t with
  | some (some n) => if off + n ≤ cs.size then some (.agg ((cs.toList.drop off).take n).toArray) else none
  | some none => cs[off]?
  | none => none
theorem run_prt {t : TypeId} {cs cs' : Array Value} {off : Nat} {v : Value} (hs : cs.size = cs'.size)
    (hp : ∀ (i : Nat) (h1 : i < cs.size) (h2 : i < cs'.size), VRel h.length m cs[i] cs'[i]) (hv : prt P t cs off = some v) :
    ∃ v', (part t cs' off).run P w = .ok v' w ∧ VRel h.length m v v' := by
  unfold prt ldK at hv
  cases hu : P.underlying t with
  | none => rw [hu] at hv; simp at hv
  | some d =>
    cases hi : P.info? t with
    | none => rw [hu, hi] at hv; simp at hv
    | some i =>
      rw [hu, hi] at hv
      simp only at hv
      by_cases ha : aggD d = true
      · rw [if_pos ha] at hv
        simp only at hv
        split at hv
        · rename_i hk
          cases hv
          refine ⟨.agg (cs'.extract off (off + i.size)), ?_, ?_⟩
          · simp [part, run_isAgg hu, ha, run_sizeOf (P := P) (t := t) (n := i.size) (by simp [szT, hi])]
          · refine .agg _ _ (by simp; omega) fun j h1 h2 => ?_
            simp at h1 h2
            have := hp (off + j) (by omega) (by omega)
            simp
            exact this
        · cases hv
      · rw [if_neg ha] at hv
        simp only at hv
        obtain ⟨h1, h2⟩ := Array.getElem?_eq_some_iff.1 hv
        refine ⟨cs'[off]'(by omega), ?_, by rw [← h2]; exact hp off h1 (by omega)⟩
        simp [part, run_isAgg hu, ha, Array.getElem?_eq_getElem (show off < cs'.size by omega)]
def fldV (P : Program) (t : TypeId) (x : Value) (f : Nat) : Option Value :=
  match x with
  | .agg cs => match fldT P t f with
    | some (off, ft) => prt P ft cs off
    | none => none
  | _ => none
theorem run_fldV {t : TypeId} {x x' v : Value} {f : Nat} (hx : VRel h.length m x x') (hv : fldV P t x f = some v) :
    ∃ v', (Instr.field t x' f).run P w = .ok v' w ∧ VRel h.length m v v' := by
  unfold fldV at hv
  split at hv
  · rename_i cs
    cases hf : fldT P t f with
    | none => rw [hf] at hv; simp at hv
    | some q =>
      obtain ⟨off, ft⟩ := q
      rw [hf] at hv; simp only at hv
      obtain ⟨fs, fx, hu, hfx, h1, h2⟩ := fldT_spec hf
      obtain ⟨cs', rfl, hs, hp⟩ := inv_agg hx
      obtain ⟨v', q1, q2⟩ := run_prt (P := P) (w := w) hs hp hv
      refine ⟨v', ?_, q2⟩
      simp [Instr.field, run_underlying hu, hfx, asAgg, h1, h2, q1]
  · cases hv
def idxV (P : Program) (t : TypeId) (x i : Value) : Option Value :=
  match x, i with
  | .agg cs, .int _ i => match arT P t with
    | some (n, e) => match szT P e with
      | some size => if 0 ≤ i ∧ i < n then prt P e cs (i.toNat * size) else none
      | none => none
    | none => none
  | .string s, .int _ i => if stT P t = true ∧ 0 ≤ i then (s[i.toNat]?).map fun b => .int .u8 b.toNat else none
  | _, _ => none
theorem run_idxV {t : TypeId} {x x' i i' v : Value} (hx : VRel h.length m x x') (hi : VRel h.length m i i') (hv : idxV P t x i = some v) :
    ∃ v', (Instr.index t x' i').run P w = .ok v' w ∧ VRel h.length m v v' := by
  unfold idxV at hv
  split at hv
  · rename_i cs k i
    rw [inv_int hi]
    cases ha : arT P t with
    | none => rw [ha] at hv; simp at hv
    | some q =>
      obtain ⟨n, e⟩ := q
      rw [ha] at hv; simp only at hv
      have hu := arT_spec ha
      cases hsz : szT P e with
      | none => rw [hsz] at hv; simp at hv
      | some size =>
        rw [hsz] at hv; simp only at hv
        split at hv
        · rename_i hk
          obtain ⟨cs', rfl, hs, hp⟩ := inv_agg hx
          obtain ⟨v', q1, q2⟩ := run_prt (P := P) (w := w) hs hp hv
          refine ⟨v', ?_, q2⟩
          simp [Instr.index, run_underlying hu, asIntOf, hk.1, hk.2, run_sizeOf hsz, q1]
        · cases hv
  · rename_i s k i
    rw [inv_int hi, inv_string hx]
    split at hv
    · rename_i hk
      obtain ⟨hst, h0⟩ := hk
      have hu := stT_spec hst
      cases hb : s[i.toNat]? with
      | none => rw [hb] at hv; simp at hv
      | some b =>
        rw [hb] at hv; simp only [Option.map_some] at hv; cases hv
        refine ⟨_, ?_, .int _ _⟩
        simp [Instr.index, run_underlying hu, asIntOf, h0, hb]
    · cases hv
  · cases hv
/-! ### numbers, tests, lengths -/
def lenV (P : Program) (t : TypeId) (x : Value) : Option Value :=
  match x with
  | .string s => if stT P t = true then some (.int .i64 s.size) else none
  | .slice _ l _ => if (slT P t).isSome then some (.int .i64 l) else none
  | .chan none => if (slT P t).isSome then some (.int .i64 0) else none
  | _ => none
theorem run_lenV {t ty : TypeId} {x x' v : Value} (hx : VRel h.length m x x') (hv : lenV P t x = some v) :
    (Builtin.len_ #[t] ty #[x']).run P w = .ok v w ∧ af v = true := by
  unfold lenV at hv
  split at hv
  · rename_i s
    split at hv
    · rename_i hs
      cases hv
      have hu := stT_spec hs
      rw [inv_string hx]
      exact ⟨by simp [Builtin.len_, run_underlying hu, goInt], rfl⟩
    · cases hv
  · rename_i a l c
    split at hv
    · rename_i hs
      cases hv
      obtain ⟨e, hs⟩ := Option.isSome_iff_exists.1 hs
      have hu := slT_spec hs
      obtain ⟨y, c', rfl⟩ : ∃ y c', x' = .slice y l c' := by
        cases a with
        | none => exact ⟨_, _, inv_sliceNone hx⟩
        | some a => obtain ⟨y, c', hh, _⟩ := inv_slice hx; exact ⟨_, _, hh⟩
      exact ⟨by simp [Builtin.len_, run_underlying hu, goInt], rfl⟩
    · cases hv
  · split at hv
    · rename_i hs
      cases hv
      obtain ⟨e, hs⟩ := Option.isSome_iff_exists.1 hs
      have hu := slT_spec hs
      obtain ⟨y, rfl⟩ : ∃ y, x' = .slice (some y) 0 0 := by cases hx; exact ⟨_, rfl⟩
      exact ⟨by simp [Builtin.len_, run_underlying hu, goInt], rfl⟩
    · cases hv
  · cases hv
end
end Go.Proofs.YtdldekkojjfllaaDoor.Am
namespace Go.Proofs.YtdldekkojjfllaaDoor.Am
open Go
set_option linter.unusedVariables false
set_option linter.unusedSimpArgs false
section
variable {P : Program} {G : Glo} {m : Map} {h : Heap} {w : World}
/-- Only what has no address. -/
def ckd (x : Option Value) : Option Value := x.bind fun v => if af v = true then some v else none
theorem ckd_some {x : Option Value} {v : Value} (h : ckd x = some v) : x = some v ∧ af v = true := by
  unfold ckd at h
  cases x with
  | none => cases h
  | some u =>
    simp only [Option.bind_some] at h
    split at h
    · rename_i hu; cases h; exact ⟨rfl, hu⟩
    · cases h
def binV (P : Program) (op : BinOp) (t : TypeId) (xo yo : Operand) (a b : Value) : Option Value :=
  match a, b with
  | .agg xs, .agg ys => if xs.all af1 && ys.all af1 then
      (match P.underlying t with
      | some (.struct fs) => if P.stoodInHeld t then none else
          (match pureRun P (eqGuard op t xo yo (.agg xs) (.agg ys)), pureRun P (Op.eqFields (Op.maxDepth - 1) xs ys fs.toList), op with
          | some _, some r, .eql => some (.bool r)
          | some _, some r, .neq => some (.bool !r)
          | _, _, _ => none)
      | _ => none) else none
  | .pointer (some _), .pointer none | .pointer none, .pointer (some _) =>
      (match P.underlying t, op with | some (.pointer _), .eql => some (.bool false) | some (.pointer _), .neq => some (.bool true) | _, _ => none)
  | .slice (some _) _ _, .slice none _ _ | .slice none _ _, .slice (some _) _ _ =>
      (match P.underlying t, op with | some (.slice _), .eql => some (.bool false) | some (.slice _), .neq => some (.bool true) | _, _ => none)
  | .iface _ _, .nilIface | .nilIface, .iface _ _ =>
      (match P.underlying t, op with | some (.interface _), .eql => some (.bool false) | some (.interface _), .neq => some (.bool true) | _, _ => none)
  | a, b => if af1 a && af1 b then ckd (pureRun P (do eqGuard op t xo yo a b; binOp op t a b)) else none
theorem equal_struct {t : TypeId} {fs : Array Field} {xs ys : Array Value} {r : Bool} (hu : P.underlying t = some (.struct fs)) (hp : P.stoodInHeld t = false)
    (hr : pureRun P (Op.eqFields (Op.maxDepth - 1) xs ys fs.toList) = some r) : (Op.equal t (.agg xs) (.agg ys)).run P w = .ok r w := by
  have hf : P.fieldsOf t = fs := by simp [Program.fieldsOf, hu]
  have := run_equalIn_struct (P := P) w (Op.maxDepth - 1) t xs ys (by rw [hf]; exact hu) hp
  rw [hf, pureRun_sound _ hr w] at this
  exact this
theorem equalIn_off {t : TypeId} (d : Nat) {x y : Value} (hu : (match P.underlying t, x, y with
    | some (.pointer _), .pointer (some _), .pointer none | some (.pointer _), .pointer none, .pointer (some _) => true
    | some (.slice _), .slice (some _) _ _, .slice none _ _ | some (.slice _), .slice none _ _, .slice (some _) _ _ => true
    | some (.interface _), .iface _ _, .nilIface | some (.interface _), .nilIface, .iface _ _ => true
    | _, _, _ => false) = true) : (Op.equalIn (d + 1) t x y).run P w = .ok false w := by
  split at hu
  · rename_i h; simp [Op.equalIn, run_underlying h]
  · rename_i h; simp [Op.equalIn, run_underlying h]
  · rename_i h; simp [Op.equalIn, run_underlying h]
  · rename_i h; simp [Op.equalIn, run_underlying h]
  · rename_i h; simp [Op.equalIn, run_underlying h]
  · rename_i h; simp [Op.equalIn, run_underlying h]
  · cases hu
theorem equal_eq (t : TypeId) (x y : Value) : Op.equal t x y = Op.equalIn (9999 + 1) t x y := rfl
theorem run_off {t : TypeId} {xo yo : Operand} {x y : Value} (he : (Op.equalIn (9999 + 1) t x y).run P w = .ok false w)
    (hg : ∀ op : BinOp, eqGuard op t xo yo x y = pure ()) (hb : (binOp .eql t x y = do pure (.bool (← Op.equal t x y))) ∧ (binOp .neq t x y = do pure (.bool (!(← Op.equal t x y))))) :
    (do eqGuard .eql t xo yo x y; binOp .eql t x y : Sem Value).run P w = .ok (.bool false) w ∧
    (do eqGuard .neq t xo yo x y; binOp .neq t x y : Sem Value).run P w = .ok (.bool true) w := by
  rw [hg, hg, hb.1, hb.2, equal_eq]
  constructor
  · simp only [pure_bind, Sem.run_bind, he, Result.andThen_ok, Sem.run_pure]
  · simp only [pure_bind, Sem.run_bind, he, Result.andThen_ok, Sem.run_pure, Bool.not_false]
theorem run_binV {op : BinOp} {t : TypeId} {xo yo : Operand} {a b a' b' v : Value} (ha : VRel h.length m a a') (hb : VRel h.length m b b')
    (hv : binV P op t xo yo a b = some v) : (do eqGuard op t xo yo a' b'; binOp op t a' b' : Sem Value).run P w = .ok v w ∧ af v = true := by
  unfold binV at hv
  split at hv
  · rename_i xs ys
    split at hv
    · rename_i haf
      simp only [Bool.and_eq_true] at haf
      have e1 := ha.eq_af (show af (.agg xs) = true from haf.1)
      have e2 := hb.eq_af (show af (.agg ys) = true from haf.2)
      subst e1; subst e2
      split at hv
      · rename_i fs hu
        split at hv
        · cases hv
        · rename_i hst
          have hst : P.stoodInHeld t = false := by simpa using hst
          split at hv
          · rename_i hq hg
            cases hv
            have h1 := pureRun_sound _ hg w
            have h2 := equal_struct (w := w) hu hst hq
            refine ⟨?_, rfl⟩
            simp [h1, binOp, h2]
          · rename_i hq hg
            cases hv
            have h1 := pureRun_sound _ hg w
            have h2 := equal_struct (w := w) hu hst hq
            refine ⟨?_, rfl⟩
            simp [h1, binOp, h2]
          · cases hv
      · cases hv
    · cases hv
  · rename_i x
    obtain ⟨_, _, rfl⟩ := inv_ptr ha
    have e2 := hb.eq_af1 rfl
    subst e2
    split at hv
    · rename_i hu; cases hv; exact ⟨(run_off (equalIn_off 9999 (by rw [hu])) (fun op => by cases op <;> rfl) ⟨rfl, rfl⟩).1, rfl⟩
    · rename_i hu; cases hv; exact ⟨(run_off (equalIn_off 9999 (by rw [hu])) (fun op => by cases op <;> rfl) ⟨rfl, rfl⟩).2, rfl⟩
    · cases hv
  · rename_i x
    obtain ⟨_, _, rfl⟩ := inv_ptr hb
    have e2 := ha.eq_af1 rfl
    subst e2
    split at hv
    · rename_i hu; cases hv; exact ⟨(run_off (equalIn_off 9999 (by rw [hu])) (fun op => by cases op <;> rfl) ⟨rfl, rfl⟩).1, rfl⟩
    · rename_i hu; cases hv; exact ⟨(run_off (equalIn_off 9999 (by rw [hu])) (fun op => by cases op <;> rfl) ⟨rfl, rfl⟩).2, rfl⟩
    · cases hv
  · obtain ⟨y, c', rfl, _⟩ := inv_slice ha
    rw [inv_sliceNone hb]
    split at hv
    · rename_i hu; cases hv; exact ⟨(run_off (equalIn_off 9999 (by rw [hu])) (fun op => by cases op <;> rfl) ⟨rfl, rfl⟩).1, rfl⟩
    · rename_i hu; cases hv; exact ⟨(run_off (equalIn_off 9999 (by rw [hu])) (fun op => by cases op <;> rfl) ⟨rfl, rfl⟩).2, rfl⟩
    · cases hv
  · obtain ⟨y, c', rfl, _⟩ := inv_slice hb
    rw [inv_sliceNone ha]
    split at hv
    · rename_i hu; cases hv; exact ⟨(run_off (equalIn_off 9999 (by rw [hu])) (fun op => by cases op <;> rfl) ⟨rfl, rfl⟩).1, rfl⟩
    · rename_i hu; cases hv; exact ⟨(run_off (equalIn_off 9999 (by rw [hu])) (fun op => by cases op <;> rfl) ⟨rfl, rfl⟩).2, rfl⟩
    · cases hv
  · have e2 := hb.eq_af1 rfl
    subst e2
    cases ha
    split at hv
    · rename_i hu; cases hv; exact ⟨(run_off (equalIn_off 9999 (by rw [hu])) (fun op => by cases op <;> rfl) ⟨rfl, rfl⟩).1, rfl⟩
    · rename_i hu; cases hv; exact ⟨(run_off (equalIn_off 9999 (by rw [hu])) (fun op => by cases op <;> rfl) ⟨rfl, rfl⟩).2, rfl⟩
    · cases hv
  · have e2 := ha.eq_af1 rfl
    subst e2
    cases hb
    split at hv
    · rename_i hu; cases hv; exact ⟨(run_off (equalIn_off 9999 (by rw [hu])) (fun op => by cases op <;> rfl) ⟨rfl, rfl⟩).1, rfl⟩
    · rename_i hu; cases hv; exact ⟨(run_off (equalIn_off 9999 (by rw [hu])) (fun op => by cases op <;> rfl) ⟨rfl, rfl⟩).2, rfl⟩
    · cases hv
  · split at hv
    · rename_i haf
      simp only [Bool.and_eq_true] at haf
      have e1 := ha.eq_af1 haf.1
      have e2 := hb.eq_af1 haf.2
      subst e1; subst e2
      obtain ⟨h1, h2⟩ := ckd_some hv
      exact ⟨pureRun_sound _ h1 w, h2⟩
    · cases hv
def unV (P : Program) (op : UnOp) (x : Value) : Option Value := if af1 x then ckd (pureRun P (Op.unary op x)) else none
def byteL : List Value → Option (List Int)
  | [] => some []
  | .int .u8 n :: r => (byteL r).map (n :: ·)
  | _ => none
theorem byteL_map : ∀ (l : List Value) {ns : List Int}, byteL l = some ns → l = ns.map (Value.int .u8) := by
  intro l
  induction l with
  | nil => intro ns h; simp only [byteL] at h; cases h; rfl
  | cons v r ih =>
    intro ns h
    unfold byteL at h
    split at h
    · rename_i heq; cases heq
    · rename_i n r' heq
      cases heq
      cases hr : byteL r with
      | none => rw [hr] at h; simp at h
      | some k => rw [hr] at h; simp at h; subst h; rw [ih hr]; rfl
    · cases h
def bstr (ns : List Int) : ByteArray := ns.foldl (fun r n => r.push (UInt8.ofNat n.toNat)) ByteArray.empty
def conV (P : Program) (h : Heap) (src dst : TypeId) (x : Value) : Option Value :=
  match x with
  | .int _ n => (match P.underlying src, P.underlying dst with | some _, some (.int k) => some (.int k (k.wrap n)) | _, _ => none)
  | .string s => if (P.underlying src).isSome && stT P dst then some (.string s) else none
  | .slice none _ _ => (match slT P src with
    | some e => (match P.underlying e with | some (.int .u8) => if stT P dst then some (.string ByteArray.empty) else none | _ => none)
    | none => none)
  | .slice (some a) l _ => (match slT P src with
    | some e => (match P.underlying e with
      | some (.int .u8) => if stT P dst then ((loadCs h a.block a.off l).bind byteL).map fun ns => .string (bstr ns) else none
      | _ => none)
    | none => none)
  | _ => none
theorem run_conV (r : WRel G m h w) {src dst : TypeId} {x x' v : Value} (hx : VRel h.length m x x') (hv : conV P h src dst x = some v) :
    (convert src dst x').run P w = .ok v w ∧ af v = true := by
  unfold conV at hv
  split at hv
  · rename_i k n
    rw [inv_int hx]
    split at hv
    · rename_i d hu hd; cases hv
      exact ⟨by simp [convert, run_underlying hu, run_underlying hd, Conv.intToInt], rfl⟩
    · cases hv
  · rename_i s
    rw [inv_string hx]
    split at hv
    · rename_i hk
      simp only [Bool.and_eq_true] at hk
      obtain ⟨d, hd⟩ := Option.isSome_iff_exists.1 hk.1
      have hs := stT_spec hk.2
      cases hv
      refine ⟨?_, rfl⟩
      cases d <;> simp [convert, run_underlying hd, run_underlying hs]
    · cases hv
  · rename_i l c
    rw [inv_sliceNone hx]
    cases hs : slT P src with
    | none => rw [hs] at hv; simp at hv
    | some e =>
      rw [hs] at hv; simp only at hv
      split at hv
      · rename_i he
        split at hv
        · rename_i hd
          cases hv
          refine ⟨?_, rfl⟩
          rw [run_convert_bytes_string w src dst e none l c (slT_spec hs) he (stT_spec hd)]
          simp [Conv.bytesToString]
        · cases hv
      · cases hv
  · rename_i a l c
    obtain ⟨y, c', rfl, sr⟩ := inv_slice hx
    cases hs : slT P src with
    | none => rw [hs] at hv; simp at hv
    | some e =>
      rw [hs] at hv; simp only at hv
      split at hv
      · rename_i he
        split at hv
        · rename_i hd
          cases hl : loadCs h a.block a.off l with
          | none => rw [hl] at hv; simp at hv
          | some cs =>
            rw [hl] at hv
            simp only [Option.bind_some] at hv
            cases hb : byteL cs with
            | none => rw [hb] at hv; simp at hv
            | some ns =>
              rw [hb] at hv; simp only [Option.map_some] at hv; cases hv
              refine ⟨?_, rfl⟩
              rw [run_convert_bytes_string w src dst e (some y) l c' (slT_spec hs) he (stT_spec hd)]
              obtain ⟨h1, l', h2, h3, h4⟩ := r.loadCs hl
              have hcs := byteL_map cs hb
              have hl' : l' = ns.map (Value.int .u8) := by
                apply List.ext_getElem?
                intro j
                by_cases hj : j < l
                · have hj1 : cs[j]? = (ns.map (Value.int .u8))[j]? := by rw [hcs]
                  have hjc : j < cs.length := by omega
                  obtain ⟨v', q1, q2, _⟩ := h4 j cs[j] (List.getElem?_eq_getElem hjc)
                  rw [q1, ← hj1, List.getElem?_eq_getElem hjc]
                  congr 1
                  have hm : cs[j] ∈ ns.map (Value.int .u8) := by rw [← hcs]; exact List.getElem_mem hjc
                  obtain ⟨n, _, hn⟩ := List.mem_map.1 hm
                  rw [← hn] at q2 ⊢
                  exact inv_int q2
                · rw [List.getElem?_eq_none (by omega), List.getElem?_eq_none (by rw [← hcs]; omega)]
              by_cases hl0 : l = 0
              · subst hl0
                have hns : ns = [] := by
                  have : cs = [] := List.eq_nil_of_length_eq_zero h1
                  rw [this] at hcs
                  cases ns with
                  | nil => rfl
                  | cons a b => simp at hcs
                subst hns
                exact run_bytesToString w y 0 c' [] (by simp [loadCells, loadCellsFrom])
              · have hy := sr.pl (.inl hl0)
                subst hy
                refine run_bytesToString w (place m a) l c' ns ?_
                rw [← h2, run_loadCells_at (a := place m a) rfl h3, hl']
        · cases hv
      · cases hv
  · cases hv
/-! ### strings' iterators -/
theorem WRel.iterSet (r : WRel G m h w) {id : Nat} {b : Blk} (hb : h[id]? = some b) (hk : b.k = 3) (s : ByteArray) (pos : Nat) :
    WRel G m (h.set id ⟨3, 1, [.string s, .int .i64 (pos : Nat)]⟩) { w with heap := w.heap.setIfInBounds (m id).b (.stringIter s pos) } ∧
    Grow m h w m (h.set id ⟨3, 1, [.string s, .int .i64 (pos : Nat)]⟩) { w with heap := w.heap.setIfInBounds (m id).b (.stringIter s pos) } := by
  have hid := lt_of_get hb
  have hlv := r.live id b hb (by omega)
  have hget : ∀ (i : Nat) (x : Blk), (h.set id (⟨3, 1, [.string s, .int .i64 (pos : Nat)]⟩ : Blk))[i]? = some x →
      (i = id ∧ x = ⟨3, 1, [.string s, .int .i64 (pos : Nat)]⟩) ∨ (i ≠ id ∧ h[i]? = some x) := by
    intro i x hx
    by_cases hi : i = id
    · subst hi
      rw [List.getElem?_set_self hid] at hx
      exact .inl ⟨rfl, (Option.some.inj hx).symm⟩
    · rw [List.getElem?_set_ne (Ne.symm hi)] at hx
      exact .inr ⟨hi, hx⟩
  have hne : ∀ (i : Nat) (x : Blk), i ≠ id → h[i]? = some x → x.k ≠ 0 → (m i).b ≠ (m id).b := fun i x hi hx hk0 =>
    Ne.symm (r.apart id i b x hb hx (.inr hk) hk0 (Ne.symm hi))
  have hw : ∀ q, q ≠ (m id).b → ({ w with heap := w.heap.setIfInBounds (m id).b (.stringIter s pos) } : World).heap[q]? = w.heap[q]? := by
    intro q hq; simp only; exact Array.getElem?_setIfInBounds_ne (Ne.symm hq)
  have hlen' : (h.set id (⟨3, 1, [.string s, .int .i64 (pos : Nat)]⟩ : Blk)).length = h.length := by simp
  constructor
  · refine ⟨?_, ?_, ?_, ?_, ?_, fun g hg => by rw [hlen']; exact r.glob g hg, fun g o hg => ⟨by rw [hw _ (Ne.symm ((r.tab g o hg).2 id b hb (.inr hk)))]; exact (r.tab g o hg).1, fun i x hx ho => by
      rcases hget i x hx with ⟨rfl, rfl⟩ | ⟨hi, hx'⟩
      · exact (r.tab g o hg).2 i b hb (.inr hk)
      · exact (r.tab g o hg).2 i x hx' ho⟩⟩
    · intro i x hx hkx j v hj
      rw [hlen']
      rcases hget i x hx with ⟨rfl, rfl⟩ | ⟨hi, hx'⟩
      · simp at hkx
      · obtain ⟨v', q1, q2⟩ := r.cell i x hx' hkx j v hj
        exact ⟨v', by rw [World.cell?_of_block (hw _ (hne i x hi hx' (by omega)))]; exact q1, q2⟩
    · intro i x hx hkx
      rcases hget i x hx with ⟨rfl, rfl⟩ | ⟨hi, hx'⟩
      · simp at hkx
      · obtain ⟨q1, q2, q3⟩ := r.room i x hx' hkx
        refine ⟨q1, q2, fun j hj => ?_⟩
        rw [World.cell?_of_block (hw _ (hne i x hi hx' (by omega))), World.frozen?_of_block (hw _ (hne i x hi hx' (by omega)))]
        exact q3 j hj
    · intro i x hx hkx
      rcases hget i x hx with ⟨rfl, rfl⟩ | ⟨hi, hx'⟩
      · obtain ⟨_, _, _, q2, _⟩ := r.iter i b hb hk
        exact ⟨s, pos, rfl, q2, by simp only; exact Array.getElem?_setIfInBounds_self_of_lt hlv⟩
      · obtain ⟨s', p', q1, q2, q3⟩ := r.iter i x hx' hkx
        exact ⟨s', p', q1, q2, by rw [hw _ (hne i x hi hx' (by omega))]; exact q3⟩
    · intro i x hx hkx
      simp only [Array.size_setIfInBounds]
      rcases hget i x hx with ⟨rfl, rfl⟩ | ⟨hi, hx'⟩
      · exact hlv
      · exact r.live i x hx' hkx
    · intro i i' x x' hx hx' ho hk0 hii
      rcases hget i x hx with ⟨rfl, rfl⟩ | ⟨hi, hy⟩ <;> rcases hget i' x' hx' with ⟨rfl, rfl⟩ | ⟨hi', hy'⟩
      · exact absurd rfl hii
      · exact Ne.symm (hne i' x' hi' hy' hk0)
      · exact hne i x hi hy (Blk.own_live ho)
      · exact r.apart i i' x x' hy hy' ho hk0 hii
  · refine ⟨Agree.refl _ _, by simp, by simp, ⟨rfl, rfl, rfl⟩, fun q hq hno => hw q (Ne.symm (hno id b hb (.inr hk))), ?_⟩
    intro i y hy hl
    right
    rcases hget i y hy with ⟨rfl, rfl⟩ | ⟨hi, hy'⟩
    · exact ⟨i, b, hb, by omega, fun _ => .inr hk, rfl⟩
    · exact ⟨i, y, hy', hl, fun z => z, rfl⟩
def nxt (h : Heap) (x : Value) : Option (Value × Heap) :=
  match x with
  | .pointer (some a) => if a.off = 0 then match h[a.block]? with
    | some b => match b.cs with
      | [.string s, .int .i64 p] => if b.k = 3 ∧ 0 ≤ p then
          if p.toNat < s.size then some (.tuple #[.bool true, .int .i64 p, .int .i32 (Utf8.decode s p.toNat).1],
            h.set a.block ⟨3, 1, [.string s, .int .i64 ((p.toNat + (Utf8.decode s p.toNat).2 : Nat))]⟩)
          else some (.tuple #[.bool false], h)
        else none
      | _ => none
    | none => none else none
  | _ => none
theorem vtuple {n : Nat} {l : List Value} (h : ∀ v, v ∈ l → af v = true) : VRel n m (.tuple l.toArray) (.tuple l.toArray) := by
  refine .tuple _ _ rfl fun i h1 h2 => ?_
  have hm : l.toArray[i] ∈ l := by simp at h1 ⊢
  have := h _ hm
  revert this
  generalize l.toArray[i] = v
  intro hv
  have one : ∀ u : Value, af1 u = true → VRel n m u u := by
    intro u hu
    cases u with
    | bool b => exact .bool b
    | int k i => exact .int k i
    | string s => exact .string s
    | nilFunc => exact .nilFunc
    | nilIface => exact .nilIface
    | pointer a => cases a with
      | none => exact .ptrNone
      | some a => simp [af1] at hu
    | slice a l c => cases a with
      | none => exact .sliceNone l c
      | some a => simp [af1] at hu
    | _ => simp [af1] at hu
  cases v with
  | agg cs =>
    simp only [af, Array.all_eq_true] at hv
    exact .agg _ _ rfl fun i h1 _ => one _ (hv i h1)
  | _ => exact one _ hv
theorem run_nxt (r : WRel G m h w) {x x' v : Value} {ty : TypeId} {h' : Heap} (hx : VRel h.length m x x') (hv : nxt h x = some (v, h')) :
    ∃ v' w', (Instr.next x' true ty).run P w = .ok v' w' ∧ VRel h'.length m v v' ∧ WRel G m h' w' ∧ Grow m h w m h' w' := by
  unfold nxt at hv
  split at hv
  · rename_i a
    split at hv
    · rename_i ho
      cases hb : h[a.block]? with
      | none => rw [hb] at hv; simp at hv
      | some b =>
        rw [hb] at hv; simp only at hv
        split at hv
        · rename_i s p hcs
          split at hv
          · rename_i hk
            obtain ⟨hk, hp⟩ := hk
            obtain ⟨hsp, hlt, rfl⟩ := inv_ptr hx
            obtain ⟨s', pos, q1, q2, q3⟩ := r.iter _ b hb hk
            rw [hcs] at q1
            simp at q1
            obtain ⟨e1, e2⟩ := q1
            subst e1
            have hpos : p.toNat = pos := by omega
            have hp' : p = (pos : Int) := by omega
            rw [hpos, hp'] at hv
            have hpl : place m a = ⟨(m a.block).b, 0, none⟩ := by unfold place; rw [q2, ho]
            rw [hpl]
            split at hv
            · rename_i hlt2
              cases hv
              obtain ⟨g1, g2⟩ := r.iterSet hb hk s (pos + (Utf8.decode s pos).2)
              refine ⟨.tuple #[.bool true, .int .i64 (pos : Int), .int .i32 (Utf8.decode s pos).1],
                { w with heap := w.heap.setIfInBounds (m a.block).b (.stringIter s (pos + (Utf8.decode s pos).2)) }, ?_, ?_, g1, g2⟩
              · simp [Instr.next, getObj, setObj, Sem.run, q3, hlt2, goInt]
              · have hlen' : (h.set a.block (⟨3, 1, [.string s, .int .i64 ((pos + (Utf8.decode s pos).2 : Nat))]⟩ : Blk)).length = h.length := by simp
                exact vtuple (l := [.bool true, .int .i64 (pos : Int), .int .i32 (Utf8.decode s pos).1]) (by intro v hv; simp at hv; rcases hv with rfl | rfl | rfl <;> rfl)
            · rename_i hlt2
              cases hv
              refine ⟨.tuple #[.bool false], w, ?_, vtuple (l := [.bool false]) (by intro v hv; simp at hv; subst hv; rfl), r, Grow.refl _ _ _⟩
              simp [Instr.next, getObj, Sem.run, q3, hlt2]
          · cases hv
        · cases hv
    · cases hv
  · cases hv
end
end Go.Proofs.YtdldekkojjfllaaDoor.Am
