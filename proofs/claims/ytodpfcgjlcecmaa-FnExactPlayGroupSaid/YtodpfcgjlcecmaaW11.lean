/- The items among a law's arguments. Conditions: none. -/
import Derived.Test.YtodpfcgjlcecmaaW10
import Derived.Test.YtodpfcgjlcecmaaAmArg
namespace Go.Proofs.Ytodpfcgjlcecmaa.Am
open Go Go.Proofs Go.RowKit
set_option linter.unusedVariables false
set_option linter.unusedSimpArgs false
set_option maxRecDepth 100000

def Item.wf (x : Item) : Prop := (Lit.int .i64 x.cas).wf = true ∧ (Lit.int .i64 x.task).wf = true ∧ (Lit.int .i64 x.role).wf = true ∧ (Lit.int .i64 x.state).wf = true ∧ (Lit.int .i64 x.who).wf = true ∧ (Lit.int .i64 x.till).wf = true

theorem el_item {H : Type} {enc : TypeId × Value → H} {w : World} {spare : Nat → Bool} {held : Bool} (fuel : Nat) (cs : List Value) (y : DataW H × List MemPlace)
    (h : DataW.trod enc Try.prog w 0 spare held fuel 129 cs = some y) : ∃ z : Item, cs = z.cells ∧ z.wf := by
  obtain ⟨h1, n, h2⟩ := trod_struct Try.underlying129 h
  rw [show Try.prog.cellsOf 129 = 6 by kernel_rfl] at h1
  obtain ⟨x0, x1, x2, x3, x4, x5, rfl⟩ := len6 h1
  obtain ⟨a0, e0, w0⟩ := part_int Try.underlying3 (by kernel_rfl) (h2 _ (List.mem_of_getElem? (i := 0) rfl))
  obtain rfl := Option.some.inj e0
  obtain ⟨a1, e1, w1⟩ := part_int Try.underlying3 (by kernel_rfl) (h2 _ (List.mem_of_getElem? (i := 1) rfl))
  obtain rfl := Option.some.inj e1
  obtain ⟨a2, e2, w2⟩ := part_int Try.underlying3 (by kernel_rfl) (h2 _ (List.mem_of_getElem? (i := 2) rfl))
  obtain rfl := Option.some.inj e2
  obtain ⟨a3, e3, w3⟩ := part_int Try.underlying3 (by kernel_rfl) (h2 _ (List.mem_of_getElem? (i := 3) rfl))
  obtain rfl := Option.some.inj e3
  obtain ⟨a4, e4, w4⟩ := part_int Try.underlying3 (by kernel_rfl) (h2 _ (List.mem_of_getElem? (i := 4) rfl))
  obtain rfl := Option.some.inj e4
  obtain ⟨a5, e5, w5⟩ := part_int Try.underlying3 (by kernel_rfl) (h2 _ (List.mem_of_getElem? (i := 5) rfl))
  obtain rfl := Option.some.inj e5
  exact ⟨⟨a0, a1, a2, a3, a4, a5⟩, rfl, w0, w1, w2, w3, w4, w5⟩

theorem item_plain (x : Item) : x.cells.length = 6 ∧ ∀ u ∈ x.cells, af u = true ∧ flat u = true := by
  refine ⟨rfl, fun u hu => ?_⟩
  simp only [Item.cells, List.mem_cons, List.not_mem_nil, or_false] at hu
  rcases hu with rfl | rfl | rfl | rfl | rfl | rfl <;> exact ⟨rfl, rfl⟩
theorem int_plain (n : Int) : ([.int .i64 n] : List Value).length = 1 ∧ ∀ u ∈ ([.int .i64 n] : List Value), af u = true ∧ flat u = true := by
  refine ⟨rfl, fun u hu => ?_⟩
  simp only [List.mem_cons, List.not_mem_nil, or_false] at hu
  subst hu; exact ⟨rfl, rfl⟩

/-- A desk among a law's arguments. -/
theorem open_desk {H : Type} {enc : TypeId × Value → H} {W : World} {base : Nat} {v : Value} {d : DataW H} {ps : List MemPlace} {m : Map} {h : Heap} {spare : Nat → Bool}
    (hval : Value.okWide Try.prog W .any base 53 v) (ht : DataW.Trod enc Try.prog W 0 spare true 53 v d ps) (r : WRel 0 m h W) (hno : NoOwn h) :
    ∃ (now : Int) (people : List Int) (items : List Item) (vp vi : Value) (m' : Map) (h' : Heap), (Lit.int .i64 now).wf = true ∧ WRel 0 m' (h ++ h') W ∧ NoOwn (h ++ h') ∧ Agree h.length m m' ∧
      Sl (h ++ h') vp 1 (ints people) ∧ Sl (h ++ h') vi 6 (items.map Item.cells) ∧ VRel (h ++ h').length m' (.agg #[.int .i64 now, vp, vi]) v ∧
      (∀ x ∈ people, (Lit.int .i64 x).wf = true) ∧ (∀ x ∈ items, x.wf) ∧ people.length ≤ maxLen ∧ items.length ≤ maxLen := by
  obtain ⟨cs, rfl, hl, n, hf⟩ := open_parts Try.underlying53 hval ht
  rw [show Try.prog.cellsOf 53 = 3 by kernel_rfl] at hl
  obtain ⟨x0, x1, x2, rfl⟩ := len3 hl
  obtain ⟨now, e0, w0⟩ := part_int Try.underlying3 (by kernel_rfl) (hf 0 _ rfl)
  obtain rfl := Option.some.inj e0
  have hts : Try.prog.cellTypes Try.prog.depth 53 = some [3, 24, 51] := by kernel_rfl
  have c1 := cell_slice Try.underlying24 (okWide_cell Try.underlying53 hval hts (i := 1) rfl rfl)
  have c2 := cell_slice Try.underlying51 (okWide_cell Try.underlying53 hval hts (i := 2) rfl rfl)
  obtain ⟨y1, t1⟩ := hf 1 _ rfl
  obtain ⟨y2, t2⟩ := hf 2 _ rfl
  have s1 := open_slice (n := 1) (fun z => [.int .i64 z]) (fun z => (Lit.int .i64 z).wf = true) Try.underlying24 (by kernel_rfl) (fun fuel cs y hy => el_int Try.underlying3 fuel cs y hy) c1
    (by simpa [show Try.prog.cellsOf 24 = 1 by kernel_rfl] using t1)
  have s2 := open_slice (n := 6) Item.cells Item.wf Try.underlying51 (by kernel_rfl) (fun fuel cs y hy => el_item fuel cs y hy) c2
    (by simpa [show Try.prog.cellsOf 51 = 1 by kernel_rfl] using t2)
  obtain ⟨people, m1, h1, vp, r1, no1, ag1, sl1, vr1, wf1, len1⟩ := open_arg _ _ int_plain r hno s1
  obtain ⟨items, m2, h2, vi, r2, no2, ag2, sl2, vr2, wf2, len2⟩ := open_arg _ _ item_plain r1 no1 s2
  rw [List.append_assoc] at *
  refine ⟨now, people, items, vp, vi, m2, h1 ++ h2, w0, r2, no2, ag1.trans ag2 (by simp), ?_, sl2, ?_, wf1, wf2, len1, len2⟩
  · have := sl1.old h2
    rw [List.append_assoc] at this; exact this
  · have q1 := vr1.mono (n' := (h ++ (h1 ++ h2)).length) (by simp) ag2
    exact VRs.agg (l := [.int .i64 now, vp, vi]) (l' := [.int .i64 now, x1, x2]) ⟨.int _ _, q1, vr2, trivial⟩

/-- A slice of whole numbers among a law's arguments. -/
theorem open_ints {H : Type} {enc : TypeId × Value → H} {W : World} {base : Nat} {v : Value} {d : DataW H} {ps : List MemPlace} {m : Map} {h : Heap} {spare : Nat → Bool}
    (hval : Value.okWide Try.prog W .any base 24 v) (ht : DataW.Trod enc Try.prog W 0 spare true 24 v d ps) (r : WRel 0 m h W) (hno : NoOwn h) :
    ∃ (l : List Int) (v' : Value) (m' : Map) (h' : Heap), WRel 0 m' (h ++ h') W ∧ NoOwn (h ++ h') ∧ Agree h.length m m' ∧
      Sl (h ++ h') v' 1 (ints l) ∧ VRel (h ++ h').length m' v' v ∧ (∀ x ∈ l, (Lit.int .i64 x).wf = true) ∧ l.length ≤ maxLen := by
  have c1 := value_slice Try.underlying24 hval
  obtain ⟨fuel, hf⟩ := ht
  have hf' : DataW.trod enc Try.prog W 0 spare true fuel 24 [v] = some (d, ps) := by
    have hv : v.cells.toList = [v] := by
      unfold Cell.ok at c1
      rw [Try.underlying24] at c1
      cases v <;> first | rfl | (exact c1.elim)
    rw [← hv]; exact hf
  have s1 := open_slice (n := 1) (fun z => [.int .i64 z]) (fun z => (Lit.int .i64 z).wf = true) Try.underlying24 (by kernel_rfl) (fun fuel cs y hy => el_int Try.underlying3 fuel cs y hy) c1 hf'
  obtain ⟨l, m1, h1, vp, r1, no1, ag1, sl1, vr1, wf1, len1⟩ := open_arg _ _ int_plain r hno s1
  exact ⟨l, vp, m1, h1, r1, no1, ag1, sl1, vr1, wf1, len1⟩
end Go.Proofs.Ytodpfcgjlcecmaa.Am

