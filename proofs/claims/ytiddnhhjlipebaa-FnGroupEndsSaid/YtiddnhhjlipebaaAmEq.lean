/- Equality of structs of plain parts; strings and bytes among a law's arguments. Conditions: none. -/
import Derived.Test.YtiddnhhjlipebaaAmY
import Derived.Test.YtiddnhhjlipebaaAmArg
namespace Go.Proofs.Ytiddnhhjlipebaa.Am
open Go Go.RowKit
set_option linter.unusedVariables false
set_option linter.unusedSimpArgs false

theorem pr_part {P : Program} {t : TypeId} (hi : pureRun P (isAgg t) = some false) (cs : Array Value) (off : Nat) {v : Value} (hv : cs[off]? = some v) : pureRun P (part t cs off) = some v := by
  unfold part
  rw [pureRun_bind, hi]
  simp [hv, pureRun_pure]
theorem pr_int {P : Program} {t : TypeId} {k : IntKind} (hu : P.underlying t = some (.int k)) (n : Nat) (a b : Int) : pureRun P (Op.equalIn (n + 1) t (.int k a) (.int k b)) = some (a == b) := by
  simp [Op.equalIn, pureRun_bind, underlying, program, pureRun, hu, pureRun_pure]
theorem pr_bool {P : Program} {t : TypeId} (hu : P.underlying t = some .bool) (n : Nat) (a b : Bool) : pureRun P (Op.equalIn (n + 1) t (.bool a) (.bool b)) = some (a == b) := by
  simp [Op.equalIn, pureRun_bind, underlying, program, pureRun, hu]
  rfl
theorem ba_beq (a b : ByteArray) : (a == b) = decide (a = b) := by
  obtain ⟨x⟩ := a
  obtain ⟨y⟩ := b
  have e : ((ByteArray.mk x) == (ByteArray.mk y)) = (x == y) := by rfl
  rw [e, Bool.eq_iff_iff, beq_iff_eq, decide_eq_true_eq]
  simp
theorem pr_str {P : Program} {t : TypeId} (hu : P.underlying t = some .string) (n : Nat) (a b : ByteArray) : pureRun P (Op.equalIn (n + 1) t (.string a) (.string b)) = some (decide (a = b)) := by
  rw [← ba_beq]
  simp [Op.equalIn, pureRun_bind, underlying, program, pureRun, hu]
  rfl
theorem pr_field {P : Program} {d : Nat} {xs ys : Array Value} {f : Field} {fs : List Field} {x y : Value} {r q : Bool} (hn : f.name ≠ "_") (h1 : pureRun P (part f.type xs f.offset) = some x) (h2 : pureRun P (part f.type ys f.offset) = some y)
    (h3 : pureRun P (Op.equalIn d f.type x y) = some r) (h4 : pureRun P (Op.eqFields d xs ys fs) = some q) : pureRun P (Op.eqFields d xs ys (f :: fs)) = some (r && q) := by
  simp only [Op.eqFields, if_pos hn, pureRun_bind, h1, h2, h3, Option.bind_some]
  cases r
  · rfl
  · simpa using h4

theorem agg_cmp {P : Program} {t : TypeId} {fs : Array Field} {xs ys : Array Value} {r : Bool} {xo yo : Operand} (hu : P.underlying t = some (.struct fs)) (hst : Program.stoodInHeld P t = false)
    (hgt : Program.eqGuardType P (Program.depth P) t = false) (haf : (xs.all af1 && ys.all af1) = true) (hf : pureRun P (Op.eqFields (9998 + 1) xs ys fs.toList) = some r) :
    binV P .eql t xo yo (.agg xs) (.agg ys) = some (.bool r) ∧ binV P .neq t xo yo (.agg xs) (.agg ys) = some (.bool (!r)) := by
  have hg1 : pureRun P (eqGuard .eql t xo yo (.agg xs) (.agg ys)) = some () := by
    simp [eqGuard, pureRun_bind, program, pureRun, hgt]
    rfl
  have hg2 : pureRun P (eqGuard .neq t xo yo (.agg xs) (.agg ys)) = some () := by
    simp [eqGuard, pureRun_bind, program, pureRun, hgt]
    rfl
  have hd : Op.maxDepth - 1 = 9998 + 1 := rfl
  constructor
  · simp only [binV, haf, if_true, hu, hst, Bool.false_eq_true, if_false, hg1, hd, hf]
  · simp only [binV, haf, if_true, hu, hst, Bool.false_eq_true, if_false, hg2, hd, hf]

section
variable {H : Type} {enc : TypeId × Value → H} {P : Program} {w : World} {base : Nat} {spare : Nat → Bool} {held : Bool}

theorem open_str {r : Reach} {b0 : Nat} {t : TypeId} {v : Value} {d : DataW H} {ps : List MemPlace} (ht : P.underlying t = some .string) (hval : Value.okWide P w r b0 t v) (hd : DataW.Trod enc P w base spare held t v d ps) :
    ∃ s : ByteArray, v = .string s ∧ s.size ≤ 9223372036854775807 := by
  obtain ⟨fuel, hf⟩ := hd
  obtain ⟨s, h1, h2⟩ := trod_string ht hf
  refine ⟨s, ?_, by unfold maxLen at h2; omega⟩
  unfold Value.okWide at hval
  rw [ht] at hval
  cases v <;> simp [Value.cells] at h1 <;> first | (subst h1; rfl) | skip
  all_goals first | (exact hval.elim) | (obtain ⟨_, q⟩ := hval; cases q) | (simp_all [Cell.okWide, Cell.ok])

theorem part_str {n o : Nat} {t : TypeId} {cs : List Value} (ht : P.underlying t = some .string) (hc : P.cellsOf t = 1)
    (h : ∃ y, DataW.trod enc P w base spare held n t ((cs.drop o).take (P.cellsOf t)) = some y) : ∃ s, cs[o]? = some (.string s) ∧ s.size ≤ maxLen := part_string ht hc h

theorem len2 {l : List Value} (h : l.length = 2) : ∃ a b, l = [a, b] := by
  match l, h with
  | [a, b], _ => exact ⟨a, b, rfl⟩
theorem len4 {l : List Value} (h : l.length = 4) : ∃ a b c d, l = [a, b, c, d] := by
  match l, h with
  | [a, b, c, d], _ => exact ⟨a, b, c, d, rfl⟩
theorem len5 {l : List Value} (h : l.length = 5) : ∃ a b c d e, l = [a, b, c, d, e] := by
  match l, h with
  | [a, b, c, d, e], _ => exact ⟨a, b, c, d, e, rfl⟩
theorem len7 {l : List Value} (h : l.length = 7) : ∃ a b c d e f g, l = [a, b, c, d, e, f, g] := by
  match l, h with
  | [a, b, c, d, e, f, g], _ => exact ⟨a, b, c, d, e, f, g, rfl⟩
theorem len8 {l : List Value} (h : l.length = 8) : ∃ a b c d e f g i, l = [a, b, c, d, e, f, g, i] := by
  match l, h with
  | [a, b, c, d, e, f, g, i], _ => exact ⟨a, b, c, d, e, f, g, i, rfl⟩

/-- A slice of numbers of one kind among a law's arguments. -/
theorem open_nums {k : IntKind} {t e : TypeId} {b0 : Nat} {v : Value} {d : DataW H} {ps : List MemPlace} {G : Glo} {m : Map} {h : Heap} (ht : P.underlying t = some (.slice e)) (he : P.underlying e = some (.int k)) (hc : P.cellsOf e = 1)
    (hval : Value.okWide P w .any b0 t v) (hd : DataW.Trod enc P w 0 spare true t v d ps) (r : WRel G m h w) (hno : NoOwn h) :
    ∃ (l : List Int) (v' : Value) (m' : Map) (h' : Heap), WRel G m' (h ++ h') w ∧ NoOwn (h ++ h') ∧ Agree h.length m m' ∧
      Sl (h ++ h') v' 1 (l.map fun n => [.int k n]) ∧ VRel (h ++ h').length m' v' v ∧ (∀ x ∈ l, (Lit.int k x).wf = true) ∧ l.length ≤ maxLen := by
  have c1 := value_slice ht hval
  obtain ⟨fuel, hf⟩ := hd
  have hf' : DataW.trod enc P w 0 spare true fuel t [v] = some (d, ps) := by
    have hv : v.cells.toList = [v] := by
      unfold Cell.ok at c1
      rw [ht] at c1
      cases v <;> first | rfl | (exact c1.elim)
    rw [← hv]; exact hf
  have s1 := open_slice (n := 1) (fun z => [.int k z]) (fun z => (Lit.int k z).wf = true) ht hc (fun fuel cs y hy => el_int he fuel cs y hy) c1 hf'
  obtain ⟨l, m1, h1, vp, r1, no1, ag1, sl1, vr1, wf1, len1⟩ := open_arg _ _ (n := 1) (fun z => ⟨rfl, fun u hu => by simp only [List.mem_cons, List.not_mem_nil, or_false] at hu; subst hu; exact ⟨rfl, rfl⟩⟩) r hno s1
  exact ⟨l, vp, m1, h1, r1, no1, ag1, sl1, vr1, wf1, len1⟩
end
end Go.Proofs.Ytiddnhhjlipebaa.Am
