/- Blocks that are filled row by row. Conditions: none. -/
import Derived.Test.YtiddnhhjlipebaaAmT
import Derived.Test.YtiddnhhjlipebaaAmOpen
namespace Go.Proofs.Ytiddnhhjlipebaa.Am
open Go
set_option linter.unusedVariables false
set_option linter.unusedSimpArgs false

theorem splice_mid (b b' : List Value) (hb : b.length = b'.length) : ∀ (a c : List Value), splice (a ++ b ++ c) a.length b' = a ++ b' ++ c := by
  induction b' generalizing b with
  | nil =>
    intro a c
    have : b = [] := List.length_eq_zero_iff.1 hb
    subst this; simp [splice]
  | cons v vs ih =>
    intro a c
    match b, hb with
    | x :: xs, hb =>
      simp only [splice]
      have e : (a ++ x :: xs ++ c).set a.length v = (a ++ [v]) ++ xs ++ c := by
        rw [List.append_assoc, List.set_append_right _ _ (Nat.le_refl _)]
        simp
      rw [e]
      have := ih xs (by simpa using hb) (a ++ [v]) c
      simp only [List.length_append, List.length_cons, List.length_nil, Nat.zero_add] at this
      rw [this]
      simp

/-- A block of as many rows as there are, the first k of them written, the rest still zero. -/
def fill (z : List Value) (rows : List (List Value)) (k : Nat) : List Value := (rows.take k ++ List.replicate (rows.length - k) z).flatten

theorem fill_zero (z : List Value) (rows : List (List Value)) : fill z rows 0 = zeros z rows.length := by simp [fill, zeros]
theorem fill_all (z : List Value) (rows : List (List Value)) {k : Nat} (h : rows.length ≤ k) : fill z rows k = rows.flatten := by
  unfold fill
  rw [List.take_of_length_le h, show rows.length - k = 0 from by omega]; simp

theorem flatten_len {e : Nat} : ∀ (rows : List (List Value)), (∀ r ∈ rows, r.length = e) → rows.flatten.length = rows.length * e := length_flatten_rows

theorem fill_set {z : List Value} {rows : List (List Value)} {e k : Nat} {h : Heap} (hr : ∀ r ∈ rows, r.length = e) (hz : z.length = e) (hk : k < rows.length) :
    setCs (⟨2, e, fill z rows k⟩ :: h) 0 (k * e) rows[k] = some (⟨2, e, fill z rows (k + 1)⟩ :: h) := by
  have hpre : (rows.take k).flatten.length = k * e := by
    rw [flatten_len _ (fun r hr' => hr r (List.mem_of_mem_take hr')), List.length_take, Nat.min_eq_left (Nat.le_of_lt hk)]
  have e1 : fill z rows k = (rows.take k).flatten ++ z ++ (List.replicate (rows.length - (k + 1)) z).flatten := by
    unfold fill
    rw [show rows.length - k = (rows.length - (k + 1)) + 1 from by omega, List.replicate_succ]
    simp
  have hrk : rows[k].length = e := hr _ (List.getElem_mem hk)
  have hlen : (fill z rows k).length = rows.length * e := by
    rw [e1]
    simp only [List.length_append, hpre, hz]
    rw [flatten_len (e := e) _ (fun r hr' => by rw [(List.mem_replicate.1 hr').2]; exact hz), List.length_replicate]
    rw [← Nat.succ_mul, ← Nat.add_mul]; congr 1; omega
  rw [setCs_zero, if_pos]
  · congr 3
    rw [e1, ← hpre, splice_mid z rows[k] (by rw [hz, hrk])]
    unfold fill
    rw [← List.take_append_getElem hk]; simp only [List.flatten_append, List.flatten_cons, List.flatten_nil, List.append_nil]
  · rw [hlen, hrk, ← Nat.succ_mul]
    exact Nat.mul_le_mul_right _ hk

section
variable {P : Program} {h : Heap}

theorem mkS_eq {t e : TypeId} {z : List Value} {b' n : Nat} {k : IntKind} (hs : slT P t = some e) (hz : zcT P e = some z) (hb : byT P e = some b') (hn : b' * n ≤ 281474976710656) (hn2 : n ≤ 9223372036854775807) :
    mkS P t h (.int k n) (.int k n) = some (.slice (some ⟨h.length, 0, none⟩) n n, h ++ [⟨2, z.length, zeros z n⟩]) := by
  unfold mkS
  simp only [hs, hz, hb]
  rw [if_pos ⟨by omega, by omega, by
    have : ((b' * n : Nat) : Int) ≤ 281474976710656 := by omega
    rw [Int.natCast_mul] at this; exact this, by omega⟩]
  simp only [newS, Int.toNat_natCast]

/-- A new block that holds rows. -/
theorem Sl.new {e : Nat} {rows : List (List Value)} (hr : ∀ r ∈ rows, r.length = e) (L : Heap) : Sl (h ++ ⟨2, e, rows.flatten⟩ :: L) (.slice (some ⟨h.length, 0, none⟩) rows.length rows.length) e rows :=
  Sl.of_block (k := 2) (by simp) (.inr rfl) hr (Nat.le_refl _)
theorem Sl.at {e n k : Nat} {rows : List (List Value)} {L : Heap} (hb : L[k]? = some ⟨2, e, rows.flatten⟩) (hr : ∀ r ∈ rows, r.length = e) (hn : n = rows.length) :
    Sl (h ++ L) (.slice (some ⟨h.length + k, 0, none⟩) n n) e rows := by
  subst hn
  exact Sl.of_block (id := h.length + k) (k := 2) (by rw [get_at]; exact hb) (.inr rfl) hr (Nat.le_refl _)
theorem Sl.at0 {e n : Nat} {rows : List (List Value)} {L : Heap} (hb : L[0]? = some ⟨2, e, rows.flatten⟩) (hr : ∀ r ∈ rows, r.length = e) (hn : n = rows.length) :
    Sl (h ++ L) (.slice (some ⟨h.length, 0, none⟩) n n) e rows := Sl.at (k := 0) hb hr hn
end
end Go.Proofs.Ytiddnhhjlipebaa.Am
