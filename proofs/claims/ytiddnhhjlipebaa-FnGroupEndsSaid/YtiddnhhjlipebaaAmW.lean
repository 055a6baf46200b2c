/- Slices of one's own: overwritten, read again, marked. Conditions: none. -/
import Derived.Test.YtiddnhhjlipebaaAmCan
namespace Go.Proofs.Ytiddnhhjlipebaa.Am
open Go
set_option linter.unusedVariables false
set_option linter.unusedSimpArgs false

/-- A slice that is nil, or the whole of a block of one's own. -/
def Own (h : Heap) (v : Value) (e : Nat) (cs : List Value) (n : Nat) : Prop :=
  (v = .slice none 0 0 ∧ n = 0 ∧ cs = []) ∨ ∃ id sp c, v = .slice (some ⟨id, 0, sp⟩) n c ∧ n ≤ c ∧ cs.length = n * e ∧ h[id]? = some ⟨2, e, cs⟩

def mset (h : Heap) (v : Value) (b : Blk) : Heap := match v with | .slice (some a) _ _ => h.set a.block b | _ => h

theorem mset_some (h : Heap) (a : Addr) (l c : Nat) (b : Blk) : mset h (.slice (some a) l c) b = h.set a.block b := rfl
theorem mset_none (h : Heap) (l c : Nat) (b : Blk) : mset h (.slice none l c) b = h := rfl

/-- The block of a slice. -/
def bid : Value → Option Nat
  | .slice (some a) _ _ => some a.block
  | _ => none

def marksC (s : Int) (n : Nat) : List Value := (List.range n).map fun (i : Nat) => .int .i64 (s + (i : Int))
theorem marksC_length (s : Int) (n : Nat) : (marksC s n).length = n := by simp [marksC]
theorem marksC_get (s : Int) {n i : Nat} (h : i < n) : (marksC s n)[i]? = some (.int .i64 (s + (i : Int))) := by
  simp [marksC, List.getElem?_range, h]
theorem marksC_zero (s : Int) : marksC s 0 = [] := rfl

/-- The first k cells are the new ones. -/
def mixC (old new : List Value) (k : Nat) : List Value := new.take k ++ old.drop k
theorem mixC_zero (old new : List Value) : mixC old new 0 = old := by simp [mixC]
theorem mixC_all {old new : List Value} (h : old.length = new.length) {k : Nat} (hk : new.length ≤ k) : mixC old new k = new := by
  unfold mixC; rw [List.take_of_length_le hk, List.drop_of_length_le (by omega)]; simp
theorem mixC_set {old new : List Value} (h : old.length = new.length) {k : Nat} {x : Value} (hx : new[k]? = some x) : (mixC old new k).set k x = mixC old new (k + 1) := by
  obtain ⟨hk, rfl⟩ := List.getElem?_eq_some_iff.1 hx
  have hk2 : k < old.length := by omega
  have e1 : (new.take k).length = k := by rw [List.length_take]; omega
  unfold mixC
  rw [List.set_append_right _ _ (by omega), e1, Nat.sub_self, List.drop_eq_getElem_cons hk2, ← List.take_append_getElem hk]
  simp only [List.set_cons_zero, List.append_assoc, List.singleton_append]
theorem mixC_length {old new : List Value} (h : old.length = new.length) (k : Nat) : (mixC old new k).length = new.length := by
  unfold mixC; simp; omega

section
variable {h : Heap}
theorem set_mix {old new : List Value} {id e e0 k : Nat} {cs0 : List Value} (hb : h[id]? = some ⟨2, e0, cs0⟩) (hl : old.length = new.length) {x : Value} (hx : new[k]? = some x) :
    setCs (h.set id ⟨2, e, mixC old new k⟩) id k [x] = some (h.set id ⟨2, e, mixC old new (k + 1)⟩) := by
  have hid := lt_of_get hb
  have hk := (List.getElem?_eq_some_iff.1 hx).1
  unfold setCs
  rw [List.getElem?_set_self hid]
  simp only [List.length_cons, List.length_nil]
  rw [if_pos ⟨trivial, by rw [mixC_length hl]; omega⟩]
  simp only [splice, List.set_set, mixC_set hl hx]

theorem set_self {id : Nat} {b : Blk} (hb : h[id]? = some b) : h.set id b = h := by
  obtain ⟨h1, h2⟩ := List.getElem?_eq_some_iff.1 hb
  rw [← h2]; simp

theorem load_cell {id e k : Nat} {cs : List Value} {x : Value} (hb : h[id]? = some ⟨2, e, cs⟩) (hx : cs[k]? = some x) : getC h id k = some x := by
  unfold getC; simp [hb, hx]

theorem Own.at {e n k c : Nat} {sp : Option Nat} {cs : List Value} {L : Heap} (hb : L[k]? = some ⟨2, e, cs⟩) (hl : cs.length = n * e) (hc : n ≤ c) : Own (h ++ L) (.slice (some ⟨h.length + k, 0, sp⟩) n c) e cs n :=
  .inr ⟨_, _, _, rfl, hc, hl, by rw [get_at]; exact hb⟩
theorem Own.at0 {e n c : Nat} {sp : Option Nat} {cs : List Value} {L : Heap} (hb : L[0]? = some ⟨2, e, cs⟩) (hl : cs.length = n * e) (hc : n ≤ c) : Own (h ++ L) (.slice (some ⟨h.length, 0, sp⟩) n c) e cs n := Own.at (k := 0) hb hl hc
theorem Own.nil (e : Nat) : Own h (.slice none 0 0) e [] 0 := .inl ⟨rfl, rfl, rfl⟩
theorem Own.flat {v : Value} {e n : Nat} {cs : List Value} (ho : Own h v e cs n) : Am.flat v = true := by
  rcases ho with ⟨rfl, _⟩ | ⟨_, _, _, rfl, _⟩ <;> rfl
theorem Own.old {v : Value} {e n : Nat} {cs : List Value} (ho : Own h v e cs n) (L : Heap) : Own (h ++ L) v e cs n := by
  rcases ho with h1 | ⟨id, sp, c, h1, h2, h3, h4⟩
  · exact .inl h1
  · exact .inr ⟨id, sp, c, h1, h2, h3, get_old h4⟩
theorem Own.ne {v v2 : Value} {e n : Nat} {cs : List Value} {b : Blk} (ho : Own h v e cs n) (hne : bid v2 = none ∨ bid v ≠ bid v2) : Own (mset h v2 b) v e cs n := by
  rcases ho with h1 | ⟨id, sp, c, rfl, h2, h3, h4⟩
  · exact .inl h1
  · refine .inr ⟨id, sp, c, rfl, h2, h3, ?_⟩
    unfold mset
    split
    · rename_i a l c2
      simp only [bid] at hne
      rw [List.getElem?_set_ne (by intro q; rcases hne with q2 | q2; · simp at q2
                                   · exact q2 (by rw [q]))]; exact h4
    · exact h4
theorem Own.set {v : Value} {e n : Nat} {cs cs' : List Value} (ho : Own h v e cs n) (hl : cs'.length = cs.length) : Own (mset h v ⟨2, e, cs'⟩) v e cs' n := by
  rcases ho with ⟨rfl, rfl, rfl⟩ | ⟨id, sp, c, rfl, h2, h3, h4⟩
  · exact .inl ⟨rfl, rfl, List.length_eq_zero_iff.1 (by simpa using hl)⟩
  · refine .inr ⟨id, sp, c, rfl, h2, by omega, ?_⟩
    simp only [mset]
    rw [List.getElem?_set_self (lt_of_get h4)]
theorem mset_length (v : Value) (b : Blk) : (mset h v b).length = h.length := by unfold mset; split <;> simp
theorem mset_old {v : Value} {e n : Nat} {cs : List Value} {b : Blk} (ho : Own h v e cs n) (L : Heap) : mset (h ++ L) v b = mset h v b ++ L := by
  rcases ho with ⟨rfl, _⟩ | ⟨id, sp, c, rfl, _, _, h4⟩
  · rfl
  · simp only [mset]
    rw [List.set_append_left _ _ (lt_of_get h4)]

/-- Rows in a block of one's own, read as a slice. -/
theorem Own.sl {v : Value} {e : Nat} {rows : List (List Value)} (ho : Own h v e rows.flatten rows.length) (hr : ∀ r ∈ rows, r.length = e) : Sl h v e rows := by
  rcases ho with ⟨rfl, h1, _⟩ | ⟨id, sp, c, rfl, h2, h3, h4⟩
  · rw [List.length_eq_zero_iff.1 h1]; exact Sl.nil h e
  · exact Sl.of_block h4 (.inr rfl) hr h2

theorem sl_at {e n k c : Nat} {sp : Option Nat} {rows : List (List Value)} {L : Heap} (hb : L[k]? = some ⟨2, e, rows.flatten⟩) (hr : ∀ r ∈ rows, r.length = e) (hn : n = rows.length) (hc : n ≤ c) :
    Sl (h ++ L) (.slice (some ⟨h.length + k, 0, sp⟩) n c) e rows := by
  subst hn
  exact Sl.of_block (id := h.length + k) (k := 2) (by rw [get_at]; exact hb) (.inr rfl) hr hc

/-! ### copies by append -/

theorem loadCs_concat {id o p q : Nat} {x y : List Value} (h1 : loadCs h id o p = some x) (h2 : loadCs h id (o + p) q = some y) : loadCs h id o (p + q) = some (x ++ y) := by
  unfold loadCs at *
  cases hb : h[id]? with
  | none => rw [hb] at h1; simp at h1
  | some b =>
    rw [hb] at h1 h2
    simp only at h1 h2 ⊢
    split at h1
    · rename_i c1
      split at h2
      · rename_i c2
        rw [if_pos ⟨c1.1, by omega⟩]
        cases h1; cases h2
        rw [List.take_add, List.drop_drop]
      · cases h2
    · cases h1

theorem loadCs_rows {id o e : Nat} : ∀ (rows : List (List Value)), (loadCs h id o 0 = some []) → (∀ i r, rows[i]? = some r → loadCs h id (o + i * e) e = some r) → loadCs h id o (rows.length * e) = some rows.flatten := by
  intro rows
  induction rows generalizing o with
  | nil => intro h0 _; simpa using h0
  | cons r rows ih =>
    intro h0 hr
    have h1 := hr 0 r rfl
    rw [Nat.zero_mul, Nat.add_zero] at h1
    have h00 : loadCs h id (o + e) 0 = some [] := by
      unfold loadCs at *
      cases hb : h[id]? with
      | none => rw [hb] at h1; simp at h1
      | some b =>
        rw [hb] at h1
        simp only at h1 ⊢
        split at h1
        · rename_i c1
          rw [if_pos ⟨c1.1, by omega⟩]; simp
        · cases h1
    have h2 := ih (o := o + e) h00 (fun i r' hi => by
      have := hr (i + 1) r' (by simpa using hi)
      rw [show o + e + i * e = o + (i + 1) * e from by rw [Nat.succ_mul]; omega]; exact this)
    have := loadCs_concat h1 h2
    rw [show (r :: rows).length * e = e + rows.length * e from by simp [Nat.succ_mul, Nat.add_comm]]
    simpa using this

theorem Sl.cellsOf {e n c : Nat} {b : Option Addr} {rows : List (List Value)} (hs : Sl h (.slice b n c) e rows) (hn : rows.length = n) (h0 : n ≠ 0) : Am.cellsOf h e n (.slice b n c) = some rows.flatten := by
  obtain ⟨b', c', heq, hc, hrow⟩ := hs
  cases heq
  obtain ⟨a, rfl, hl⟩ := hrow 0 rows[0] (List.getElem?_eq_getElem (by omega))
  simp only [Am.cellsOf]
  have h00 : loadCs h a.block a.off 0 = some [] := by
    unfold loadCs at hl ⊢
    cases hb : h[a.block]? with
    | none => rw [hb] at hl; simp at hl
    | some bk =>
      rw [hb] at hl
      simp only at hl ⊢
      split at hl
      · rename_i c1
        rw [if_pos ⟨c1.1, by omega⟩]; simp
      · cases hl
  refine loadCs_rows rows h00 fun i r hr => ?_
  obtain ⟨a', q1, q2⟩ := hrow i r hr
  cases q1; exact q2

theorem bsl_empty {P : Program} {t e : TypeId} {z : List Value} (hs : slT P t = some e) (hz : zcT P e = some z) : bsl P t h 0 [] = some (.slice (some ⟨h.length, 0, none⟩) 0 0, h ++ [⟨2, z.length, []⟩]) := by
  simp [bsl, hs, hz, fillL, newS, zeros]

theorem apS_build {P : Program} {t e : TypeId} {z : List Value} {b' i n c : Nat} {b : Option Addr} {bk : Blk} {rows : List (List Value)} (hs : slT P t = some e) (hz : zcT P e = some z) (hb : byT P e = some b') (hsz : szT P e = some z.length)
    (hi : h[i]? = some bk) (hk : bk.k = 2) (hx : Sl h (.slice b n c) z.length rows) (hn : rows.length = n) (hle : n * b' ≤ 70368744177664) (hl2 : n ≤ 4611686018427387904) :
    apS P h t t (.slice (some ⟨i, 0, none⟩) 0 0) (.slice b n c) = some (if n = 0 then (.slice (some ⟨i, 0, none⟩) 0 0, h) else (.slice (some ⟨h.length, 0, some 0⟩) n n, h ++ [⟨2, z.length, rows.flatten⟩])) := by
  have hc : n ≤ c := by
    obtain ⟨b2, c2, heq, hc2, _⟩ := hx
    cases heq; omega
  unfold apS
  simp only [hs]
  rw [if_pos ⟨Nat.le_refl _, hc⟩]
  by_cases h0 : n = 0
  · rw [if_pos h0, if_pos h0, hsz]; simp
  · rw [if_neg h0, if_neg h0]
    simp only [hz, hb, hx.cellsOf hn h0]
    rw [if_neg (by omega)]
    have h3 : Am.cellsOf h z.length 0 (.slice (some ⟨i, 0, none⟩) 0 0) = some [] := by
      simp only [Am.cellsOf, Nat.zero_mul]
      unfold loadCs
      simp [hi, hk]
    simp only [Nat.zero_add, h3]
    rw [if_pos ⟨hle, hl2⟩]
    simp [newS]

theorem canon_one {k l c e : Nat} {sp : Option Nat} {cs : List Value} {L : Heap} (hb : L[k]? = some ⟨2, e, cs⟩) (hl : cs.length = l * e) (hc : l ≤ c) (hs : (sp = none ∧ c = l) ∨ sp = some 0) (hp : ∀ x ∈ cs, af1 x = true) :
    ∃ (L' : Heap) (ks : List Nat), h ++ L = h ++ L' ∧ Inj ks ∧ ks.length = [(⟨2, e, cs⟩ : Blk)].length ∧
      (∀ (i : Nat) (b : Blk), [(⟨2, e, cs⟩ : Blk)][i]? = some b → b.k = 2 ∧ (∀ x ∈ b.cs, af1 x = true) ∧ ∃ k, ks[i]? = some k ∧ L'[k]? = some b) ∧
      RV h.length L' ks (.slice (some ⟨h.length, 0, some 0⟩) l l) (.slice (some ⟨h.length + k, 0, sp⟩) l c) := by
  refine ⟨L, [k], rfl, Inj.one k, rfl, fun i b hi => ?_, RV.sl 0 k l c e sp cs rfl hb hl hc hs⟩
  match i, hi with
  | 0, hi => cases hi; exact ⟨rfl, hp, k, rfl, hb⟩

/-! ### what is kept of a result, part by part -/

def RVl (n : Nat) (L : Heap) (ks : List Nat) : List Value → List Value → Prop
  | [], [] => True
  | a :: l, b :: l' => RV n L ks a b ∧ RVl n L ks l l'
  | _, _ => False

theorem RVl.get {n : Nat} {L : Heap} {ks : List Nat} : ∀ {l l' : List Value}, RVl n L ks l l' → l.length = l'.length ∧ ∀ (i : Nat) (h1 : i < l.length) (h2 : i < l'.length), RV n L ks l[i] l'[i]
  | [], [], _ => ⟨rfl, fun i h => by simp at h⟩
  | a :: l, b :: l', h => by
      obtain ⟨h1, h2⟩ := RVl.get h.2
      refine ⟨by simp [h1], fun i q1 q2 => ?_⟩
      cases i with
      | zero => exact h.1
      | succ i => exact h2 i (by simpa using q1) (by simpa using q2)
  | [], _ :: _, h => h.elim
  | _ :: _, [], h => h.elim
theorem RVl.agg {n : Nat} {L : Heap} {ks : List Nat} {l l' : List Value} (h : RVl n L ks l l') : RV n L ks (.agg l.toArray) (.agg l'.toArray) :=
  .agg _ _ (by simpa using h.get.1) fun i h1 h2 => by simpa using h.get.2 i (by simpa using h1) (by simpa using h2)
theorem RVl.tuple {n : Nat} {L : Heap} {ks : List Nat} {l l' : List Value} (h : RVl n L ks l l') : RV n L ks (.tuple l.toArray) (.tuple l'.toArray) :=
  .tuple _ _ (by simpa using h.get.1) fun i h1 h2 => by simpa using h.get.2 i (by simpa using h1) (by simpa using h2)

def BsOk (Bs L : Heap) (ks : List Nat) : Prop := ∀ (i : Nat) (b : Blk), Bs[i]? = some b → b.k = 2 ∧ (∀ x ∈ b.cs, af1 x = true) ∧ ∃ k, ks[i]? = some k ∧ L[k]? = some b
theorem BsOk.nil (L : Heap) (ks : List Nat) : BsOk [] L ks := fun i b h => by simp at h
theorem BsOk.cons {B : Blk} {Bs L : Heap} {ks : List Nat} {k : Nat} (h1 : B.k = 2) (h2 : ∀ x ∈ B.cs, af1 x = true) (h3 : L[k]? = some B) (h : BsOk Bs L ks) : BsOk (B :: Bs) L (k :: ks) := by
  intro i b hi
  cases i with
  | zero => simp at hi; subst hi; exact ⟨h1, h2, k, rfl, h3⟩
  | succ i => simpa using h i b (by simpa using hi)
end
end Go.Proofs.Ytiddnhhjlipebaa.Am
