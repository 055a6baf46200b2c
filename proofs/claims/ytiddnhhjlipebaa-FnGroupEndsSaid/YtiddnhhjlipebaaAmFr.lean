/- Slices in memory of their own, as they are made; what is kept of them; one appended to another. Conditions: none. -/
import Derived.Test.YtiddnhhjlipebaaAmLib
namespace Go.Proofs.Ytiddnhhjlipebaa.Am
open Go Go.RowKit
set_option linter.unusedVariables false
set_option linter.unusedSimpArgs false

/-- A slice that is nil, or the whole of a block behind n. -/
def Fr (n : Nat) (L : Heap) (v : Value) (e : Nat) (cs : List Value) (len : Nat) : Prop :=
  (v = .slice none 0 0 ∧ len = 0 ∧ cs = []) ∨ (len ≠ 0 ∧ cs.length = len * e ∧ ∃ k sp, (sp = none ∨ sp = some 0) ∧ v = .slice (some ⟨n + k, 0, sp⟩) len len ∧ L[k]? = some ⟨2, e, cs⟩)

theorem Fr.nil (n : Nat) (L : Heap) (e : Nat) : Fr n L (.slice none 0 0) e [] 0 := .inl ⟨rfl, rfl, rfl⟩
theorem Fr.at {n : Nat} {L : Heap} {e len k : Nat} {cs : List Value} {sp : Option Nat} (hb : L[k]? = some ⟨2, e, cs⟩) (hl : cs.length = len * e) (h0 : len ≠ 0) (hs : sp = none ∨ sp = some 0) : Fr n L (.slice (some ⟨n + k, 0, sp⟩) len len) e cs len :=
  .inr ⟨h0, hl, k, sp, hs, rfl, hb⟩
theorem Fr.at0 {n : Nat} {L : Heap} {e len : Nat} {cs : List Value} {sp : Option Nat} (hb : L[0]? = some ⟨2, e, cs⟩) (hl : cs.length = len * e) (h0 : len ≠ 0) (hs : sp = none ∨ sp = some 0) : Fr n L (.slice (some ⟨n, 0, sp⟩) len len) e cs len :=
  Fr.at (k := 0) hb hl h0 hs
theorem App.fr {n : Nat} {L : Heap} {v : Value} {e : Nat} {cs : List Value} {len : Nat} (h : App n L v e cs len) : Fr n L v e cs len := by
  rcases h with h | ⟨h1, h2, k, h3, h4⟩
  · exact .inl h
  · exact .inr ⟨h1, h2, k, some 0, .inr rfl, h3, h4⟩
theorem Fr.more {n : Nat} {L : Heap} {v : Value} {e : Nat} {cs : List Value} {len : Nat} (h : Fr n L v e cs len) (E : Heap) : Fr n (L ++ E) v e cs len := by
  rcases h with h | ⟨h1, h2, k, sp, h3, h4, h5⟩
  · exact .inl h
  · exact .inr ⟨h1, h2, k, sp, h3, h4, get_old h5⟩
theorem Fr.cons {n : Nat} {L : Heap} {v : Value} {e : Nat} {cs : List Value} {len : Nat} (h : Fr (n + 1) L v e cs len) (B : Blk) : Fr n (B :: L) v e cs len := by
  rcases h with h | ⟨h1, h2, k, sp, h3, rfl, h5⟩
  · exact .inl h
  · exact .inr ⟨h1, h2, k + 1, sp, h3, by rw [show n + (k + 1) = n + 1 + k from by omega], by simpa using h5⟩
theorem Fr.pre {n : Nat} {L : Heap} {v : Value} {e : Nat} {cs : List Value} {len : Nat} (E : Heap) (h : Fr (n + E.length) L v e cs len) : Fr n (E ++ L) v e cs len := by
  rcases h with h | ⟨h1, h2, k, sp, h3, rfl, h5⟩
  · exact .inl h
  · exact .inr ⟨h1, h2, E.length + k, sp, h3, by rw [Nat.add_assoc], by rw [get_at]; exact h5⟩
theorem Fr.flat {n : Nat} {L : Heap} {v : Value} {e : Nat} {cs : List Value} {len : Nat} (h : Fr n L v e cs len) : Am.flat v = true := by
  rcases h with ⟨rfl, _⟩ | ⟨_, _, k, sp, _, rfl, _⟩ <;> rfl

/-- The kept form: its value, its blocks. -/
def cV (n len : Nat) : Value := if len = 0 then .slice none 0 0 else .slice (some ⟨n, 0, some 0⟩) len len
def cL (e : Nat) (cs : List Value) (len : Nat) : Heap := if len = 0 then [] else [⟨2, e, cs⟩]

theorem canon_fr {h L : Heap} {v : Value} {e len : Nat} {cs : List Value} (rest : List Value) (ha : Fr h.length L v e cs len) (hp : ∀ x ∈ cs, af1 x = true) (hr : ∀ x ∈ rest, af1 x = true) :
    ∃ (L' : Heap) (ks : List Nat), h ++ L = h ++ L' ∧ Inj ks ∧ ks.length = (cL e cs len).length ∧ BsOk (cL e cs len) L' ks ∧ RV h.length L' ks (.tuple (cV h.length len :: rest).toArray) (.tuple (v :: rest).toArray) := by
  have plain : ∀ (ks : List Nat) (l : List Value), (∀ x ∈ l, af1 x = true) → RVl h.length L ks l l := by
    intro ks l
    induction l with
    | nil => intro _; trivial
    | cons x l ih => intro hl; exact ⟨.plain _ (hl x (by simp)), ih fun y hy => hl y (by simp [hy])⟩
  rcases ha with ⟨rfl, rfl, rfl⟩ | ⟨h1, h2, k, sp, h3, rfl, h4⟩
  · exact ⟨L, [], rfl, Inj.nil, rfl, BsOk.nil _ _, RVl.tuple (l := _ :: rest) (l' := _ :: rest) ⟨.plain _ rfl, plain _ _ hr⟩⟩
  · simp only [cL, cV, if_neg h1]
    exact ⟨L, [k], rfl, Inj.one k, rfl, BsOk.cons rfl hp h4 (BsOk.nil _ _), RVl.tuple (l := _ :: rest) (l' := _ :: rest) ⟨.sl 0 k _ _ e _ _ rfl h4 h2 (Nat.le_refl _) (by rcases h3 with h3 | h3 <;> simp [h3]), plain _ _ hr⟩⟩

theorem canon_fr1 {h L : Heap} {v : Value} {e len : Nat} {cs : List Value} (ha : Fr h.length L v e cs len) (hp : ∀ x ∈ cs, af1 x = true) :
    ∃ (L' : Heap) (ks : List Nat), h ++ L = h ++ L' ∧ Inj ks ∧ ks.length = (cL e cs len).length ∧ BsOk (cL e cs len) L' ks ∧ RV h.length L' ks (cV h.length len) v := by
  rcases ha with ⟨rfl, rfl, rfl⟩ | ⟨h1, h2, k, sp, h3, rfl, h4⟩
  · exact ⟨L, [], rfl, Inj.nil, rfl, BsOk.nil _ _, .plain _ rfl⟩
  · simp only [cL, cV, if_neg h1]
    exact ⟨L, [k], rfl, Inj.one k, rfl, BsOk.cons rfl hp h4 (BsOk.nil _ _), .sl 0 k _ _ e _ _ rfl h4 h2 (Nat.le_refl _) (by rcases h3 with h3 | h3 <;> simp [h3])⟩

/-- One slice appended to another, both the whole of a block. -/
theorem apS_full {P : Program} {H : Heap} {t e : TypeId} {z : List Value} {b' id1 id2 n m : Nat} {sp : Option Nat} {cs xs : List Value} (hs : slT P t = some e) (hz : zcT P e = some z) (hb : byT P e = some b')
    (h1 : H[id1]? = some ⟨2, z.length, cs⟩) (h2 : H[id2]? = some ⟨2, z.length, xs⟩) (hc : cs.length = n * z.length) (hx : xs.length = m * z.length) (hm : m ≠ 0)
    (hle : (n + m) * b' ≤ 70368744177664) (hl2 : n + m ≤ 4611686018427387904) :
    apS P H t t (.slice (some ⟨id1, 0, some 0⟩) n n) (.slice (some ⟨id2, 0, sp⟩) m m) = some (.slice (some ⟨H.length, 0, some 0⟩) (n + m) (n + m), H.set id1 ⟨0, 0, []⟩ ++ [⟨2, z.length, cs ++ xs⟩]) := by
  have hnews : Am.cellsOf H z.length m (.slice (some ⟨id2, 0, sp⟩) m m) = some xs := by
    simp only [Am.cellsOf]
    exact load_whole h2 hx.symm
  have holds : Am.cellsOf H z.length n (.slice (some ⟨id1, 0, some 0⟩) n n) = some cs := by
    simp only [Am.cellsOf]
    exact load_whole h1 hc.symm
  unfold apS
  simp only [hs, hz, hb, hnews]
  rw [if_pos ⟨Nat.le_refl _, Nat.le_refl _⟩, if_neg hm, if_neg (by omega), if_pos ⟨hle, hl2⟩]
  simp only [holds, h1]
  rw [if_neg (by simp), if_pos (by simp)]
  simp [newS]
theorem apS_full_none {P : Program} {H : Heap} {t e : TypeId} {z : List Value} {b' id1 id2 n m : Nat} {sp : Option Nat} {cs xs : List Value} (hs : slT P t = some e) (hz : zcT P e = some z) (hb : byT P e = some b')
    (h1 : H[id1]? = some ⟨2, z.length, cs⟩) (h2 : H[id2]? = some ⟨2, z.length, xs⟩) (hc : cs.length = n * z.length) (hx : xs.length = m * z.length) (hm : m ≠ 0)
    (hle : (n + m) * b' ≤ 70368744177664) (hl2 : n + m ≤ 4611686018427387904) :
    apS P H t t (.slice (some ⟨id1, 0, none⟩) n n) (.slice (some ⟨id2, 0, sp⟩) m m) = some (.slice (some ⟨H.length, 0, some 0⟩) (n + m) (n + m), H ++ [⟨2, z.length, cs ++ xs⟩]) := by
  have hnews : Am.cellsOf H z.length m (.slice (some ⟨id2, 0, sp⟩) m m) = some xs := by
    simp only [Am.cellsOf]
    exact load_whole h2 hx.symm
  have holds : Am.cellsOf H z.length n (.slice (some ⟨id1, 0, none⟩) n n) = some cs := by
    simp only [Am.cellsOf]
    exact load_whole h1 hc.symm
  unfold apS
  simp only [hs, hz, hb, hnews]
  rw [if_pos ⟨Nat.le_refl _, Nat.le_refl _⟩, if_neg hm, if_neg (by omega), if_pos ⟨hle, hl2⟩]
  simp only [holds]
  simp [newS]
theorem bsl_agg {P : Program} {t e : TypeId} {z : List Value} {cs : List Value} {h : Heap} (hs : slT P t = some e) (hz : zcT P e = some z) (hl : cs.length = z.length) (hf : cs.all Am.flat = true) (hsm : z.length ≤ 16777216) (hsp : splice z 0 cs = cs) :
    bsl P t h 1 [(0, .agg cs.toArray)] = some (.slice (some ⟨h.length, 0, none⟩) 1 1, h ++ [⟨2, z.length, cs⟩]) := by
  have hv : vcs (.agg cs.toArray) = some cs := by simp [vcs, hf]
  have hsp2 : splice (zeros z 1) 0 cs = cs := by simpa [zeros] using hsp
  have hzl : (zeros z 1).length = z.length := by simp [zeros]
  simp [bsl, hs, hz, fillL, newS, hv, hl, hsp2, hzl, hsm]
/-- The block of a slice that a world has. -/
theorem VRel.bid_lt {n : Nat} {m : Map} {v v' : Value} {b : Nat} (h : VRel n m v v') (hb : bid v = some b) : b < n := by
  cases h <;> simp [bid] at hb <;> omega
theorem wf_u8 {x : Int} (h : (Lit.int .u8 x).wf = true) : 0 ≤ x ∧ x ≤ 255 := by
  simp [Lit.wf, IntKind.min, IntKind.max, IntKind.signed, IntKind.bits] at h
  omega
theorem vcs_flat {v : Value} (h : Am.flat v = true) : vcs v = some [v] := by
  cases v <;> first | rfl | (simp [Am.flat] at h)
/-- A walk that is to stop ahead of an operation. -/
structure Parked (p : Prop) : Prop where
  h : p
theorem xr_park {P : Program} {G : Glo} {Q : Exit → Tmps → Heap → Prop} {ops : Array Oper} {T : Tmps} {h : Heap} {rest : List Oper} {op : Op} {ty : TypeId} {pos : String} {aft : Array Edge} {g : Option (Nat × Bool)} (d : Nat)
    (hk : Parked (XR P G ops Q (⟨some d, op, ty, pos, aft, g⟩ :: rest) T h)) : XR P G ops Q (⟨some d, op, ty, pos, aft, g⟩ :: rest) T h := hk.h
theorem len_max {n : Nat} (h : n ≤ maxLen) : n ≤ 9223372036854775807 := by unfold maxLen at h; omega
end Go.Proofs.Ytiddnhhjlipebaa.Am
