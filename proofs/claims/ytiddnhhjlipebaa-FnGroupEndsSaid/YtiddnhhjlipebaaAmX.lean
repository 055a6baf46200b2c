/- A slice that grows by appends. Conditions: none. -/
import Derived.Test.YtiddnhhjlipebaaAmW
namespace Go.Proofs.Ytiddnhhjlipebaa.Am
open Go
set_option linter.unusedVariables false
set_option linter.unusedSimpArgs false

/-- A slice built by appends alone, in the blocks behind n. -/
def App (n : Nat) (L : Heap) (v : Value) (e : Nat) (cs : List Value) (len : Nat) : Prop :=
  (v = .slice none 0 0 ∧ len = 0 ∧ cs = []) ∨ (len ≠ 0 ∧ cs.length = len * e ∧ ∃ k, v = .slice (some ⟨n + k, 0, some 0⟩) len len ∧ L[k]? = some ⟨2, e, cs⟩)

theorem App.nil (n : Nat) (L : Heap) (e : Nat) : App n L (.slice none 0 0) e [] 0 := .inl ⟨rfl, rfl, rfl⟩
theorem App.more {n : Nat} {L : Heap} {v : Value} {e : Nat} {cs : List Value} {len : Nat} (h : App n L v e cs len) (E : Heap) : App n (L ++ E) v e cs len := by
  rcases h with h | ⟨h1, h2, k, h3, h4⟩
  · exact .inl h
  · exact .inr ⟨h1, h2, k, h3, get_old h4⟩
theorem App.flat {n : Nat} {L : Heap} {v : Value} {e : Nat} {cs : List Value} {len : Nat} (h : App n L v e cs len) : Am.flat v = true := by
  rcases h with ⟨rfl, _⟩ | ⟨_, _, k, rfl, _⟩ <;> rfl

theorem App.cons {n : Nat} {L : Heap} {v : Value} {e : Nat} {cs : List Value} {len : Nat} (h : App (n + 1) L v e cs len) (B : Blk) : App n (B :: L) v e cs len := by
  rcases h with h | ⟨h1, h2, k, rfl, h4⟩
  · exact .inl h
  · exact .inr ⟨h1, h2, k + 1, by rw [show n + (k + 1) = n + 1 + k from by omega], by simpa using h4⟩
theorem App.cast {n n' : Nat} {L L' : Heap} {v v' : Value} {e : Nat} {cs cs' : List Value} {len len' : Nat} (h : App n L v e cs len) (h1 : n' = n) (h2 : L' = L) (h3 : v' = v) (h4 : cs' = cs) (h5 : len' = len) : App n' L' v' e cs' len' := by
  subst h1 h2 h3 h4 h5; exact h

section
variable {P : Program} {h2 : Heap}

theorem load_whole {h : Heap} {id e : Nat} {cs : List Value} (hb : h[id]? = some ⟨2, e, cs⟩) {n : Nat} (hn : n = cs.length) : loadCs h id 0 n = some cs := by
  subst hn
  unfold loadCs; simp [hb]

theorem app_step {t e : TypeId} {z : List Value} {b' : Nat} (hs : slT P t = some e) (hz : zcT P e = some z) (hb : byT P e = some b') {L E : Heap} {v : Value} {cs xs : List Value} {len j ix : Nat}
    (hv : App h2.length L v z.length cs len) (hx : E[j]? = some ⟨2, z.length, xs⟩) (hxl : xs.length = z.length) (hix : ix = h2.length + (L.length + j))
    (hle : (len + 1) * b' ≤ 70368744177664) (hl2 : len + 1 ≤ 4611686018427387904) :
    ∃ v' L', apS P (h2 ++ (L ++ E)) t t v (.slice (some ⟨ix, 0, none⟩) 1 1) = some (v', h2 ++ L') ∧ App h2.length L' v' z.length (cs ++ xs) (len + 1) := by
  have hxb : (h2 ++ (L ++ E))[ix]? = some ⟨2, z.length, xs⟩ := by rw [hix, get_at, get_at]; exact hx
  have hnews : Am.cellsOf (h2 ++ (L ++ E)) z.length 1 (.slice (some ⟨ix, 0, none⟩) 1 1) = some xs := by
    simp only [Am.cellsOf]
    exact load_whole hxb (by omega)
  rcases hv with ⟨rfl, rfl, rfl⟩ | ⟨h0, hcl, k, rfl, hk⟩
  · refine ⟨.slice (some ⟨h2.length + (L.length + E.length), 0, some 0⟩) 1 1, L ++ E ++ [⟨2, z.length, xs⟩], ?_, .inr ⟨by omega, by simp [hxl], L.length + E.length, by simp, ?_⟩⟩
    · unfold apS
      simp only [hs, hz, hb, hnews]
      rw [if_pos ⟨Nat.le_refl _, Nat.le_refl _⟩, if_neg (by omega), if_neg (by omega), if_pos ⟨hle, hl2⟩]
      simp [Am.cellsOf, newS]
    · rw [List.getElem?_append_right (by simp)]; simp
  · have hkl := (List.getElem?_eq_some_iff.1 hk).1
    have hkb : (h2 ++ (L ++ E))[h2.length + k]? = some ⟨2, z.length, cs⟩ := by rw [get_at]; exact get_old hk
    have holds : Am.cellsOf (h2 ++ (L ++ E)) z.length len (.slice (some ⟨h2.length + k, 0, some 0⟩) len len) = some cs := by
      simp only [Am.cellsOf]
      exact load_whole hkb (by omega)
    refine ⟨.slice (some ⟨h2.length + (L.length + E.length), 0, some 0⟩) (len + 1) (len + 1), L.set k ⟨0, 0, []⟩ ++ E ++ [⟨2, z.length, cs ++ xs⟩], ?_,
      .inr ⟨by omega, by simp [hcl, hxl, Nat.succ_mul], L.length + E.length, rfl, ?_⟩⟩
    · unfold apS
      simp only [hs, hz, hb, hnews]
      rw [if_pos ⟨Nat.le_refl _, Nat.le_refl _⟩, if_neg (by omega), if_neg (by omega), if_pos ⟨hle, hl2⟩]
      simp only [holds, hkb]
      rw [if_neg (by simp), if_pos (by simp)]
      simp only [newS, set_at, List.set_append_left _ _ hkl, List.length_append, List.length_set, List.append_assoc]
    · rw [List.getElem?_append_right (by simp)]; simp

theorem bsl_one {t e : TypeId} {z : List Value} {x : Value} {h : Heap} (hs : slT P t = some e) (hz : zcT P e = some z) (hl : z.length = 1) (hx : vcs x = some [x]) :
    bsl P t h 1 [(0, x)] = some (.slice (some ⟨h.length, 0, none⟩) 1 1, h ++ [⟨2, z.length, [x]⟩]) := by
  match z, hl with
  | [z0], _ => simp [bsl, hs, hz, fillL, newS, zeros, hx, splice]

/-- What is kept of such a slice. -/
theorem App.canon {n : Nat} {L : Heap} {v : Value} {e : Nat} {cs : List Value} {len : Nat} (h : App n L v e cs len) (hp : ∀ x ∈ cs, af1 x = true) :
    (v = .slice none 0 0 ∧ len = 0 ∧ cs = []) ∨ (len ≠ 0 ∧ cs.length = len * e ∧ ∃ k, L[k]? = some ⟨2, e, cs⟩ ∧ v = .slice (some ⟨n + k, 0, some 0⟩) len len) := by
  rcases h with h | ⟨h1, h2, k, h3, h4⟩
  · exact .inl h
  · exact .inr ⟨h1, h2, k, h4, h3⟩
end
end Go.Proofs.Ytiddnhhjlipebaa.Am
