/- Every operation that calls nothing, in one function over the abstract memory; it is what the machine does. Conditions: none. -/
import Derived.Test.YtiddnhhjlipebaaAmH
import Derived.Laws.BytesString
namespace Go.Proofs.Ytiddnhhjlipebaa.Am
open Go
set_option linter.unusedVariables false
set_option linter.unusedSimpArgs false

section
variable {P : Program} {G : Glo} {m : Map} {h : Heap} {w : World}

/-! ### addresses and parts -/

def idxA (P : Program) (t : TypeId) (x i : Value) : Option Value :=
  match x, i with
  | .slice (some a) l c, .int _ i => match slT P t with
    | some e => match szT P e with
      | some size => if 0 ≤ i ∧ i < l then some (.pointer (some ⟨a.block, a.off + i.toNat * size, none⟩)) else none
      | none => none
    | none => none
  | .pointer (some a), .int _ i => match arT P t with
    | some (n, e) => match szT P e with
      | some size => if 0 ≤ i ∧ i < n then some (.pointer (some ⟨a.block, a.off + i.toNat * size, none⟩)) else none
      | none => none
    | none => none
  | _, _ => none

theorem arT_spec {t : TypeId} {n : Nat} {e : TypeId} (ha : arT P t = some (n, e)) : P.underlying t = some (.array n e) := by
  unfold arT at ha
  split at ha
  · rename_i hu; cases ha; exact hu
  · cases ha

theorem run_idxA {t : TypeId} {x x' i i' v : Value} (hx : VRel h.length m x x') (hi : VRel h.length m i i') (hv : idxA P t x i = some v) :
    ∃ v', (Instr.indexAt t x' i').run P w = .ok v' w ∧ VRel h.length m v v' := by
  unfold idxA at hv
  split at hv
  · rename_i a l c k i
    rw [inv_int hi]
    cases hs : slT P t with
    | none => rw [hs] at hv; simp at hv
    | some e =>
      rw [hs] at hv; simp only at hv
      have hu := slT_spec hs
      cases hsz : szT P e with
      | none => rw [hsz] at hv; simp at hv
      | some size =>
        rw [hsz] at hv; simp only at hv
        split at hv
        · rename_i hk
          cases hv
          obtain ⟨y, c', rfl, sr⟩ := inv_slice hx
          have hy := sr.pl (.inl (by omega))
          subst hy
          refine ⟨.pointer (some ((place m a).add (i.toNat * size))), ?_, ?_⟩
          · simp [Instr.indexAt, run_underlying hu, asIntOf, hk.1, hk.2, run_sizeOf hsz]
          · rw [← place_add m a _ none]; exact .ptr _ rfl sr.lt
        · cases hv
  · rename_i a k i
    rw [inv_int hi]
    cases ha : arT P t with
    | none => rw [ha] at hv; simp at hv
    | some q =>
      obtain ⟨n, e⟩ := q
      rw [ha] at hv; simp only at hv
      have hu := arT_spec ha
      cases hsz : szT P e with
      | none => rw [hsz] at hv; simp at hv
      | some size =>
        rw [hsz] at hv; simp only at hv
        split at hv
        · rename_i hk
          cases hv
          obtain ⟨hsp, hlt, rfl⟩ := inv_ptr hx
          refine ⟨.pointer (some ((place m a).add (i.toNat * size))), ?_, ?_⟩
          · simp [Instr.indexAt, run_underlying hu, asIntOf, Instr.sureAddr, hk.1, hk.2, run_sizeOf hsz]
          · rw [← place_add m a _ none]; exact .ptr _ rfl hlt
        · cases hv
  · cases hv

def fldA (P : Program) (t : TypeId) (x : Value) (f : Nat) : Option Value :=
  match x with
  | .pointer (some a) => match fldT P t f with
    | some (off, ft) => match szT P ft with
      | some s => if s = 0 then none else some (.pointer (some ⟨a.block, a.off + off, none⟩))
      | none => none
    | none => none
  | _ => none

theorem fldT_spec {t : TypeId} {f : Nat} {off : Nat} {ft : TypeId} (hf : fldT P t f = some (off, ft)) :
    ∃ fs x, P.underlying t = some (.struct fs) ∧ fs[f]? = some x ∧ x.offset = off ∧ x.type = ft := by
  unfold fldT at hf
  split at hf
  · rename_i fs hu
    cases hx : fs[f]? with
    | none => rw [hx] at hf; simp at hf
    | some x => rw [hx] at hf; simp at hf; exact ⟨fs, x, hu, hx, hf.1, hf.2⟩
  · cases hf

theorem run_fldA {t : TypeId} {x x' v : Value} {f : Nat} (hx : VRel h.length m x x') (hv : fldA P t x f = some v) :
    ∃ v', (Instr.fieldAt t x' f).run P w = .ok v' w ∧ VRel h.length m v v' := by
  unfold fldA at hv
  split at hv
  · rename_i a
    cases hf : fldT P t f with
    | none => rw [hf] at hv; simp at hv
    | some q =>
      obtain ⟨off, ft⟩ := q
      rw [hf] at hv; simp only at hv
      obtain ⟨fs, fx, hu, hfx, h1, h2⟩ := fldT_spec hf
      cases hsz : szT P ft with
      | none => rw [hsz] at hv; simp at hv
      | some s =>
        rw [hsz] at hv; simp only at hv
        split at hv
        · cases hv
        · rename_i hs
          cases hv
          obtain ⟨hsp, hlt, rfl⟩ := inv_ptr hx
          refine ⟨.pointer (some ((place m a).add off)), ?_, ?_⟩
          · simp [Instr.fieldAt, run_underlying hu, hfx, Instr.sureAddr, fieldPlace, h1, h2, run_sizeOf hsz, hs]
          · rw [← place_add m a _ none]; exact .ptr _ rfl hlt
  · cases hv

/-- A part of an aggregate. -/
def prt (P : Program) (t : TypeId) (cs : Array Value) (off : Nat) : Option Value :=
  match ldK P t with
  | some (some n) => if off + n ≤ cs.size then some (.agg ((cs.toList.drop off).take n).toArray) else none
  | some none => cs[off]?
  | none => none

theorem run_prt {t : TypeId} {cs cs' : Array Value} {off : Nat} {v : Value} (hs : cs.size = cs'.size)
    (hp : ∀ (i : Nat) (h1 : i < cs.size) (h2 : i < cs'.size), VRel h.length m cs[i] cs'[i]) (hv : prt P t cs off = some v) :
    ∃ v', (part t cs' off).run P w = .ok v' w ∧ VRel h.length m v v' := by
  unfold prt ldK at hv
  cases hu : P.underlying t with
  | none => rw [hu] at hv; simp at hv
  | some d =>
    cases hi : P.info? t with
    | none => rw [hu, hi] at hv; simp at hv
    | some i =>
      rw [hu, hi] at hv
      simp only at hv
      by_cases ha : aggD d = true
      · rw [if_pos ha] at hv
        simp only at hv
        split at hv
        · rename_i hk
          cases hv
          refine ⟨.agg (cs'.extract off (off + i.size)), ?_, ?_⟩
          · simp [part, run_isAgg hu, ha, run_sizeOf (P := P) (t := t) (n := i.size) (by simp [szT, hi])]
          · refine .agg _ _ (by simp; omega) fun j h1 h2 => ?_
            simp at h1 h2
            have := hp (off + j) (by omega) (by omega)
            simp
            exact this
        · cases hv
      · rw [if_neg ha] at hv
        simp only at hv
        obtain ⟨h1, h2⟩ := Array.getElem?_eq_some_iff.1 hv
        refine ⟨cs'[off]'(by omega), ?_, by rw [← h2]; exact hp off h1 (by omega)⟩
        simp [part, run_isAgg hu, ha, Array.getElem?_eq_getElem (show off < cs'.size by omega)]

def fldV (P : Program) (t : TypeId) (x : Value) (f : Nat) : Option Value :=
  match x with
  | .agg cs => match fldT P t f with
    | some (off, ft) => prt P ft cs off
    | none => none
  | _ => none

theorem run_fldV {t : TypeId} {x x' v : Value} {f : Nat} (hx : VRel h.length m x x') (hv : fldV P t x f = some v) :
    ∃ v', (Instr.field t x' f).run P w = .ok v' w ∧ VRel h.length m v v' := by
  unfold fldV at hv
  split at hv
  · rename_i cs
    cases hf : fldT P t f with
    | none => rw [hf] at hv; simp at hv
    | some q =>
      obtain ⟨off, ft⟩ := q
      rw [hf] at hv; simp only at hv
      obtain ⟨fs, fx, hu, hfx, h1, h2⟩ := fldT_spec hf
      obtain ⟨cs', rfl, hs, hp⟩ := inv_agg hx
      obtain ⟨v', q1, q2⟩ := run_prt (P := P) (w := w) hs hp hv
      refine ⟨v', ?_, q2⟩
      simp [Instr.field, run_underlying hu, hfx, asAgg, h1, h2, q1]
  · cases hv

def idxV (P : Program) (t : TypeId) (x i : Value) : Option Value :=
  match x, i with
  | .agg cs, .int _ i => match arT P t with
    | some (n, e) => match szT P e with
      | some size => if 0 ≤ i ∧ i < n then prt P e cs (i.toNat * size) else none
      | none => none
    | none => none
  | .string s, .int _ i => if stT P t = true ∧ 0 ≤ i then (s[i.toNat]?).map fun b => .int .u8 b.toNat else none
  | _, _ => none

theorem run_idxV {t : TypeId} {x x' i i' v : Value} (hx : VRel h.length m x x') (hi : VRel h.length m i i') (hv : idxV P t x i = some v) :
    ∃ v', (Instr.index t x' i').run P w = .ok v' w ∧ VRel h.length m v v' := by
  unfold idxV at hv
  split at hv
  · rename_i cs k i
    rw [inv_int hi]
    cases ha : arT P t with
    | none => rw [ha] at hv; simp at hv
    | some q =>
      obtain ⟨n, e⟩ := q
      rw [ha] at hv; simp only at hv
      have hu := arT_spec ha
      cases hsz : szT P e with
      | none => rw [hsz] at hv; simp at hv
      | some size =>
        rw [hsz] at hv; simp only at hv
        split at hv
        · rename_i hk
          obtain ⟨cs', rfl, hs, hp⟩ := inv_agg hx
          obtain ⟨v', q1, q2⟩ := run_prt (P := P) (w := w) hs hp hv
          refine ⟨v', ?_, q2⟩
          simp [Instr.index, run_underlying hu, asIntOf, hk.1, hk.2, run_sizeOf hsz, q1]
        · cases hv
  · rename_i s k i
    rw [inv_int hi, inv_string hx]
    split at hv
    · rename_i hk
      obtain ⟨hst, h0⟩ := hk
      have hu := stT_spec hst
      cases hb : s[i.toNat]? with
      | none => rw [hb] at hv; simp at hv
      | some b =>
        rw [hb] at hv; simp only [Option.map_some] at hv; cases hv
        refine ⟨_, ?_, .int _ _⟩
        simp [Instr.index, run_underlying hu, asIntOf, h0, hb]
    · cases hv
  · cases hv

/-! ### numbers, tests, lengths -/

def lenV (P : Program) (t : TypeId) (x : Value) : Option Value :=
  match x with
  | .string s => if stT P t = true then some (.int .i64 s.size) else none
  | .slice _ l _ => if (slT P t).isSome then some (.int .i64 l) else none
  | _ => none

theorem run_lenV {t ty : TypeId} {x x' v : Value} (hx : VRel h.length m x x') (hv : lenV P t x = some v) :
    (Builtin.len_ #[t] ty #[x']).run P w = .ok v w ∧ af v = true := by
  unfold lenV at hv
  split at hv
  · rename_i s
    split at hv
    · rename_i hs
      cases hv
      have hu := stT_spec hs
      rw [inv_string hx]
      exact ⟨by simp [Builtin.len_, run_underlying hu, goInt], rfl⟩
    · cases hv
  · rename_i a l c
    split at hv
    · rename_i hs
      cases hv
      obtain ⟨e, hs⟩ := Option.isSome_iff_exists.1 hs
      have hu := slT_spec hs
      obtain ⟨y, c', rfl⟩ : ∃ y c', x' = .slice y l c' := by
        cases a with
        | none => exact ⟨_, _, inv_sliceNone hx⟩
        | some a => obtain ⟨y, c', hh, _⟩ := inv_slice hx; exact ⟨_, _, hh⟩
      exact ⟨by simp [Builtin.len_, run_underlying hu, goInt], rfl⟩
    · cases hv
  · cases hv

/-- '==' of two values. -/
def eqV (P : Program) (t : TypeId) (x y : Value) : Option Bool :=
  match x, y with
  | .agg xs, .agg ys => if xs.all af1 && ys.all af1 then
      match P.underlying t with
      | some (.struct fs) => if P.stoodInHeld t then none else pureRun P (Op.eqFields (Op.maxDepth - 1) xs ys fs.toList)
      | _ => none else none
  | .pointer (some _), .pointer none | .pointer none, .pointer (some _) => (match P.underlying t with | some (.pointer _) => some false | _ => none)
  | .slice (some _) _ _, .slice none _ _ | .slice none _ _, .slice (some _) _ _ => (match P.underlying t with | some (.slice _) => some false | _ => none)
  | .func _ _ _, .nilFunc | .nilFunc, .func _ _ _ => (match P.underlying t with | some (.func _ _ _) => some false | _ => none)
  | .iface _ _, .nilIface | .nilIface, .iface _ _ => (match P.underlying t with | some (.interface _) => some false | _ => none)
  | x, y => if af1 x && af1 y then pureRun P (Op.equal t x y) else none

end
end Go.Proofs.Ytiddnhhjlipebaa.Am
