/- Cuts, appends, parts and addresses over the abstract memory. Conditions: none. -/
import Derived.Test.YtiddnhhjlipebaaAmF
namespace Go.Proofs.Ytiddnhhjlipebaa.Am
open Go
set_option linter.unusedVariables false
set_option linter.unusedSimpArgs false

section
variable {P : Program} {G : Glo} {m : Map} {h : Heap} {w : World}

/-- A bound of a cut. -/
def bnd (hi : Nat) (d : Nat) : Option Value → Option Nat
  | none => some d
  | some (.int _ i) => if 0 ≤ i ∧ i ≤ hi then some i.toNat else none
  | some _ => none

theorem bnd_none (hi d : Nat) : bnd hi d none = some d := rfl

theorem run_bound (code : BoundsCode) {v v' : Value} (hv : VRel h.length m v v') {hi d x : Nat} (hb : bnd hi d (some v) = some x) {hi' : Nat} (hh : hi ≤ hi') :
    (Instr.sliceBound v' hi' code).run P w = .ok x w ∧ x ≤ hi := by
  cases v with
  | int k i =>
    simp only [bnd] at hb
    split at hb
    · rename_i hk
      cases hb
      rw [inv_int hv]
      exact ⟨run_sliceBound w k i hi' code hk.1 (by omega), by omega⟩
    · cases hb
  | _ => simp [bnd] at hb

/-- Cuts of a slice: the first, the length, the capacity. -/
def cutB (l c : Nat) (lo hi mx : Option Value) : Option (Nat × Nat × Nat) :=
  match bnd c c mx with
  | some m => match (match hi with | none => if mx.isSome then none else some l | some v => bnd m m (some v)) with
    | some b => match bnd b 0 lo with
      | some a => some (a, b, m)
      | none => none
    | none => none
  | none => none

def OV (n : Nat) (m : Map) (x x' : Option Value) : Prop :=
  match x, x' with
  | none, none => True
  | some v, some v' => VRel n m v v'
  | _, _ => False

theorem run_cutB {isSlice : Bool} {l c c' : Nat} (hc : c ≤ c') {lo hi mx lo' hi' mx' : Option Value} (hlo : OV h.length m lo lo') (hhi : OV h.length m hi hi')
    (hmx : OV h.length m mx mx') {a b d : Nat} (hb : cutB l c lo hi mx = some (a, b, d)) (hl : l ≤ c) :
    (Instr.sliceBounds isSlice l c' lo' hi' mx').run P w = .ok (a, b, if mx.isSome then d else c') w ∧ a ≤ b ∧ b ≤ d ∧ d ≤ c ∧ (mx.isSome = false → d = c) := by
  unfold cutB at hb
  cases mx with
  | none =>
    cases mx' with
    | some _ => exact hmx.elim
    | none =>
      simp only [bnd_none] at hb
      cases hi with
      | none =>
        cases hi' with
        | some _ => exact hhi.elim
        | none =>
          simp only [Option.isSome_none, Bool.false_eq_true, if_false] at hb
          cases lo with
          | none =>
            cases lo' with
            | some _ => exact hlo.elim
            | none =>
              simp only [bnd_none] at hb; cases hb
              refine ⟨by simp [Instr.sliceBounds], by omega, hl, Nat.le_refl _, fun _ => rfl⟩
          | some v =>
            cases lo' with
            | none => exact hlo.elim
            | some v' =>
              cases hq : bnd l 0 (some v) with
              | none => rw [hq] at hb; simp at hb
              | some x =>
                rw [hq] at hb; simp only at hb; cases hb
                obtain ⟨q1, q2⟩ := run_bound (P := P) (w := w) .sliceB hlo hq (Nat.le_refl _)
                refine ⟨by simp [Instr.sliceBounds, q1], q2, hl, Nat.le_refl _, fun _ => rfl⟩
      | some u =>
        cases hi' with
        | none => exact hhi.elim
        | some u' =>
          simp only at hb
          cases hq : bnd c c (some u) with
          | none => rw [hq] at hb; simp at hb
          | some y =>
            rw [hq] at hb
            simp only at hb
            obtain ⟨q1, q2⟩ := run_bound (P := P) (w := w) (if isSlice then .sliceAcap else .sliceAlen) hhi hq hc
            cases lo with
            | none =>
              cases lo' with
              | some _ => exact hlo.elim
              | none =>
                simp only [bnd_none] at hb; cases hb
                refine ⟨by simp [Instr.sliceBounds, q1], by omega, q2, Nat.le_refl _, fun _ => rfl⟩
            | some v =>
              cases lo' with
              | none => exact hlo.elim
              | some v' =>
                cases hr : bnd y 0 (some v) with
                | none => rw [hr] at hb; simp at hb
                | some x =>
                  rw [hr] at hb; cases hb
                  obtain ⟨p1, p2⟩ := run_bound (P := P) (w := w) .sliceB hlo hr (Nat.le_refl _)
                  refine ⟨by simp [Instr.sliceBounds, q1, p1], p2, q2, Nat.le_refl _, fun _ => rfl⟩
  | some z =>
    cases mx' with
    | none => exact hmx.elim
    | some z' =>
      cases hm : bnd c c (some z) with
      | none => rw [hm] at hb; simp at hb
      | some d0 =>
        rw [hm] at hb
        simp only at hb
        obtain ⟨s1, s2⟩ := run_bound (P := P) (w := w) (if isSlice then .slice3Acap else .slice3Alen) hmx hm hc
        cases hi with
        | none => simp at hb
        | some u =>
          cases hi' with
          | none => exact hhi.elim
          | some u' =>
            simp only at hb
            cases hq : bnd d0 d0 (some u) with
            | none => rw [hq] at hb; simp at hb
            | some y =>
              rw [hq] at hb
              simp only at hb
              obtain ⟨q1, q2⟩ := run_bound (P := P) (w := w) .slice3B hhi hq (Nat.le_refl _)
              cases lo with
              | none =>
                cases lo' with
                | some _ => exact hlo.elim
                | none =>
                  simp only [bnd_none] at hb; cases hb
                  refine ⟨by simp [Instr.sliceBounds, s1, q1], by omega, q2, s2, fun h => by simp at h⟩
              | some v =>
                cases lo' with
                | none => exact hlo.elim
                | some v' =>
                  cases hr : bnd y 0 (some v) with
                  | none => rw [hr] at hb; simp at hb
                  | some x =>
                    rw [hr] at hb; cases hb
                    obtain ⟨p1, p2⟩ := run_bound (P := P) (w := w) .slice3C hlo hr (Nat.le_refl _)
                    refine ⟨by simp [Instr.sliceBounds, s1, q1, p1], p2, q2, s2, fun h => by simp at h⟩

def stT (P : Program) (t : TypeId) : Bool := match P.underlying t with | some .string => true | _ => false

theorem stT_spec {t : TypeId} (h : stT P t = true) : P.underlying t = some .string := by
  unfold stT at h
  split at h
  · rename_i hu; exact hu
  · cases h

def cut (P : Program) (t : TypeId) (h : Heap) (x : Value) (lo hi mx : Option Value) : Option Value :=
  match x with
  | .string s => if stT P t = true ∧ mx.isSome = false then
      (cutB s.size s.size lo hi none).map fun q => .string (s.extract q.1 q.2.1) else none
  | .slice none l c => if (slT P t).isSome ∧ l ≤ c ∧ (∀ e, slT P t = some e → (szT P e).isSome) then (cutB l c lo hi mx).map fun q => .slice none (q.2.1 - q.1) (q.2.2 - q.1) else none
  | .slice (some a) l c => match slT P t with
    | some e => match szT P e with
      | some size => if l ≤ c then match cutB l c lo hi mx with
          | some (x, b, d) =>
            if a.spot = none then some (.slice (some (if d = x then a else ⟨a.block, a.off + x * size, none⟩)) (b - x) (d - x))
            else if mx.isSome then (if c = 0 then none else some (.slice (some (if d = x then ⟨a.block, a.off, none⟩ else ⟨a.block, a.off + x * size, none⟩)) (b - x) (d - x)))
            else match h[a.block]? with
              | some bk => if bk.k = 2 ∧ bk.e = size then some (.slice (some ⟨a.block, a.off + x * size, some 0⟩) (b - x) (c - x)) else none
              | none => none
          | none => none
        else none
      | none => none
    | none => none
  | .pointer (some a) => match arT P t with
    | some (n, e) => match szT P e with
      | some size => match cutB n n lo hi mx with
        | some (x, b, d) => if a.spot = none then some (.slice (some (if d = x then a else ⟨a.block, a.off + x * size, none⟩)) (b - x) (d - x)) else none
        | none => none
      | none => none
    | none => none
  | _ => none

theorem place_add (m : Map) (a : Addr) (n : Nat) (sp : Option Nat) : place m ⟨a.block, a.off + n, sp⟩ = (place m a).add n := by
  rw [add_none _ rfl]; unfold place; simp [Nat.add_assoc]

theorem run_cut (r : WRel G m h w) {t : TypeId} {x x' v : Value} {lo hi mx lo' hi' mx' : Option Value} (hx : VRel h.length m x x')
    (hlo : OV h.length m lo lo') (hhi : OV h.length m hi hi') (hmx : OV h.length m mx mx') (hv : cut P t h x lo hi mx = some v) :
    ∃ v', (Instr.sliceAt t x' lo' hi' mx').run P w = .ok v' w ∧ VRel h.length m v v' := by
  unfold cut at hv
  split at hv
  · rename_i s
    split at hv
    · rename_i hk
      obtain ⟨hu, hm⟩ := hk
      have hu := stT_spec hu
      rw [inv_string hx]
      have hmx' : mx' = none := by
        cases mx with
        | none => cases mx' with
          | none => rfl
          | some _ => exact hmx.elim
        | some _ => simp at hm
      subst hmx'
      cases hc : cutB s.size s.size lo hi none with
      | none => rw [hc] at hv; simp at hv
      | some q =>
        obtain ⟨a, b, d⟩ := q
        rw [hc] at hv; simp only [Option.map_some] at hv; cases hv
        obtain ⟨q1, q2, q3, q4, q5⟩ := run_cutB (P := P) (w := w) (isSlice := false) (mx' := none) (Nat.le_refl _) hlo hhi (by trivial) hc (Nat.le_refl _)
        refine ⟨_, ?_, .string _⟩
        simp only [Instr.sliceAt, Sem.run_bind, run_underlying hu, Result.andThen_ok, Instr.slice]
        simp [q1]
    · cases hv
  · rename_i l c
    split at hv
    · rename_i hk
      obtain ⟨hs, hlc, hsz⟩ := hk
      obtain ⟨e, hs⟩ := Option.isSome_iff_exists.1 hs
      obtain ⟨size, hsz⟩ := Option.isSome_iff_exists.1 (hsz e hs)
      have hu := slT_spec hs
      rw [inv_sliceNone hx]
      cases hc : cutB l c lo hi mx with
      | none => rw [hc] at hv; simp at hv
      | some q =>
        obtain ⟨a, b, d⟩ := q
        rw [hc] at hv; simp only [Option.map_some] at hv; cases hv
        obtain ⟨q1, q2, q3, q4, q5⟩ := run_cutB (P := P) (w := w) (isSlice := true) (Nat.le_refl _) hlo hhi hmx hc hlc
        have hd : (if mx.isSome then d else c) = d := by
          cases hm : mx.isSome
          · simp [q5 hm]
          · simp
        rw [hd] at q1
        refine ⟨.slice none (b - a) (d - a), ?_, .sliceNone _ _⟩
        simp only [Instr.sliceAt, Sem.run_bind, run_underlying hu, Result.andThen_ok, Instr.slice, q1, run_sizeOf hsz, Sem.run_pure, Option.map_none, ite_self]
    · cases hv
  · rename_i a l c
    cases hs : slT P t with
    | none => rw [hs] at hv; simp at hv
    | some e =>
      rw [hs] at hv; simp only at hv
      have hu := slT_spec hs
      cases hsz : szT P e with
      | none => rw [hsz] at hv; simp at hv
      | some size =>
        rw [hsz] at hv; simp only at hv
        split at hv
        · rename_i hlc
          cases hc : cutB l c lo hi mx with
          | none => rw [hc] at hv; simp at hv
          | some q =>
            obtain ⟨xx, b, d⟩ := q
            rw [hc] at hv; simp only at hv
            obtain ⟨y, c', rfl, sr⟩ := inv_slice hx
            obtain ⟨q1, q2, q3, q4, q5⟩ := run_cutB (P := P) (w := w) (isSlice := true) sr.cap hlo hhi hmx hc hlc
            have hrun : (Instr.sliceAt t (.slice (some y) l c') lo' hi' mx').run P w =
                .ok (.slice (some (if (if mx.isSome then d else c') = xx then y else y.add (xx * size))) (b - xx) ((if mx.isSome then d else c') - xx)) w := by
              simp only [Instr.sliceAt, Sem.run_bind, run_underlying hu, Result.andThen_ok, Instr.slice, q1, run_sizeOf hsz, Sem.run_pure]
              generalize (if mx.isSome then d else c') = q
              by_cases hq : q = xx <;> simp [hq]
            refine ⟨_, hrun, ?_⟩
            by_cases hsp : a.spot = none
            · rw [if_pos hsp] at hv
              cases hv
              obtain ⟨e1, e2⟩ := sr.ex hsp
              subst e1; subst e2
              have hd : (if mx.isSome then d else c') = d := by
                cases hm : mx.isSome
                · simp [q5 hm]
                · simp
              rw [hd]
              by_cases hdx : d = xx
              · rw [if_pos hdx, if_pos hdx]; exact .slice a _ _ hsp sr.lt
              · rw [if_neg hdx, if_neg hdx, ← place_add m a (xx * size) none]; exact .slice _ _ _ rfl sr.lt
            · rw [if_neg hsp] at hv
              obtain ⟨i1, i2, i3⟩ := sr.inx hsp
              cases hm : mx.isSome with
              | true =>
                rw [hm] at hv
                simp only [if_true] at hv ⊢
                split at hv
                · cases hv
                · rename_i hc0
                  cases hv
                  have hy := sr.pl (.inr hc0)
                  subst hy
                  by_cases hdx : d = xx
                  · rw [if_pos hdx, if_pos hdx]; exact .slice ⟨a.block, a.off, none⟩ _ _ rfl sr.lt
                  · rw [if_neg hdx, if_neg hdx, ← place_add m a (xx * size) none]; exact .slice _ _ _ rfl sr.lt
              | false =>
                rw [hm] at hv
                simp only [Bool.false_eq_true, if_false] at hv ⊢
                cases hb : h[a.block]? with
                | none => rw [hb] at hv; simp at hv
                | some bk =>
                  rw [hb] at hv; simp only at hv
                  split at hv
                  · rename_i hk
                    cases hv
                    have hcd := q5 hm
                    subst hcd
                    have he : (m a.block).e = size := by rw [(r.room _ _ hb hk.1).1]; exact hk.2
                    have hcap := sr.cap
                    have hmul : xx * size + (c' - xx) * size = c' * size := by
                      rw [← Nat.add_mul]; congr 1; omega
                    rw [he] at i3
                    by_cases hdx : c' = xx
                    · rw [if_pos hdx]
                      refine .sliceIn _ y _ _ _ rfl sr.lt (by omega) sr.spot sr.blk (fun hq => by omega) i2 ?_
                      show y.off + (c' - xx) * (m a.block).e ≤ (m a.block).o + (m a.block).room
                      rw [he, hdx, Nat.sub_self, Nat.zero_mul]
                      have : 0 ≤ c' * size := Nat.zero_le _
                      omega
                    · rw [if_neg hdx, add_none y sr.spot]
                      refine .sliceIn _ _ _ _ _ rfl sr.lt (by omega) rfl sr.blk (fun hq => ?_) (by simp only; omega) (by simp only; rw [he]; omega)
                      have hy := sr.pl (.inr (by omega))
                      subst hy
                      unfold place
                      simp [Nat.add_assoc]
                  · cases hv
        · cases hv
  · rename_i a
    cases ha : arT P t with
    | none => rw [ha] at hv; simp at hv
    | some q =>
      obtain ⟨n, e⟩ := q
      rw [ha] at hv; simp only at hv
      have hu : P.underlying t = some (.array n e) := by
        unfold arT at ha
        split at ha
        · rename_i hu; cases ha; exact hu
        · cases ha
      cases hsz : szT P e with
      | none => rw [hsz] at hv; simp at hv
      | some size =>
        rw [hsz] at hv; simp only at hv
        cases hc : cutB n n lo hi mx with
        | none => rw [hc] at hv; simp at hv
        | some q =>
          obtain ⟨xx, b, d⟩ := q
          rw [hc] at hv; simp only at hv
          split at hv
          · rename_i hsp
            cases hv
            obtain ⟨_, hlt, rfl⟩ := inv_ptr hx
            obtain ⟨q1, q2, q3, q4, q5⟩ := run_cutB (P := P) (w := w) (isSlice := false) (Nat.le_refl _) hlo hhi hmx hc (Nat.le_refl _)
            have hd : (if mx.isSome then d else n) = d := by
              cases hm : mx.isSome
              · simp [q5 hm]
              · simp
            rw [hd] at q1
            refine ⟨.slice (some (if d = xx then place m a else (place m a).add (xx * size))) (b - xx) (d - xx), ?_, ?_⟩
            · simp only [Instr.sliceAt, Sem.run_bind, run_underlying hu, Result.andThen_ok, Instr.sureAddr, Sem.run_pure, q1, run_sizeOf hsz]
            · by_cases hdx : d = xx
              · rw [if_pos hdx, if_pos hdx]; exact .slice a _ _ hsp hlt
              · rw [if_neg hdx, if_neg hdx, ← place_add m a (xx * size) none]; exact .slice _ _ _ rfl hlt
          · cases hv
  · cases hv

end
end Go.Proofs.Ytiddnhhjlipebaa.Am
