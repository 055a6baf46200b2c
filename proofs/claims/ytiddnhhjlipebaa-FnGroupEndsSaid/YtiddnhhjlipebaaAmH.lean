/- Appends over the abstract memory. Conditions: none. -/
import Derived.Test.YtiddnhhjlipebaaAmG
namespace Go.Proofs.Ytiddnhhjlipebaa.Am
open Go
set_option linter.unusedVariables false
set_option linter.unusedSimpArgs false

section
variable {P : Program} {G : Glo} {m : Map} {h : Heap} {w : World}

theorem run_append_in (t u ty e e2 : TypeId) (i : TypeInfo) (ht : P.underlying t = some (.slice e)) (hu : P.underlying u = some (.slice e2)) (hi : P.info? e = some i)
    (y : Addr) (hy : y.spot = none) (sl c n : Nat) (xb : Option Addr) (xc : Nat) (news : List Value) (w : World)
    (hf : (Builtin.firstCells i.size n (.slice xb n xc)).run P w = .ok news.toArray w)
    (hroom : sl + n ≤ c) (hflat : ∀ v, v ∈ news → flat v = true)
    (hc : ∀ j, j < news.length → (∃ u, w.cell? ⟨y.block, y.off + sl * i.size + j, none⟩ = some u) ∧ w.frozen? ⟨y.block, y.off + sl * i.size + j, none⟩ = false) :
    (Builtin.append_ #[t, u] ty #[.slice (some y) sl c, .slice xb n xc]).run P w = .ok (.slice (some y) (sl + n) c) (setMany w y.block (y.off + sl * i.size) news) := by
  have hst := run_storeCells (P := P) news w ⟨y.block, y.off + sl * i.size, none⟩ 0 rfl hflat (by simpa using hc)
  simp only [Nat.add_zero] at hst
  simp [Builtin.append_, run_underlying ht, run_underlying hu, sizeOf, typeInfo, hi, Builtin.lenOf, hroom, hf, add_none y hy, hst]

theorem run_append_idle (t u ty e e2 : TypeId) (i : TypeInfo) (ht : P.underlying t = some (.slice e)) (hu : P.underlying u = some (.slice e2)) (hi : P.info? e = some i)
    (yb : Option Addr) (sl c : Nat) (xb : Option Addr) (xc : Nat) (w : World) (hroom : sl ≤ c) :
    (Builtin.append_ #[t, u] ty #[.slice yb sl c, .slice xb 0 xc]).run P w = .ok (.slice yb sl c) w := by
  have hf : (Builtin.firstCells i.size 0 (.slice xb 0 xc)).run P w = .ok #[] w := by
    cases xb with
    | none => simp [Builtin.firstCells]
    | some b => simp [Builtin.firstCells, loadCells, loadCellsFrom]
  cases yb with
  | none => simp [Builtin.append_, run_underlying ht, run_underlying hu, sizeOf, typeInfo, hi, Builtin.lenOf, hroom, hf]
  | some y =>
    have hst : (storeCells (y.add (sl * i.size)) [] 0).run P w = .ok () w := rfl
    simp [Builtin.append_, run_underlying ht, run_underlying hu, sizeOf, typeInfo, hi, Builtin.lenOf, hroom, hf, hst]

theorem run_append_new (t u ty e e2 : TypeId) (i : TypeInfo) (z : Value) (ht : P.underlying t = some (.slice e)) (hu : P.underlying u = some (.slice e2))
    (hi : P.info? e = some i) (hz : i.zero = some z)
    (yb : Option Addr) (sl c n : Nat) (xb : Option Addr) (xc : Nat) (olds news : List Value) (w : World)
    (ho : (Builtin.firstCells i.size sl (.slice yb sl c)).run P w.drew = .ok olds.toArray w.drew)
    (hf : (Builtin.firstCells i.size n (.slice xb n xc)).run P w.drew = .ok news.toArray w.drew)
    (hg : c < sl + n) (h63 : ((sl + n : Nat) : Int) ≤ 9223372036854775807) (hfit : Builtin.nextslicecap (sl + n) c * i.bytes ≤ 281474976710656) :
    (Builtin.append_ #[t, u] ty #[.slice yb sl c, .slice xb n xc]).run P w =
      .ok (.slice (some ⟨w.heap.size, 0, none⟩) (sl + n) (grownCap w (sl + n) c e))
        (w.drew.alloc (.cells (olds.toArray ++ news.toArray ++ Builtin.zeroCells z.cells (grownCap w (sl + n) c e - (sl + n))) e)) := by
  have hn : ¬ (sl + n ≤ c) := by omega
  have h63' : ¬ (9223372036854775807 < ((sl : Int) + (n : Int))) := by omega
  have h48' : ¬ (281474976710656 < Builtin.nextslicecap (sl + n) c * i.bytes) := by omega
  simp [Builtin.append_, run_underlying ht, run_underlying hu, sizeOf, typeInfo, zeroValue, hi, hz, Builtin.lenOf, hn, h63', h48', Question.forced, hf, ho, newRow, grownCap]
  congr 2
  apply Array.ext'
  simp [List.append_assoc]

/-- The first n elements' cells of a slice. -/
def cellsOf (h : Heap) (size n : Nat) : Value → Option (List Value)
  | .slice (some a) _ _ => loadCs h a.block a.off (n * size)
  | .slice none _ _ => if n = 0 then some [] else none
  | _ => none

theorem WRel.cellsOf (r : WRel G m h w) {size n : Nat} {a : Option Addr} {l c : Nat} {x' : Value} {cs : List Value} (hx : VRel h.length m (.slice a l c) x') (hln : n ≤ l)
    (hc : Am.cellsOf h size n (.slice a l c) = some cs) :
    ∃ cs', (Builtin.firstCells size n x').run P w = .ok cs'.toArray w ∧ cs.length = n * size ∧ LR h.length m cs cs' := by
  cases a with
  | none =>
    simp only [Am.cellsOf] at hc
    split at hc
    · rename_i hn; subst hn; cases hc
      rw [inv_sliceNone hx]
      exact ⟨[], by simp [Builtin.firstCells], by simp, rfl, fun j v hj => by simp at hj⟩
    · cases hc
  | some a =>
    simp only [Am.cellsOf] at hc
    obtain ⟨y, c', rfl, sr⟩ := inv_slice hx
    obtain ⟨h1, l', h2, h3, h4⟩ := r.loadCs hc
    refine ⟨l', ?_, h1, by rw [h1, h2], h4⟩
    simp only [Builtin.firstCells]
    by_cases hn : n = 0
    · subst hn
      have : l' = [] := List.eq_nil_of_length_eq_zero (by simpa using h2)
      subst this
      simp [loadCells, loadCellsFrom]
    · have hy := sr.pl (.inl (by omega))
      subst hy
      rw [← h2]
      exact run_loadCells_at (a := place m a) rfl h3

def apS (P : Program) (h : Heap) (t u : TypeId) (s x : Value) : Option (Value × Heap) :=
  match slT P t, slT P u, s, x with
  | some e, some _, .slice b sl c, .slice xb n xc =>
    if sl ≤ c ∧ n ≤ xc then
      if n = 0 then (if (szT P e).isSome then some (.slice b sl c, h) else none)
      else match zcT P e, byT P e with
        | some z, some by' => match cellsOf h z.length n x with
          | some news =>
            if sl + n ≤ c then match b with
              | some a => match setCs h a.block (a.off + sl * z.length) news with
                | some h' => some (.slice (some a) (sl + n) c, h')
                | none => none
              | none => none
            else if (sl + n) * by' ≤ 70368744177664 ∧ sl + n ≤ 4611686018427387904 then
              match cellsOf h z.length sl s with
              | some olds => match b with
                | none => some (newS h (some 0) z.length (sl + n) (sl + n) (olds ++ news))
                | some a => if a.spot = none then some (newS h (some 0) z.length (sl + n) (sl + n) (olds ++ news))
                  else match h[a.block]? with
                    | some bk => if bk.k = 2 ∧ bk.e = z.length then
                        some (newS (h.set a.block ⟨0, 0, []⟩) (some 0) z.length (sl + n) (sl + n) (olds ++ news)) else none
                    | none => none
              | none => none
            else none
          | none => none
        | _, _ => none
    else none
  | _, _, _, _ => none

/-- A block under a new name, in the place of one that is given up. -/
theorem WRel.move {G : Glo} {m : Map} {h : Heap} {w : World} (r : WRel G m h w) {id : Nat} {b : Blk} (hb : h[id]? = some b) (hk : b.k = 2)
    (d : Nat) (cs : List Value) (hlen : d + cs.length ≤ (m id).room)
    (hc : ∀ (j : Nat) (v : Value), cs[j]? = some v → ∃ v', w.cell? ⟨(m id).b, (m id).o + d + j, none⟩ = some v' ∧ VRel h.length m v v' ∧ flat v = true) :
    WRel G (m.put h.length ⟨(m id).b, (m id).o + d, b.e, (m id).room - d⟩) (h.set id ⟨0, 0, []⟩ ++ [⟨2, b.e, cs⟩]) w := by
  have hid := lt_of_get hb
  have rk := r.kill id 0 []
  have hl0 : (h.set id (⟨0, 0, []⟩ : Blk)).length = h.length := by simp
  have hag : Agree h.length m (m.put h.length ⟨(m id).b, (m id).o + d, b.e, (m id).room - d⟩) := Map.agree_put _ _ _
  have hs : ∀ {i : Nat} {x : Blk}, (h.set id (⟨0, 0, []⟩ : Blk) ++ [(⟨2, b.e, cs⟩ : Blk)])[i]? = some x →
      (i < h.length ∧ (h.set id (⟨0, 0, []⟩ : Blk))[i]? = some x) ∨ (i = h.length ∧ x = ⟨2, b.e, cs⟩) := by
    intro i x hx
    have := get_snoc hx
    rw [hl0] at this; exact this
  have hlen2 : (h.set id (⟨0, 0, []⟩ : Blk) ++ [(⟨2, b.e, cs⟩ : Blk)]).length = h.length + 1 := by simp
  obtain ⟨re, rl, rr⟩ := r.room id b hb hk
  refine ⟨?_, ?_, ?_, ?_, ?_, fun g hg => ?_, fun g o hg => ?_⟩
  · intro i x hx hkx j v hj
    rw [hlen2]
    rcases hs hx with ⟨h1, h2⟩ | ⟨rfl, rfl⟩
    · obtain ⟨v', q1, q2, q3⟩ := rk.cell i x h2 hkx j v hj
      rw [hl0] at q2
      exact ⟨v', by rw [hag i h1]; exact q1, q2.mono (Nat.le_succ _) hag, q3⟩
    · obtain ⟨v', q1, q2, q3⟩ := hc j v hj
      exact ⟨v', by rw [Map.put_same]; exact q1, q2.mono (Nat.le_succ _) hag, q3⟩
  · intro i x hx hkx
    rcases hs hx with ⟨h1, h2⟩ | ⟨rfl, rfl⟩
    · rw [hag i h1]; exact rk.room i x h2 hkx
    · rw [Map.put_same]
      refine ⟨rfl, by show cs.length ≤ (m id).room - d; omega, fun j hj => ?_⟩
      have hj' : j < (m id).room - d := hj
      have := rr (d + j) (by omega)
      rw [← Nat.add_assoc] at this
      exact this
  · intro i x hx hkx
    rcases hs hx with ⟨h1, h2⟩ | ⟨rfl, rfl⟩
    · rw [hag i h1]; exact rk.iter i x h2 hkx
    · simp at hkx
  · intro i x hx hkx
    rcases hs hx with ⟨h1, h2⟩ | ⟨rfl, rfl⟩
    · rw [hag i h1]; exact rk.live i x h2 hkx
    · rw [Map.put_same]; exact r.live id b hb (by omega)
  · intro i i' x x' hx hx' ho hk0 hii
    have old : ∀ {q : Nat} {y : Blk}, (h.set id (⟨0, 0, []⟩ : Blk))[q]? = some y → y.k ≠ 0 → q ≠ id ∧ h[q]? = some y := by
      intro q y hy hy0
      by_cases hq : q = id
      · subst hq
        rw [List.getElem?_set_self hid] at hy
        exact absurd (by rw [← Option.some.inj hy]) hy0
      · rw [List.getElem?_set_ne (Ne.symm hq)] at hy
        exact ⟨hq, hy⟩
    rcases hs hx with ⟨h1, h2⟩ | ⟨rfl, rfl⟩ <;> rcases hs hx' with ⟨h3, h4⟩ | ⟨rfl, rfl⟩
    · rw [hag i h1, hag i' h3]; exact rk.apart i i' x x' h2 h4 ho hk0 hii
    · rw [hag i h1, Map.put_same]
      obtain ⟨q1, q2⟩ := old h2 (Blk.own_live ho)
      exact r.apart i id x b q2 hb ho (by omega) q1
    · rw [Map.put_same, hag i' h3]
      obtain ⟨q1, q2⟩ := old h4 hk0
      exact r.apart id i' b x' hb q2 (.inl hk) hk0 (Ne.symm q1)
    · exact absurd rfl hii
  · obtain ⟨h1, h2, h3⟩ := r.glob g hg
    refine ⟨by rw [hlen2]; omega, ?_, ?_⟩ <;> rw [hag g h1] <;> assumption
  · obtain ⟨h1, h2⟩ := r.tab g o hg
    refine ⟨h1, fun i x hx ho => ?_⟩
    rcases hs hx with ⟨q1, q2⟩ | ⟨rfl, rfl⟩
    · rw [hag i q1]
      by_cases hi : i = id
      · subst hi
        rw [List.getElem?_set_self hid] at q2
        cases q2
        rcases ho with ho | ho <;> cases ho
      · rw [List.getElem?_set_ne (Ne.symm hi)] at q2
        exact h2 i x q2 ho
    · rw [Map.put_same]; exact h2 id b hb (.inl hk)

theorem Grow.move (m : Map) (h : Heap) (w : World) {id : Nat} {b : Blk} (hb : h[id]? = some b) (hk : b.k = 2) (p : Pl) (hp : p.b = (m id).b) (x : Blk) :
    Grow m h w (m.put h.length p) (h.set id ⟨0, 0, []⟩ ++ [x]) w := by
  have hid := lt_of_get hb
  refine ⟨Map.agree_put _ _ _, by simp, Nat.le_refl _, ⟨rfl, rfl, rfl⟩, fun _ _ _ => rfl, ?_⟩
  intro i y hy hl
  right
  have hl0 : (h.set id (⟨0, 0, []⟩ : Blk)).length = h.length := by simp
  have := get_snoc hy
  rw [hl0] at this
  rcases this with ⟨h1, h2⟩ | ⟨rfl, rfl⟩
  · by_cases hi : i = id
    · subst hi
      rw [List.getElem?_set_self hid] at h2
      exact absurd (by rw [← Option.some.inj h2]) hl
    · rw [List.getElem?_set_ne (Ne.symm hi)] at h2
      exact ⟨i, y, h2, hl, fun z => z, by rw [Map.put_ne _ _ (Nat.ne_of_lt h1)]⟩
  · exact ⟨id, b, hb, by omega, fun _ => .inl hk, by rw [Map.put_same, hp]⟩

theorem VRel.newIn {b : Nat} {e : Nat} {cs : List Value} {h0 : Heap} {m' : Map} {p : Pl} (hp : m' h0.length = p) (y : Addr) (hy : y.spot = none) (hyb : y.block = p.b)
    (hyo : y.off = p.o) (l c' : Nat) (hlc : l ≤ c') (hfit : c' * p.e ≤ p.room) :
    VRel (h0 ++ [(⟨2, e, cs⟩ : Blk)]).length m' (.slice (some ⟨h0.length, 0, some 0⟩) l l) (.slice (some y) l c') := by
  refine .sliceIn _ y l l c' rfl (by simp) hlc hy (by rw [hp]; exact hyb) (fun _ => ?_) (by rw [hp]; omega) (by rw [hp]; omega)
  unfold place
  simp only [hp, Nat.add_zero]
  cases y; simp_all

theorem grow_new (r : WRel G m h w) {t u ty e e2 : TypeId} {i : TypeInfo} {zv : Value} (ht : P.underlying t = some (.slice e)) (hu : P.underlying u = some (.slice e2))
    (hi : P.info? e = some i) (hz : i.zero = some zv) (hzs : zv.cells.size = i.size)
    {yb : Option Addr} {sl c n : Nat} {xb : Option Addr} {xc : Nat} {olds news olds' news' : List Value}
    (ho : (Builtin.firstCells i.size sl (.slice yb sl c)).run P w.drew = .ok olds'.toArray w.drew) (hol : olds.length = sl * i.size) (hoR : LR h.length m olds olds')
    (hf : (Builtin.firstCells i.size n (.slice xb n xc)).run P w.drew = .ok news'.toArray w.drew) (hnl : news.length = n * i.size) (hnR : LR h.length m news news')
    (hg : c < sl + n) (h63 : ((sl + n : Nat) : Int) ≤ 9223372036854775807) (hfit : Builtin.nextslicecap (sl + n) c * i.bytes ≤ 281474976710656) :
    ∃ v' w' m', (Builtin.append_ #[t, u] ty #[.slice yb sl c, .slice xb n xc]).run P w = .ok v' w' ∧
      VRel (h ++ [(⟨2, i.size, olds ++ news⟩ : Blk)]).length m' (.slice (some ⟨h.length, 0, some 0⟩) (sl + n) (sl + n)) v' ∧
      WRel G m' (h ++ [⟨2, i.size, olds ++ news⟩]) w' ∧ Grow m h w m' (h ++ [⟨2, i.size, olds ++ news⟩]) w' := by
  have hrun := run_append_new t u ty e e2 i zv ht hu hi hz yb sl c n xb xc olds' news' w ho hf hg h63 hfit
  have hcap := grownCap_ge w (sl + n) c e
  have hR := hoR.append hnR
  have hl1 : olds'.length = sl * i.size := by rw [← hoR.1]; exact hol
  have hl2 : news'.length = n * i.size := by rw [← hnR.1]; exact hnl
  obtain ⟨m', q1, q2, q3, q4⟩ := new_does r.drew e i.size (olds ++ news)
    (olds'.toArray ++ news'.toArray ++ Builtin.zeroCells zv.cells (grownCap w (sl + n) c e - (sl + n)))
    (by simp [hoR.1, hnR.1])
    (fun j v hj => by
      obtain ⟨v', p1, p2, p3⟩ := hR.2 j v hj
      refine ⟨v', ?_, p2, p3⟩
      have hjl : j < (olds' ++ news').length := by
        obtain ⟨hh, _⟩ := List.getElem?_eq_some_iff.1 p1; exact hh
      rw [← Array.getElem?_toList]
      simp only [Array.toList_append]
      rw [List.getElem?_append_left (by simpa using hjl)]
      exact p1)
  refine ⟨_, _, m', hrun, ?_, q2, (Grow.drew m h w).trans q3⟩
  refine VRel.newIn (b := 0) q4 _ rfl rfl rfl _ _ hcap ?_
  simp only [Array.size_append, List.size_toArray, hl1, hl2, size_zeroCells, hzs]
  rw [← Nat.add_mul, ← Nat.add_mul]
  exact Nat.mul_le_mul_right _ (by omega)

theorem run_apS (r : WRel G m h w) {t u ty : TypeId} {s x s' x' v : Value} {h' : Heap} (hs : VRel h.length m s s') (hx : VRel h.length m x x')
    (hv : apS P h t u s x = some (v, h')) :
    ∃ v' w' m', (Builtin.append_ #[t, u] ty #[s', x']).run P w = .ok v' w' ∧ VRel h'.length m' v v' ∧ WRel G m' h' w' ∧ Grow m h w m' h' w' := by
  unfold apS at hv
  split at hv
  · rename_i e e2 b sl c xb n xc he he2
    have ht := slT_spec he
    have hu := slT_spec he2
    split at hv
    · rename_i hle
      obtain ⟨hle, hnx⟩ := hle
      -- the real source
      obtain ⟨xb', xc', rfl⟩ : ∃ xb' xc', x' = .slice xb' n xc' := by
        cases xb with
        | none => exact ⟨_, _, inv_sliceNone hx⟩
        | some a => obtain ⟨y, c', hh, _⟩ := inv_slice hx; exact ⟨_, _, hh⟩
      obtain ⟨yb, c', hsr, hcc⟩ : ∃ yb c', s' = .slice yb sl c' ∧ c ≤ c' := by
        cases b with
        | none => exact ⟨_, _, inv_sliceNone hs, Nat.le_refl _⟩
        | some a => obtain ⟨y, c', hh, sr⟩ := inv_slice hs; exact ⟨_, _, hh, sr.cap⟩
      split at hv
      · rename_i hn0
        subst hn0
        split at hv
        · rename_i hsome
          cases hv
          obtain ⟨size, hsz⟩ := Option.isSome_iff_exists.1 hsome
          cases hi : P.info? e with
          | none => simp [szT, hi] at hsz
          | some i =>
            subst hsr
            exact ⟨_, _, m, run_append_idle t u ty e e2 i ht hu hi _ _ _ _ _ w (by omega), hs, r, Grow.refl _ _ _⟩
        · cases hv
      · rename_i hn0
        split at hv
        · rename_i z by' hz hb
          obtain ⟨i, zv, hi, hzz, hzl, hsz, hall⟩ := zcT_spec hz
          have hby : i.bytes = by' := by unfold byT at hb; rw [hi] at hb; simpa using hb
          have hzlen : z.length = i.size := by rw [← hzl]; simp [hsz]
          rw [hzlen] at hv
          cases hnews : cellsOf h i.size n (.slice xb n xc) with
          | none => rw [hnews] at hv; simp at hv
          | some news =>
            rw [hnews] at hv
            simp only at hv
            obtain ⟨news', hf, hnl, hnR⟩ := r.cellsOf (P := P) hx (Nat.le_refl _) hnews
            obtain ⟨news'', hf2, _, hnR2⟩ := r.drew.cellsOf (P := P) hx (Nat.le_refl _) hnews
            have hflat : ∀ (l l' : List Value), LR h.length m l l' → ∀ v, v ∈ l' → flat v = true := by
              intro l l' hl u hu
              obtain ⟨j, hj, hjj⟩ := List.mem_iff_getElem.1 hu
              have hj' : j < l.length := by rw [hl.1]; exact hj
              obtain ⟨v', p1, p2, p3⟩ := hl.2 j l[j] (List.getElem?_eq_getElem hj')
              rw [List.getElem?_eq_getElem hj, hjj] at p1
              cases p1
              rw [p2.flat_eq]; exact p3
            split at hv
            · rename_i hin
              cases b with
              | none => simp at hv
              | some a =>
                simp only at hv
                cases hset : setCs h a.block (a.off + sl * i.size) news with
                | none => rw [hset] at hv; simp at hv
                | some h2 =>
                  rw [hset] at hv; simp only at hv; cases hv
                  obtain ⟨y, c2, hh, sr⟩ := inv_slice hs
                  rw [hsr] at hh; cases hh
                  subst hsr
                  have hy := sr.pl (.inr (by omega))
                  unfold setCs at hset
                  cases hbk : h[a.block]? with
                  | none => rw [hbk] at hset; simp at hset
                  | some bk =>
                    rw [hbk] at hset
                    simp only at hset
                    split at hset
                    · rename_i hk
                      obtain ⟨hk, hfit⟩ := hk
                      cases hset
                      obtain ⟨re, rl, rr⟩ := r.room a.block bk hbk hk
                      have hlen : news.length = news'.length := hnR.1
                      have hrun := run_append_in t u ty e e2 i ht hu hi (place m a) rfl sl c' n xb' xc' news' w hf (by omega) (hflat _ _ hnR)
                        (fun j hj => by
                          have := rr (a.off + sl * i.size + j) (by omega)
                          unfold place
                          simp only
                          rw [show (m a.block).o + a.off + sl * i.size + j = (m a.block).o + (a.off + sl * i.size + j) from by omega]; exact this)
                      refine ⟨.slice (some (place m a)) (sl + n) c', Am.setMany w (m a.block).b ((m a.block).o + (a.off + sl * i.size)) news', m, ?_, ?_, ?_, ?_⟩
                      · rw [hy]
                        have e1 : (place m a).off + sl * i.size = (m a.block).o + (a.off + sl * i.size) := by unfold place; simp only; omega
                        have e2' : (place m a).block = (m a.block).b := rfl
                        rw [e1, e2'] at hrun
                        exact hrun
                      · have sr' : SlR (h.set a.block (⟨2, bk.e, splice bk.cs (a.off + sl * i.size) news⟩ : Blk)).length m a (sl + n) c (place m a) c' := by
                          refine ⟨by simp; exact sr.lt, rfl, rfl, sr.cap, fun _ => rfl, fun q => ⟨(sr.ex q).1, rfl⟩, fun q => ?_⟩
                          have := sr.inx q
                          rw [hy] at this; exact this
                        exact sr'.vrel
                      · exact r.setMany hbk hk (a.off + sl * i.size) news news' hlen hnR.2 (by omega) _ (by rw [length_splice]; exact rl)
                          (fun j v hj ho => by rw [splice_out _ _ _ _ ho] at hj; exact hj)
                          (fun j v hj he => by rw [splice_in _ _ _ _ hfit hj] at he; exact he)
                      · exact Grow.setMany r hbk hk _ _ _ (.inl rfl)
                    · cases hset
            · rename_i hin
              split at hv
              · rename_i hlim
                obtain ⟨hlim, hlim2⟩ := hlim
                cases holds : cellsOf h i.size sl (.slice b sl c) with
                | none => rw [holds] at hv; simp at hv
                | some olds =>
                  rw [holds] at hv
                  simp only at hv
                  obtain ⟨olds', ho, hol, hoR⟩ := r.drew.cellsOf (P := P) hs (Nat.le_refl _) holds
                  have h63 : ((sl + n : Nat) : Int) ≤ 9223372036854775807 := by omega
                  have hgrow : c' < sl + n → ∃ v' w' m', (Builtin.append_ #[t, u] ty #[s', .slice xb' n xc']).run P w = .ok v' w' ∧
                      VRel (h ++ [(⟨2, i.size, olds ++ news⟩ : Blk)]).length m' (.slice (some ⟨h.length, 0, some 0⟩) (sl + n) (sl + n)) v' ∧
                      WRel G m' (h ++ [⟨2, i.size, olds ++ news⟩]) w' ∧ Grow m h w m' (h ++ [⟨2, i.size, olds ++ news⟩]) w' := by
                    intro hg
                    rw [hsr] at ho ⊢
                    exact grow_new r ht hu hi hzz hsz ho hol hoR hf2 hnl hnR2 hg h63 (growslice_fits hg (by rw [hby]; omega))
                  have hexact : (∀ a, b = some a → a.spot = none) → newS h (some 0) i.size (sl + n) (sl + n) (olds ++ news) = (v, h') →
                      ∃ v' w' m', (Builtin.append_ #[t, u] ty #[s', .slice xb' n xc']).run P w = .ok v' w' ∧ VRel h'.length m' v v' ∧ WRel G m' h' w' ∧ Grow m h w m' h' w' := by
                    intro hex he
                    have hcap : c' = c := by
                      cases b with
                      | none => have := inv_sliceNone hs; rw [hsr] at this; cases this; rfl
                      | some a =>
                        obtain ⟨y, c2, hh, sr⟩ := inv_slice hs
                        rw [hsr] at hh; cases hh
                        exact (sr.ex (hex a rfl)).1
                    unfold newS at he
                    cases he
                    exact hgrow (by omega)
                  cases b with
                  | none => simp only [Option.some.injEq] at hv; exact hexact (fun a ha => by cases ha) hv
                  | some a =>
                    simp only at hv
                    split at hv
                    · rename_i hsp
                      simp only [Option.some.injEq] at hv
                      exact hexact (fun a' ha => by cases ha; exact hsp) hv
                    · rename_i hsp
                      cases hbk : h[a.block]? with
                      | none => rw [hbk] at hv; simp at hv
                      | some bk =>
                        rw [hbk] at hv
                        simp only at hv
                        split at hv
                        · rename_i hk
                          obtain ⟨hk, hke⟩ := hk
                          simp only [Option.some.injEq, newS] at hv
                          cases hv
                          obtain ⟨y, c2, hh, sr⟩ := inv_slice hs
                          rw [hsr] at hh; cases hh
                          obtain ⟨i1, i2, i3⟩ := sr.inx hsp
                          obtain ⟨re, rl, rr⟩ := r.room a.block bk hbk hk
                          rw [re, hke] at i3
                          have hl0 : (h.set a.block (⟨0, 0, []⟩ : Blk)).length = h.length := by simp
                          by_cases hroom : sl + n ≤ c'
                          · -- in place
                            have hmul : (sl + n) * i.size ≤ c' * i.size := Nat.mul_le_mul_right _ hroom
                            rw [Nat.add_mul] at hmul
                            have hnl' : news'.length = n * i.size := by rw [← hnR.1]; exact hnl
                            have hd : y.off = (m a.block).o + (y.off - (m a.block).o) := by omega
                            have hrun := run_append_in t u ty e e2 i ht hu hi y sr.spot sl c' n xb' xc' news' w hf hroom (hflat _ _ hnR)
                              (fun j hj => by
                                have := rr (y.off - (m a.block).o + sl * i.size + j) (by omega)
                                rw [sr.blk, show y.off + sl * i.size + j = (m a.block).o + (y.off - (m a.block).o + sl * i.size + j) from by omega]; exact this)
                            have r1 := r.setMany hbk hk (y.off - (m a.block).o + sl * i.size) news news' hnR.1 hnR.2 (by omega) [] (by simp)
                              (fun j v hj _ => by simp at hj) (fun j v _ hj => by simp at hj)
                            rw [show (m a.block).o + (y.off - (m a.block).o + sl * i.size) = y.off + sl * i.size from by omega] at r1
                            have hb1 : (h.set a.block (⟨2, bk.e, []⟩ : Blk))[a.block]? = some ⟨2, bk.e, []⟩ := List.getElem?_set_self (lt_of_get hbk)
                            have hl1 : (h.set a.block (⟨2, bk.e, []⟩ : Blk)).length = h.length := by simp
                            have hset2 : (h.set a.block (⟨2, bk.e, []⟩ : Blk)).set a.block (⟨0, 0, []⟩ : Blk) = h.set a.block ⟨0, 0, []⟩ := by simp
                            have r2 := r1.move hb1 rfl (y.off - (m a.block).o) (olds ++ news) (by simp only [List.length_append, hol, hnl]; omega) (by
                              intro j u hj
                              rw [hl1]
                              rw [show (m a.block).o + (y.off - (m a.block).o) + j = y.off + j from by omega]
                              by_cases hjo : j < olds.length
                              · rw [List.getElem?_append_left hjo] at hj
                                have hy := sr.pl (.inl (by rintro rfl; rw [hol] at hjo; simp at hjo))
                                obtain ⟨_, l', p2, p3, p4⟩ := r.loadCs holds
                                obtain ⟨u', q1, q2, q3⟩ := p4 j u hj
                                refine ⟨u', ?_, q2, q3⟩
                                rw [cell_setMany_out _ _ _ _ _ (by right; left; simp only; omega)]
                                have := p3 j u' q1
                                rw [hy]; exact this
                              · rw [List.getElem?_append_right (by omega)] at hj
                                obtain ⟨u', q1, q2, q3⟩ := hnR.2 _ u hj
                                refine ⟨u', ?_, q2, q3⟩
                                have hc2 := cell_setMany_in news' w (m a.block).b (y.off + sl * i.size) (fun q hq => by
                                  obtain ⟨h1, _⟩ := rr (y.off - (m a.block).o + sl * i.size + q) (by omega)
                                  rw [show y.off + sl * i.size + q = (m a.block).o + (y.off - (m a.block).o + sl * i.size + q) from by omega]; exact h1)
                                  (j - olds.length) (by
                                    obtain ⟨hh, _⟩ := List.getElem?_eq_some_iff.1 q1; exact hh)
                                rw [show y.off + sl * i.size + (j - olds.length) = y.off + j from by rw [hol] at hjo ⊢; omega] at hc2
                                rw [hc2]; exact q1)
                            rw [hset2, hl1] at r2
                            rw [hke] at r2
                            have g2 := Grow.move m (h.set a.block ⟨2, bk.e, []⟩) (Am.setMany w (m a.block).b (y.off + sl * i.size) news') hb1 rfl
                              ⟨(m a.block).b, (m a.block).o + (y.off - (m a.block).o), i.size, (m a.block).room - (y.off - (m a.block).o)⟩ rfl (⟨2, i.size, olds ++ news⟩ : Blk)
                            rw [hset2, hl1] at g2
                            refine ⟨.slice (some y) (sl + n) c', Am.setMany w (m a.block).b (y.off + sl * i.size) news',
                              m.put h.length ⟨(m a.block).b, (m a.block).o + (y.off - (m a.block).o), i.size, (m a.block).room - (y.off - (m a.block).o)⟩, ?_, ?_, r2,
                              (Grow.setMany r hbk hk _ _ _ (.inl rfl)).trans g2⟩
                            · rw [hsr, ← sr.blk]; exact hrun
                            · have hp := Map.put_same m h.length ⟨(m a.block).b, (m a.block).o + (y.off - (m a.block).o), i.size, (m a.block).room - (y.off - (m a.block).o)⟩
                              exact VRel.newIn (b := 0) (e := i.size) (cs := olds ++ news) (h0 := h.set a.block ⟨0, 0, []⟩)
                                (p := ⟨(m a.block).b, (m a.block).o + (y.off - (m a.block).o), i.size, (m a.block).room - (y.off - (m a.block).o)⟩)
                                (by rw [hl0]; exact hp) y sr.spot sr.blk (by show y.off = (m a.block).o + (y.off - (m a.block).o); omega) (sl + n) c' hroom
                                (by show c' * i.size ≤ (m a.block).room - (y.off - (m a.block).o); omega)
                          · have hg := hgrow (by omega)
                            obtain ⟨v', w', m', g1, g2, g3, g4⟩ := hg
                            have hne : a.block < h.length := sr.lt
                            have hset3 : (h ++ [(⟨2, i.size, olds ++ news⟩ : Blk)]).set a.block ⟨0, 0, []⟩ = h.set a.block ⟨0, 0, []⟩ ++ [⟨2, i.size, olds ++ news⟩] := by
                              rw [List.set_append_left _ _ hne]
                            have k1 := g3.kill a.block 0 []
                            have k2 := g4.trans (Grow.kill m' (h ++ [(⟨2, i.size, olds ++ news⟩ : Blk)]) w' a.block 0 [])
                            rw [hset3] at k1 k2
                            refine ⟨v', w', m', g1, ?_, ?_, ?_⟩
                            · simpa [hl0, hzlen] using g2
                            · simpa [hl0, hzlen] using k1
                            · simpa [hl0, hzlen] using k2
                        · cases hv
              · cases hv
        · cases hv
    · cases hv
  · cases hv

end
end Go.Proofs.Ytiddnhhjlipebaa.Am
