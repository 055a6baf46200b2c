/- All operations that call nothing in one function; calls; entering a function and what it hands back. Conditions: none. -/
import Derived.Test.YtiddnhhjlipebaaAmJ
namespace Go.Proofs.Ytiddnhhjlipebaa.Am
open Go
set_option linter.unusedVariables false
set_option linter.unusedSimpArgs false

section
variable {P : Program} {G : Glo} {N : Nat} {m : Map} {h : Heap} {w : World} {T : Tmps}

def clr (P : Program) (h : Heap) (t : TypeId) (x : Value) : Option (Value × Heap) :=
  match x with
  | .slice (some a) (n + 1) _ => (match slT P t with
    | some e => (match zcT P e with
      | some z => (setCs h a.block a.off (zeros z (n + 1))).map (Value.tuple #[], ·)
      | none => none)
    | none => none)
  | .slice _ 0 _ => if (slT P t).isSome then some (.tuple #[], h) else none
  | _ => none

def blt (P : Program) (h : Heap) (b : Builtin) (tys : Array TypeId) (args : List Value) : Option (Value × Heap) :=
  match b, args with
  | .len, [x] => if tys.size = 1 then (lenV P (tys.getD 0 0) x).map (·, h) else none
  | .append, [s, x] => if tys.size = 2 then apS P h (tys.getD 0 0) (tys.getD 1 0) s x else none
  | .min, [.int k a, .int _ b] => some (.int k (if b < a then b else a), h)
  | .max, [.int k a, .int _ b] => some (.int k (if b > a then b else a), h)
  | .clear, [x] => if tys.size = 1 then clr P h (tys.getD 0 0) x else none
  | _, _ => none

def stp (P : Program) (h : Heap) (ρ : Operand → Value) (o : Op) : Option (Value × Heap) :=
  match o with
  | .move x | .assign x => some (ρ x, h)
  | .pick c a b => (match ρ c with | .bool t => some (bif t then ρ a else ρ b, h) | _ => none)
  | .alloc t => (zcT P t).map (newB h 1)
  | .box t x => (vcs (ρ x)).map (newB h 1)
  | .build t parts => (bld P t (parts.toList.map fun p => (p.1, ρ p.2))).map (·, h)
  | .buildSlice t len parts => bsl P t h len (parts.toList.map fun p => (p.1, ρ p.2))
  | .load t x => (ldv P t h (ρ x)).map (·, h)
  | .store t x y => (stv P t h (ρ x) (ρ y)).map (undef, ·)
  | .nilCheck x => (match ρ x with | .pointer (some a) => some (.pointer (some a), h) | .func (.func f) a b => some (.func (.func f) a b, h) | _ => none)
  | .binOp op t x y _ => (binV P op t x y (ρ x) (ρ y)).map (·, h)
  | .unOp op _ x => (unV P op (ρ x)).map (·, h)
  | .convert s d x => (conV P h s d (ρ x)).map (·, h)
  | .makeFunc fn fs cs => some (.func fn (fs.map ρ) (cs.map ρ), h)
  | .makeSlice t l c => mkS P t h (ρ l) (ρ c)
  | .slice t x lo hi mx => (cut P t h (ρ x) (lo.map ρ) (hi.map ρ) (mx.map ρ)).map (·, h)
  | .fieldAddr t x f => (fldA P t (ρ x) f).map (·, h)
  | .field t x f => (fldV P t (ρ x) f).map (·, h)
  | .indexAddr t x i => (idxA P t (ρ x) (ρ i)).map (·, h)
  | .index t x i => (idxV P t (ρ x) (ρ i)).map (·, h)
  | .range t x => (match ρ x with
    | .string s => if stT P t = true then some (.pointer (some ⟨h.length, 0, none⟩), h ++ [⟨3, 1, [.string s, .int .i64 (0 : Nat)]⟩]) else none
    | _ => none)
  | .next x true => nxt h (ρ x)
  | .extract x i => (match ρ x with | .tuple vs => (vs[i]?).map (·, h) | _ => none)
  | .call c => (match c.callee with | .builtin b => blt P h b c.argTypes (c.args.toList.map ρ) | _ => none)
  | _ => none

theorem map_some {α β : Type} {x : Option α} {f : α → β} {y : β} (h : x.map f = some y) : ∃ a, x = some a ∧ f a = y := by
  cases x with
  | none => cases h
  | some a => exact ⟨a, rfl, Option.some.inj h⟩

theorem parts_rel {a : Act} (parts : Array (Nat × Operand)) (hp : ∀ x, x ∈ (parts.toList.map (·.2)).toArray → VRel h.length m (ev T x) (a.eval x)) :
    (parts.toList.map fun p => (p.1, ev T p.2)).length = (parts.map fun (i, x) => (i, a.eval x)).toList.length ∧
    ∀ (j : Nat) (i : Nat) (v : Value), (parts.toList.map fun p => (p.1, ev T p.2))[j]? = some (i, v) →
      ∃ v', (parts.map fun (i, x) => (i, a.eval x)).toList[j]? = some (i, v') ∧ VRel h.length m v v' := by
  refine ⟨by simp, fun j i v hj => ?_⟩
  simp only [List.getElem?_map, Option.map_eq_some_iff] at hj
  obtain ⟨p, h1, h2⟩ := hj
  cases h2
  refine ⟨a.eval p.2, by simp only [Array.toList_map, List.getElem?_map, h1]; rfl, hp _ ?_⟩
  have := List.mem_of_getElem? h1
  simp only [List.mem_toArray, List.mem_map]
  exact ⟨p, this, rfl⟩

theorem ov_rel {a : Act} {x : Option Operand} (hx : ∀ y, x = some y → VRel h.length m (ev T y) (a.eval y)) : OV h.length m (x.map (ev T)) (x.map a.eval) := by
  cases x with
  | none => trivial
  | some y => exact hx y rfl

theorem args_list {args : Array Operand} {a : Act} : (args.map a.eval).toList = args.toList.map a.eval := by simp

theorem run_clr (r : WRel G m h w) {t ty : TypeId} {x x' v : Value} {h' : Heap} (hx : VRel h.length m x x') (hv : clr P h t x = some (v, h')) :
    ∃ v' w', (Builtin.clear_ #[t] ty #[x']).run P w = .ok v' w' ∧ VRel h'.length m v v' ∧ WRel G m h' w' ∧ Grow m h w m h' w' := by
  unfold clr at hv
  split at hv
  · rename_i a n c
    split at hv
    · rename_i e hs
      split at hv
      · rename_i z hz
        obtain ⟨h2, hset, he⟩ := map_some hv
        cases he
        obtain ⟨y, c', rfl, sr⟩ := inv_slice hx
        have hy := sr.pl (.inl (by omega))
        subst hy
        have hu := slT_spec hs
        obtain ⟨i, zv, hi, hzz, hzl, hsz, hall⟩ := zcT_spec hz
        unfold setCs at hset
        cases hb : h[a.block]? with
        | none => rw [hb] at hset; simp at hset
        | some b =>
          rw [hb] at hset
          simp only at hset
          split at hset
          · rename_i hk
            obtain ⟨hk, hfit⟩ := hk
            cases hset
            obtain ⟨re, rl, rr⟩ := r.room a.block b hb hk
            have hzc : (Builtin.zeroCells zv.cells (n + 1)).toList = zeros z (n + 1) := by
              rw [← hzl]; exact madeCells_list zv.cells (n + 1)
            have hst := run_storeCells (P := P) (zeros z (n + 1)) w (place m a) 0 rfl (fun v hv => (hall v (mem_zeros hv)).1)
              (fun j hj => by
                have := rr (a.off + j) (by omega)
                have e1 : (place m a).off + 0 + j = (m a.block).o + (a.off + j) := by unfold place; simp only; omega
                rw [e1]; exact this)
            refine ⟨.tuple #[], _, ?_, VRel.undef _ _, r.setMany hb hk a.off (zeros z (n + 1)) (zeros z (n + 1)) rfl (LR.const fun v hv => hall v (mem_zeros hv)).2 (by omega) _
              (by rw [length_splice]; exact rl) (fun j v hj ho => by rw [splice_out _ _ _ _ ho] at hj; exact hj)
              (fun j v hj he => by rw [splice_in _ _ _ _ hfit hj] at he; exact he), Grow.setMany r hb hk _ _ _ (.inl rfl)⟩
            have e0 : (place m a).off + 0 = (m a.block).o + a.off := rfl
            rw [e0] at hst
            simp only [Builtin.clear_, Sem.run_bind, run_underlying hu, Result.andThen_ok, List.getElem?_toArray, List.getElem?_cons_zero, zeroValue, run_typeInfo hi, hzz, Sem.run_pure, hzc, hst]
            rfl
          · cases hset
      · cases hv
    · cases hv
  · rename_i b c
    split at hv
    · rename_i hs
      cases hv
      obtain ⟨e, hs⟩ := Option.isSome_iff_exists.1 hs
      have hu := slT_spec hs
      obtain ⟨y, c', rfl⟩ : ∃ y c', x' = .slice y 0 c' := by
        cases b with
        | none => exact ⟨_, _, inv_sliceNone hx⟩
        | some a => obtain ⟨y, c', hh, _⟩ := inv_slice hx; exact ⟨_, _, hh⟩
      refine ⟨.tuple #[], w, ?_, VRel.undef _ _, r, Grow.refl _ _ _⟩
      cases y <;> simp [Builtin.clear_, run_underlying hu]
    · cases hv
  · cases hv

theorem args1 {α β : Type} {args : Array α} {f : α → β} {x : β} (h : args.toList.map f = [x]) : ∃ x0, args = #[x0] ∧ x = f x0 := by
  obtain ⟨l⟩ := args
  cases l with
  | nil => simp at h
  | cons a l => cases l with
    | nil => simp at h; exact ⟨a, rfl, h.symm⟩
    | cons b l => simp at h

theorem args2 {α β : Type} {args : Array α} {f : α → β} {x y : β} (h : args.toList.map f = [x, y]) : ∃ x0 y0, args = #[x0, y0] ∧ x = f x0 ∧ y = f y0 := by
  obtain ⟨l⟩ := args
  cases l with
  | nil => simp at h
  | cons a l => cases l with
    | nil => simp at h
    | cons b l => cases l with
      | nil => simp at h; exact ⟨a, b, rfl, h.1.symm, h.2.symm⟩
      | cons c l => simp at h

theorem tys1 {tys : Array TypeId} (h : tys.size = 1) : tys = #[tys.getD 0 0] := by
  apply Array.ext (by simp [h])
  intro i h1 h2
  have : i = 0 := by omega
  subst this
  simp [Array.getD, h]

theorem tys2 {tys : Array TypeId} (h : tys.size = 2) : tys = #[tys.getD 0 0, tys.getD 1 0] := by
  apply Array.ext (by simp [h])
  intro i h1 h2
  have : i = 0 ∨ i = 1 := by omega
  rcases this with rfl | rfl <;> simp [Array.getD, h]

theorem VRel.of_af {n : Nat} {v : Value} (h : af v = true) : VRel n m v v := by
  have : VRel n m (.tuple [v].toArray) (.tuple [v].toArray) := vtuple (by intro u hu; simp at hu; subst hu; exact h)
  obtain ⟨cs', h1, h2, h3⟩ := inv_tuple this
  have := h3 0 (by simp) (by rw [← h2]; simp)
  cases h1
  simpa using this

theorem stp_does {o : Oper} {a : Act} {v : Value} {h' : Heap} (ho : ORel h.length m T a o) (r : WRel G m h w) (hv : stp P h (ev T) o.op = some (v, h')) :
    Does P G o a m h w v h' := by
  obtain ⟨dst, op, ty, pos, after, guard⟩ := o
  unfold ORel at ho
  simp only at ho hv
  unfold stp at hv
  split at hv
  · rename_i x
    cases hv
    exact does_pure r rfl (ho x (by simp [Op.operands]))
  · rename_i x
    cases hv
    exact does_pure r rfl (ho x (by simp [Op.operands]))
  · rename_i c x y
    have hc := ho c (by simp [Op.operands])
    split at hv
    · rename_i t ht
      cases hv
      rw [ht] at hc
      have hc' := inv_bool hc
      cases t
      · exact does_pure r (v' := a.eval y) (by simp [execOp, hc', asBool]) (ho y (by simp [Op.operands]))
      · exact does_pure r (v' := a.eval x) (by simp [execOp, hc', asBool]) (ho x (by simp [Op.operands]))
    · cases hv
  · rename_i t
    obtain ⟨z, hz, he⟩ := map_some hv
    obtain ⟨v', w', m', q1, q2, q3, q4⟩ := run_alloc_zc (P := P) r hz
    rw [he] at q2 q3 q4
    exact ⟨v', w', m', .inl (by simp [execOp, q1]), q2, q3, q4⟩
  · rename_i t x
    obtain ⟨z, hz, he⟩ := map_some hv
    obtain ⟨v', w', m', q1, q2, q3, q4⟩ := run_box (P := P) r (t := t) (ho x (by simp [Op.operands])) hz
    rw [he] at q2 q3 q4
    exact ⟨v', w', m', .inl (by simp [execOp, q1]), q2, q3, q4⟩
  · rename_i t parts
    obtain ⟨u, hu, he⟩ := map_some hv
    cases he
    obtain ⟨p1, p2⟩ := parts_rel (a := a) (h := h) (m := m) (T := T) parts (fun x hx => ho x (by simpa [Op.operands] using hx))
    obtain ⟨v', q1, q2⟩ := run_bld (P := P) r (parts := (parts.toList.map fun p => (p.1, ev T p.2)).toArray) (parts' := parts.map fun (i, x) => (i, a.eval x))
      (by simp) (by simpa using p2) (by simpa using hu)
    exact does_pure r (v' := v') (by simp only [execOp, Sem.run_bind, q1, Result.andThen_ok]; rfl) q2
  · rename_i t len parts
    obtain ⟨p1, p2⟩ := parts_rel (a := a) (h := h) (m := m) (T := T) parts (fun x hx => ho x (by simpa [Op.operands] using hx))
    obtain ⟨v', w', m', q1, q2, q3, q4⟩ := run_bsl (P := P) r (parts := (parts.toList.map fun p => (p.1, ev T p.2)).toArray) (parts' := parts.map fun (i, x) => (i, a.eval x))
      (by simp) (by simpa using p2) (by simpa using hv)
    exact ⟨v', w', m', .inl (by simp only [execOp, Sem.run_bind, q1, Result.andThen_ok]; rfl), q2, q3, q4⟩
  · rename_i t x
    obtain ⟨u, hu, he⟩ := map_some hv
    cases he
    obtain ⟨v', q1, q2⟩ := run_ldv (P := P) r (ho x (by simp [Op.operands])) hu
    exact does_pure r (by simp [execOp, q1]) q2
  · rename_i t x y
    obtain ⟨u, hu, he⟩ := map_some hv
    cases he
    obtain ⟨w', q1, q2, q3, q4⟩ := run_stv (P := P) r (ho x (by simp [Op.operands])) (ho y (by simp [Op.operands])) hu
    exact ⟨undef, w', m, .inr ⟨by simp [execOp, q1], rfl⟩, VRel.undef _ _, q2, q3⟩
  · rename_i x
    have hx := ho x (by simp [Op.operands])
    split at hv
    · rename_i ad hp
      cases hv
      rw [hp] at hx
      obtain ⟨_, _, hh⟩ := inv_ptr hx
      exact does_pure r (v' := a.eval x) (by simp [execOp, hh]) hx
    · rename_i f fs cs hp
      cases hv
      rw [hp] at hx
      have hh : ∃ fs' cs', a.eval x = .func (.func f) fs' cs' := by
        generalize a.eval x = u at hx
        cases hx; exact ⟨_, _, rfl⟩
      obtain ⟨fs', cs', hh⟩ := hh
      exact does_pure r (v' := a.eval x) (by simp [execOp, hh]) hx
    · cases hv
  · rename_i op t x y yt
    obtain ⟨u, hu, he⟩ := map_some hv
    cases he
    have hx := ho x (by simp [Op.operands])
    have hy := ho y (by simp [Op.operands])
    obtain ⟨q1, q2⟩ := run_binV (P := P) (w := w) hx hy hu
    refine does_pure r ?_ (VRel.of_af q2)
    simp only [execOp, Sem.run_bind] at q1 ⊢
    rw [q1]; rfl
  · rename_i op ty' x
    obtain ⟨u, hu, he⟩ := map_some hv
    cases he
    unfold unV at hu
    split at hu
    · rename_i haf
      have e1 := (ho x (by simp [Op.operands])).eq_af1 haf
      obtain ⟨h1, h2⟩ := ckd_some hu
      have q1 := pureRun_sound _ h1 w
      refine does_pure r ?_ (VRel.of_af h2)
      simp only [execOp, Sem.run_bind, e1, q1, Result.andThen_ok]; rfl
    · cases hu
  · rename_i s d x
    obtain ⟨u, hu, he⟩ := map_some hv
    cases he
    obtain ⟨q1, q2⟩ := run_conV (P := P) r (ho x (by simp [Op.operands])) hu
    refine does_pure r ?_ (VRel.of_af q2)
    simp only [execOp, Sem.run_bind, q1, Result.andThen_ok]; rfl
  · rename_i fn fs cs
    cases hv
    refine does_pure r (v' := .func fn (fs.map a.eval) (cs.map a.eval)) ?_ ?_
    · simp only [execOp, Sem.run_bind, Instr.makeFunc]; rfl
    · refine .func _ _ _ _ _ (by simp) (by simp) (fun i h1 h2 => ?_) (fun i h1 h2 => ?_)
      · simp only [Array.getElem_map]; exact ho _ (by simp [Op.operands])
      · simp only [Array.getElem_map]; exact ho _ (by simp [Op.operands])
  · rename_i t l c
    obtain ⟨v', w', m', q1, q2, q3, q4⟩ := run_mkS (P := P) r (ho l (by simp [Op.operands])) (ho c (by simp [Op.operands])) hv
    exact ⟨v', w', m', .inl (by simp only [execOp, Sem.run_bind, q1, Result.andThen_ok]; rfl), q2, q3, q4⟩
  · rename_i t x lo hi mx
    obtain ⟨u, hu, he⟩ := map_some hv
    cases he
    obtain ⟨v', q1, q2⟩ := run_cut (P := P) r (ho x (by simp [Op.operands])) (ov_rel (a := a) (T := T) (x := lo) (fun y hy => ho y (by simp [Op.operands, hy])))
      (ov_rel (a := a) (T := T) (x := hi) (fun y hy => ho y (by simp [Op.operands, hy]))) (ov_rel (a := a) (T := T) (x := mx) (fun y hy => ho y (by simp [Op.operands, hy]))) hu
    exact does_pure r (v' := v') (by simp only [execOp, Sem.run_bind, q1, Result.andThen_ok]; rfl) q2
  · rename_i t x f
    obtain ⟨u, hu, he⟩ := map_some hv
    cases he
    obtain ⟨v', q1, q2⟩ := run_fldA (P := P) (w := w) (ho x (by simp [Op.operands])) hu
    exact does_pure r (v' := v') (by simp only [execOp, Sem.run_bind, q1, Result.andThen_ok]; rfl) q2
  · rename_i t x f
    obtain ⟨u, hu, he⟩ := map_some hv
    cases he
    obtain ⟨v', q1, q2⟩ := run_fldV (P := P) (w := w) (ho x (by simp [Op.operands])) hu
    exact does_pure r (v' := v') (by simp only [execOp, Sem.run_bind, q1, Result.andThen_ok]; rfl) q2
  · rename_i t x i
    obtain ⟨u, hu, he⟩ := map_some hv
    cases he
    obtain ⟨v', q1, q2⟩ := run_idxA (P := P) (w := w) (ho x (by simp [Op.operands])) (ho i (by simp [Op.operands])) hu
    exact does_pure r (v' := v') (by simp only [execOp, Sem.run_bind, q1, Result.andThen_ok]; rfl) q2
  · rename_i t x i
    obtain ⟨u, hu, he⟩ := map_some hv
    cases he
    obtain ⟨v', q1, q2⟩ := run_idxV (P := P) (w := w) (ho x (by simp [Op.operands])) (ho i (by simp [Op.operands])) hu
    exact does_pure r (v' := v') (by simp only [execOp, Sem.run_bind, q1, Result.andThen_ok]; rfl) q2
  · rename_i t x
    have hx := ho x (by simp [Op.operands])
    split at hv
    · rename_i s hs
      rw [hs] at hx
      have hx' := inv_string hx
      split at hv
      · rename_i hst
        cases hv
        have hu := stT_spec hst
        have hr := run_range_string (P := P) w t s hu
        refine ⟨.pointer (some ⟨w.heap.size, 0, none⟩), w.alloc (.stringIter s 0), _, .inl (by simp only [execOp, Sem.run_bind, hx', hr, Result.andThen_ok]; rfl), ?_,
          r.alloc_iter s 0, Grow.alloc _ _ _ _ _ _ rfl⟩
        have := VRel.ptr (n := (h ++ [(⟨3, 1, [.string s, .int .i64 (0 : Nat)]⟩ : Blk)]).length) (m := m.put h.length ⟨w.heap.size, 0, 1, 0⟩) ⟨h.length, 0, none⟩ rfl (by simp)
        unfold place at this
        rw [Map.put_same] at this
        exact this
      · cases hv
    · cases hv
  · rename_i x
    obtain ⟨v', w', q1, q2, q3, q4⟩ := run_nxt (P := P) r (ty := ty) (ho x (by simp [Op.operands])) hv
    exact ⟨v', w', m, .inl (by simp only [execOp, Sem.run_bind, q1, Result.andThen_ok]; rfl), q2, q3, q4⟩
  · rename_i x i
    have hx := ho x (by simp [Op.operands])
    split at hv
    · rename_i vs hs
      rw [hs] at hx
      obtain ⟨cs', hh, hsz, hp⟩ := inv_tuple hx
      obtain ⟨u, hu, he⟩ := map_some hv
      cases he
      obtain ⟨h1, h2⟩ := Array.getElem?_eq_some_iff.1 hu
      refine does_pure r (v' := cs'[i]'(by omega)) ?_ (by rw [← h2]; exact hp i h1 (by omega))
      simp [execOp, hh, Instr.extract, Array.getElem?_eq_getElem (show i < cs'.size by omega)]
    · cases hv
  · rename_i c
    split at hv
    · rename_i b hb
      obtain ⟨callee, args, tys⟩ := c
      simp only at hb hv
      subst hb
      have hargs : ∀ x, x ∈ args → VRel h.length m (ev T x) (a.eval x) := fun x hx => ho x (by simp [Op.operands, Call.operands, hx])
      unfold blt at hv
      split at hv
      · rename_i x hx
        split at hv
        · rename_i ht
          obtain ⟨u, hu, he⟩ := map_some hv
          cases he
          obtain ⟨x0, rfl, rfl⟩ := args1 hx
          obtain ⟨t0, rfl⟩ : ∃ t0, tys = #[t0] := ⟨_, tys1 ht⟩
          have g0 : (#[t0] : Array TypeId).getD 0 0 = t0 := rfl
          rw [g0] at hu
          obtain ⟨q1, q2⟩ := run_lenV (P := P) (w := w) (ty := ty) (hargs x0 (by simp)) hu
          refine does_pure r ?_ (VRel.of_af q2)
          simp only [execOp, resolve, pure_bind, invoke, builtin, Sem.run_bind] at q1 ⊢
          simp only [List.map_toArray, List.map_cons, List.map_nil]
          simp [q1]
        · cases hv
      · rename_i s x hx
        split at hv
        · rename_i ht
          obtain ⟨x0, x1, rfl, rfl, rfl⟩ := args2 hx
          obtain ⟨t0, t1, rfl⟩ : ∃ t0 t1, tys = #[t0, t1] := ⟨_, _, tys2 ht⟩
          have g0 : (#[t0, t1] : Array TypeId).getD 0 0 = t0 := rfl
          have g1 : (#[t0, t1] : Array TypeId).getD 1 0 = t1 := rfl
          rw [g0, g1] at hv
          obtain ⟨v', w', m', q1, q2, q3, q4⟩ := run_apS (P := P) r (ty := ty) (hargs x0 (by simp)) (hargs x1 (by simp)) hv
          refine ⟨v', w', m', .inl ?_, q2, q3, q4⟩
          simp only [execOp, resolve, pure_bind, invoke, builtin, Sem.run_bind] at q1 ⊢
          simp only [List.map_toArray, List.map_cons, List.map_nil]
          simp [q1]
        · cases hv
      · rename_i k i k' j hx
        cases hv
        obtain ⟨x0, x1, rfl, e0, e1⟩ := args2 hx
        have h0 := hargs x0 (by simp)
        have h1 := hargs x1 (by simp)
        rw [← e0] at h0; rw [← e1] at h1
        have h0' := inv_int h0
        have h1' := inv_int h1
        refine does_pure r ?_ (.int _ _)
        simp [execOp, resolve, invoke, builtin, Builtin.min_, Builtin.min2, h0', h1']
      · rename_i k i k' j hx
        cases hv
        obtain ⟨x0, x1, rfl, e0, e1⟩ := args2 hx
        have h0 := hargs x0 (by simp)
        have h1 := hargs x1 (by simp)
        rw [← e0] at h0; rw [← e1] at h1
        have h0' := inv_int h0
        have h1' := inv_int h1
        refine does_pure r ?_ (.int _ _)
        simp [execOp, resolve, invoke, builtin, Builtin.max_, Builtin.max2, h0', h1']
      · rename_i x hx
        split at hv
        · rename_i ht
          obtain ⟨x0, rfl, rfl⟩ := args1 hx
          obtain ⟨t0, rfl⟩ : ∃ t0, tys = #[t0] := ⟨_, tys1 ht⟩
          have g0 : (#[t0] : Array TypeId).getD 0 0 = t0 := rfl
          rw [g0] at hv
          obtain ⟨v', w', q1, q2, q3, q4⟩ := run_clr (P := P) r (ty := ty) (hargs x0 (by simp)) hv
          refine ⟨v', w', m, .inl ?_, q2, q3, q4⟩
          simp only [execOp, resolve, pure_bind, invoke, builtin, Sem.run_bind] at q1 ⊢
          simp only [List.map_toArray, List.map_cons, List.map_nil]
          simp [q1]
        · cases hv
      · cases hv
    · cases hv
  · cases hv

theorem aop_stp {o : Oper} {K : Value → Heap → Prop} {v : Value} {h' : Heap} (hv : stp P h (ev T) o.op = some (v, h')) (hk : K v h') : AOp P G o T h K :=
  aop_of_does (fun _ _ _ ho r => stp_does ho r hv) hk

end
end Go.Proofs.Ytiddnhhjlipebaa.Am
