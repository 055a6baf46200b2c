/- All operations that call nothing in one function; calls; entering a function and what it hands back. Conditions: none. -/
import Derived.Test.YtdldekkojjfllaaDoorJ1
import Derived.Below
namespace Go.Proofs.YtdldekkojjfllaaDoor.Am
open Go
set_option linter.unusedVariables false
set_option linter.unusedSimpArgs false
section
variable {P : Program} {G : Glo} {N : Nat} {m : Map} {h : Heap} {w : World} {T : Tmps}
def clr (P : Program) (h : Heap) (t : TypeId) (x : Value) : Option (Value × Heap) :=
  match x with
  | .slice (some a) (n + 1) _ => (match slT P t with
    | some e => (match zcT P e with
      | some z => (setCs h a.block a.off (zeros z (n + 1))).map (Value.tuple #[], ·)
      | none => none)
    | none => none)
  | .slice _ 0 _ => if (slT P t).isSome then some (.tuple #[], h) else none
  | _ => none
def blt (P : Program) (h : Heap) (b : Builtin) (tys : Array TypeId) (args : List Value) : Option (Value × Heap) :=
  match b, args with
  | .len, [x] => if tys.size = 1 then (lenV P (tys.getD 0 0) x).map (·, h) else none
  | .append, [s, x] => if tys.size = 2 then apS P h (tys.getD 0 0) (tys.getD 1 0) s x else none
  | .min, [.int k a, .int _ b] => some (.int k (if b < a then b else a), h)
  | .max, [.int k a, .int _ b] => some (.int k (if b > a then b else a), h)
  | .clear, [x] => if tys.size = 1 then clr P h (tys.getD 0 0) x else none
  | _, _ => none
def stp (P : Program) (h : Heap) (ρ : Operand → Value) (o : Op) : Option (Value × Heap) :=
  match o with
  | .move x | .assign x => some (ρ x, h)
  | .pick c a b => (match ρ c with | .bool t => some (bif t then ρ a else ρ b, h) | _ => none)
  | .alloc t => (zcT P t).map (newB h 1)
  | .box t x => (vcs (ρ x)).map (newB h 1)
  | .build t parts => (bld P t (parts.toList.map fun p => (p.1, ρ p.2))).map (·, h)
  | .buildSlice t len parts => bsl P t h len (parts.toList.map fun p => (p.1, ρ p.2))
  | .load t x => (ldv P t h (ρ x)).map (·, h)
  | .store t x y => (stv P t h (ρ x) (ρ y)).map (undef, ·)
  | .nilCheck x => (match ρ x with | .pointer (some a) => some (.pointer (some a), h) | .func (.func f) a b => some (.func (.func f) a b, h) | _ => none)
  | .binOp op t x y _ => (binV P op t x y (ρ x) (ρ y)).map (·, h)
  | .unOp op _ x => (unV P op (ρ x)).map (·, h)
  | .convert s d x => (conV P h s d (ρ x)).map (·, h)
  | .makeFunc fn fs cs => some (.func fn (fs.map ρ) (cs.map ρ), h)
  | .makeSlice t l c => mkS P t h (ρ l) (ρ c)
  | .slice t x lo hi mx => (cut P t h (ρ x) (lo.map ρ) (hi.map ρ) (mx.map ρ)).map (·, h)
  | .fieldAddr t x f => (fldA P t (ρ x) f).map (·, h)
  | .field t x f => (fldV P t (ρ x) f).map (·, h)
  | .indexAddr t x i => (idxA P t (ρ x) (ρ i)).map (·, h)
  | .index t x i => (idxV P t (ρ x) (ρ i)).map (·, h)
  | .range t x => (match ρ x with
    | .string s => if stT P t = true then some (.pointer (some ⟨h.length, 0, none⟩), h ++ [⟨3, 1, [.string s, .int .i64 (0 : Nat)]⟩]) else none
    | _ => none)
  | .next x true => nxt h (ρ x)
  | .extract x i => (match ρ x with | .tuple vs => (vs[i]?).map (·, h) | _ => none)
  | .call c => (match c.callee with | .builtin b => blt P h b c.argTypes (c.args.toList.map ρ) | _ => none)
  | _ => none
theorem map_some {α β : Type} {x : Option α} {f : α → β} {y : β} (h : x.map f = some y) : ∃ a, x = some a ∧ f a = y := by
  cases x with
  | none => cases h
  | some a => exact ⟨a, rfl, Option.some.inj h⟩
theorem parts_rel {a : Act} (parts : Array (Nat × Operand)) (hp : ∀ x, x ∈ (parts.toList.map (·.2)).toArray → VRel h.length m (ev T x) (a.eval x)) :
    (parts.toList.map fun p => (p.1, ev T p.2)).length = (parts.map fun (i, x) => (i, a.eval x)).toList.length ∧
    ∀ (j : Nat) (i : Nat) (v : Value), (parts.toList.map fun p => (p.1, ev T p.2))[j]? = some (i, v) →
      ∃ v', (parts.map fun (i, x) => (i, a.eval x)).toList[j]? = some (i, v') ∧ VRel h.length m v v' := by
  refine ⟨by simp, fun j i v hj => ?_⟩
  simp only [List.getElem?_map, Option.map_eq_some_iff] at hj
  obtain ⟨p, h1, h2⟩ := hj
  cases h2
  refine ⟨a.eval p.2, by simp only [Array.toList_map, List.getElem?_map, h1]; rfl, hp _ ?_⟩
  have := List.mem_of_getElem? h1
  simp only [List.mem_toArray, List.mem_map]
  exact ⟨p, this, rfl⟩
theorem ov_rel {a : Act} {x : Option Operand} (hx : ∀ y, x = some y → VRel h.length m (ev T y) (a.eval y)) : OV h.length m (x.map (ev T)) (x.map a.eval) := by
  cases x with
  | none => trivial
  | some y => exact hx y rfl
theorem run_clr (r : WRel G m h w) {t ty : TypeId} {x x' v : Value} {h' : Heap} (hx : VRel h.length m x x') (hv : clr P h t x = some (v, h')) :
    ∃ v' w', (Builtin.clear_ #[t] ty #[x']).run P w = .ok v' w' ∧ VRel h'.length m v v' ∧ WRel G m h' w' ∧ Grow m h w m h' w' := by
  unfold clr at hv
  split at hv
  · rename_i a n c
    split at hv
    · rename_i e hs
      split at hv
      · rename_i z hz
        obtain ⟨h2, hset, he⟩ := map_some hv
        cases he
        obtain ⟨y, c', rfl, sr⟩ := inv_slice hx
        have hy := sr.pl (.inl (by omega))
        subst hy
        have hu := slT_spec hs
        obtain ⟨i, zv, hi, hzz, hzl, hsz, hall⟩ := zcT_spec hz
        unfold setCs at hset
        cases hb : h[a.block]? with
        | none => rw [hb] at hset; simp at hset
        | some b =>
          rw [hb] at hset
          simp only at hset
          split at hset
          · rename_i hk
            obtain ⟨hk, hfit⟩ := hk
            cases hset
            obtain ⟨re, rl, rr⟩ := r.room a.block b hb hk
            have hzc : (Builtin.zeroCells zv.cells (n + 1)).toList = zeros z (n + 1) := by
              rw [← hzl]; exact madeCells_list zv.cells (n + 1)
            have hst := run_storeCells (P := P) (zeros z (n + 1)) w (place m a) 0 rfl (fun v hv => (hall v (mem_zeros hv)).1)
              (fun j hj => by
                have := rr (a.off + j) (by omega)
                have e1 : (place m a).off + 0 + j = (m a.block).o + (a.off + j) := by unfold place; simp only; omega
                rw [e1]; exact this)
            refine ⟨.tuple #[], _, ?_, VRel.undef _ _, r.setMany hb hk a.off (zeros z (n + 1)) (zeros z (n + 1)) rfl (LR.const fun v hv => hall v (mem_zeros hv)).2 (by omega) _
              (by rw [length_splice]; exact rl) (fun j v hj ho => by rw [splice_out _ _ _ _ ho] at hj; exact hj)
              (fun j v hj he => by rw [splice_in _ _ _ _ hfit hj] at he; exact he), Grow.setMany r hb hk _ _ _ (.inl rfl)⟩
            have e0 : (place m a).off + 0 = (m a.block).o + a.off := rfl
            rw [e0] at hst
            simp only [Builtin.clear_, Sem.run_bind, run_underlying hu, Result.andThen_ok, List.getElem?_toArray, List.getElem?_cons_zero, zeroValue, run_typeInfo hi, hzz, Sem.run_pure, hzc, hst]
            rfl
          · cases hset
      · cases hv
    · cases hv
  · rename_i b c
    split at hv
    · rename_i hs
      cases hv
      obtain ⟨e, hs⟩ := Option.isSome_iff_exists.1 hs
      have hu := slT_spec hs
      obtain ⟨y, c', rfl⟩ : ∃ y c', x' = .slice y 0 c' := by
        cases b with
        | none => exact ⟨_, _, inv_sliceNone hx⟩
        | some a => obtain ⟨y, c', hh, _⟩ := inv_slice hx; exact ⟨_, _, hh⟩
      refine ⟨.tuple #[], w, ?_, VRel.undef _ _, r, Grow.refl _ _ _⟩
      cases y <;> simp [Builtin.clear_, run_underlying hu]
    · cases hv
  · cases hv
theorem args1 {α β : Type} {args : Array α} {f : α → β} {x : β} (h : args.toList.map f = [x]) : ∃ x0, args = #[x0] ∧ x = f x0 := by
  obtain ⟨l⟩ := args
  cases l with
  | nil => simp at h
  | cons a l => cases l with
    | nil => simp at h; exact ⟨a, rfl, h.symm⟩
    | cons b l => simp at h
theorem args2 {α β : Type} {args : Array α} {f : α → β} {x y : β} (h : args.toList.map f = [x, y]) : ∃ x0 y0, args = #[x0, y0] ∧ x = f x0 ∧ y = f y0 := by
  obtain ⟨l⟩ := args
  cases l with
  | nil => simp at h
  | cons a l => cases l with
    | nil => simp at h
    | cons b l => cases l with
      | nil => simp at h; exact ⟨a, b, rfl, h.1.symm, h.2.symm⟩
      | cons c l => simp at h
theorem tys1 {tys : Array TypeId} (h : tys.size = 1) : tys = #[tys.getD 0 0] := by
  apply Array.ext (by simp [h])
  intro i h1 h2
  have : i = 0 := by omega
  subst this
  simp [Array.getD, h]
theorem tys2 {tys : Array TypeId} (h : tys.size = 2) : tys = #[tys.getD 0 0, tys.getD 1 0] := by
  apply Array.ext (by simp [h])
  intro i h1 h2
  have : i = 0 ∨ i = 1 := by omega
  rcases this with rfl | rfl <;> simp [Array.getD, h]
theorem VRel.of_af {n : Nat} {v : Value} (h : af v = true) : VRel n m v v := by
  have : VRel n m (.tuple [v].toArray) (.tuple [v].toArray) := vtuple (by intro u hu; simp at hu; subst hu; exact h)
  obtain ⟨cs', h1, h2, h3⟩ := inv_tuple this
  have := h3 0 (by simp) (by rw [← h2]; simp)
  cases h1
  simpa using this
theorem stp_does {o : Oper} {a : Act} {v : Value} {h' : Heap} (ho : ORel h.length m T a o) (r : WRel G m h w) (hv : stp P h (ev T) o.op = some (v, h')) :
    Does P G o a m h w v h' := by
  obtain ⟨dst, op, ty, pos, after, guard⟩ := o
  unfold ORel at ho
  simp only at ho hv
  unfold stp at hv
  split at hv
  · rename_i x
    cases hv
    exact does_pure r rfl (ho x (by simp [Op.operands]))
  · rename_i x
    cases hv
    exact does_pure r rfl (ho x (by simp [Op.operands]))
  · rename_i c x y
    have hc := ho c (by simp [Op.operands])
    split at hv
    · rename_i t ht
      cases hv
      rw [ht] at hc
      have hc' := inv_bool hc
      cases t
      · exact does_pure r (v' := a.eval y) (by simp [execOp, hc', asBool]) (ho y (by simp [Op.operands]))
      · exact does_pure r (v' := a.eval x) (by simp [execOp, hc', asBool]) (ho x (by simp [Op.operands]))
    · cases hv
  · rename_i t
    obtain ⟨z, hz, he⟩ := map_some hv
    obtain ⟨v', w', m', q1, q2, q3, q4⟩ := run_alloc_zc (P := P) r hz
    rw [he] at q2 q3 q4
    exact ⟨v', w', m', .inl (by simp [execOp, q1]), q2, q3, q4⟩
  · rename_i t x
    obtain ⟨z, hz, he⟩ := map_some hv
    obtain ⟨v', w', m', q1, q2, q3, q4⟩ := run_box (P := P) r (t := t) (ho x (by simp [Op.operands])) hz
    rw [he] at q2 q3 q4
    exact ⟨v', w', m', .inl (by simp [execOp, q1]), q2, q3, q4⟩
  · rename_i t parts
    obtain ⟨u, hu, he⟩ := map_some hv
    cases he
    obtain ⟨p1, p2⟩ := parts_rel (a := a) (h := h) (m := m) (T := T) parts (fun x hx => ho x (by simpa [Op.operands] using hx))
    obtain ⟨v', q1, q2⟩ := run_bld (P := P) r (parts := (parts.toList.map fun p => (p.1, ev T p.2)).toArray) (parts' := parts.map fun (i, x) => (i, a.eval x))
      (by simp) (by simpa using p2) (by simpa using hu)
    exact does_pure r (v' := v') (by simp only [execOp, Sem.run_bind, q1, Result.andThen_ok]; rfl) q2
  · rename_i t len parts
    obtain ⟨p1, p2⟩ := parts_rel (a := a) (h := h) (m := m) (T := T) parts (fun x hx => ho x (by simpa [Op.operands] using hx))
    obtain ⟨v', w', m', q1, q2, q3, q4⟩ := run_bsl (P := P) r (parts := (parts.toList.map fun p => (p.1, ev T p.2)).toArray) (parts' := parts.map fun (i, x) => (i, a.eval x))
      (by simp) (by simpa using p2) (by simpa using hv)
    exact ⟨v', w', m', .inl (by simp only [execOp, Sem.run_bind, q1, Result.andThen_ok]; rfl), q2, q3, q4⟩
  · rename_i t x
    obtain ⟨u, hu, he⟩ := map_some hv
    cases he
    obtain ⟨v', q1, q2⟩ := run_ldv (P := P) r (ho x (by simp [Op.operands])) hu
    exact does_pure r (by simp [execOp, q1]) q2
  · rename_i t x y
    obtain ⟨u, hu, he⟩ := map_some hv
    cases he
    obtain ⟨w', q1, q2, q3, q4⟩ := run_stv (P := P) r (ho x (by simp [Op.operands])) (ho y (by simp [Op.operands])) hu
    exact ⟨undef, w', m, .inr ⟨by simp [execOp, q1], rfl⟩, VRel.undef _ _, q2, q3⟩
  · rename_i x
    have hx := ho x (by simp [Op.operands])
    split at hv
    · rename_i ad hp
      cases hv
      rw [hp] at hx
      obtain ⟨_, _, hh⟩ := inv_ptr hx
      exact does_pure r (v' := a.eval x) (by simp [execOp, hh]) hx
    · rename_i f fs cs hp
      cases hv
      rw [hp] at hx
      have hh : ∃ fs' cs', a.eval x = .func (.func f) fs' cs' := by
        generalize a.eval x = u at hx
        cases hx; exact ⟨_, _, rfl⟩
      obtain ⟨fs', cs', hh⟩ := hh
      exact does_pure r (v' := a.eval x) (by simp [execOp, hh]) hx
    · cases hv
  · rename_i op t x y yt
    obtain ⟨u, hu, he⟩ := map_some hv
    cases he
    have hx := ho x (by simp [Op.operands])
    have hy := ho y (by simp [Op.operands])
    obtain ⟨q1, q2⟩ := run_binV (P := P) (w := w) hx hy hu
    refine does_pure r ?_ (VRel.of_af q2)
    simp only [execOp, Sem.run_bind] at q1 ⊢
    rw [q1]; rfl
  · rename_i op ty' x
    obtain ⟨u, hu, he⟩ := map_some hv
    cases he
    unfold unV at hu
    split at hu
    · rename_i haf
      have e1 := (ho x (by simp [Op.operands])).eq_af1 haf
      obtain ⟨h1, h2⟩ := ckd_some hu
      have q1 := pureRun_sound _ h1 w
      refine does_pure r ?_ (VRel.of_af h2)
      simp only [execOp, Sem.run_bind, e1, q1, Result.andThen_ok]; rfl
    · cases hu
  · rename_i s d x
    obtain ⟨u, hu, he⟩ := map_some hv
    cases he
    obtain ⟨q1, q2⟩ := run_conV (P := P) r (ho x (by simp [Op.operands])) hu
    refine does_pure r ?_ (VRel.of_af q2)
    simp only [execOp, Sem.run_bind, q1, Result.andThen_ok]; rfl
  · rename_i fn fs cs
    cases hv
    refine does_pure r (v' := .func fn (fs.map a.eval) (cs.map a.eval)) ?_ ?_
    · simp only [execOp, Sem.run_bind, Instr.makeFunc]; rfl
    · refine .func _ _ _ _ _ (by simp) (by simp) (fun i h1 h2 => ?_) (fun i h1 h2 => ?_)
      · simp only [Array.getElem_map]; exact ho _ (by simp [Op.operands])
      · simp only [Array.getElem_map]; exact ho _ (by simp [Op.operands])
  · rename_i t l c
    obtain ⟨v', w', m', q1, q2, q3, q4⟩ := run_mkS (P := P) r (ho l (by simp [Op.operands])) (ho c (by simp [Op.operands])) hv
    exact ⟨v', w', m', .inl (by simp only [execOp, Sem.run_bind, q1, Result.andThen_ok]; rfl), q2, q3, q4⟩
  · rename_i t x lo hi mx
    obtain ⟨u, hu, he⟩ := map_some hv
    cases he
    obtain ⟨v', q1, q2⟩ := run_cut (P := P) r (ho x (by simp [Op.operands])) (ov_rel (a := a) (T := T) (x := lo) (fun y hy => ho y (by simp [Op.operands, hy])))
      (ov_rel (a := a) (T := T) (x := hi) (fun y hy => ho y (by simp [Op.operands, hy]))) (ov_rel (a := a) (T := T) (x := mx) (fun y hy => ho y (by simp [Op.operands, hy]))) hu
    exact does_pure r (v' := v') (by simp only [execOp, Sem.run_bind, q1, Result.andThen_ok]; rfl) q2
  · rename_i t x f
    obtain ⟨u, hu, he⟩ := map_some hv
    cases he
    obtain ⟨v', q1, q2⟩ := run_fldA (P := P) (w := w) (ho x (by simp [Op.operands])) hu
    exact does_pure r (v' := v') (by simp only [execOp, Sem.run_bind, q1, Result.andThen_ok]; rfl) q2
  · rename_i t x f
    obtain ⟨u, hu, he⟩ := map_some hv
    cases he
    obtain ⟨v', q1, q2⟩ := run_fldV (P := P) (w := w) (ho x (by simp [Op.operands])) hu
    exact does_pure r (v' := v') (by simp only [execOp, Sem.run_bind, q1, Result.andThen_ok]; rfl) q2
  · rename_i t x i
    obtain ⟨u, hu, he⟩ := map_some hv
    cases he
    obtain ⟨v', q1, q2⟩ := run_idxA (P := P) (w := w) (ho x (by simp [Op.operands])) (ho i (by simp [Op.operands])) hu
    exact does_pure r (v' := v') (by simp only [execOp, Sem.run_bind, q1, Result.andThen_ok]; rfl) q2
  · rename_i t x i
    obtain ⟨u, hu, he⟩ := map_some hv
    cases he
    obtain ⟨v', q1, q2⟩ := run_idxV (P := P) (w := w) (ho x (by simp [Op.operands])) (ho i (by simp [Op.operands])) hu
    exact does_pure r (v' := v') (by simp only [execOp, Sem.run_bind, q1, Result.andThen_ok]; rfl) q2
  · rename_i t x
    have hx := ho x (by simp [Op.operands])
    split at hv
    · rename_i s hs
      rw [hs] at hx
      have hx' := inv_string hx
      split at hv
      · rename_i hst
        cases hv
        have hu := stT_spec hst
        have hr := run_range_string (P := P) w t s hu
        refine ⟨.pointer (some ⟨w.heap.size, 0, none⟩), w.alloc (.stringIter s 0), _, .inl (by simp only [execOp, Sem.run_bind, hx', hr, Result.andThen_ok]; rfl), ?_,
          r.alloc_iter s 0, Grow.alloc _ _ _ _ _ _ rfl⟩
        have := VRel.ptr (n := (h ++ [(⟨3, 1, [.string s, .int .i64 (0 : Nat)]⟩ : Blk)]).length) (m := m.put h.length ⟨w.heap.size, 0, 1, 0⟩) ⟨h.length, 0, none⟩ rfl (by simp)
        unfold place at this
        rw [Map.put_same] at this
        exact this
      · cases hv
    · cases hv
  · rename_i x
    obtain ⟨v', w', q1, q2, q3, q4⟩ := run_nxt (P := P) r (ty := ty) (ho x (by simp [Op.operands])) hv
    exact ⟨v', w', m, .inl (by simp only [execOp, Sem.run_bind, q1, Result.andThen_ok]; rfl), q2, q3, q4⟩
  · rename_i x i
    have hx := ho x (by simp [Op.operands])
    split at hv
    · rename_i vs hs
      rw [hs] at hx
      obtain ⟨cs', hh, hsz, hp⟩ := inv_tuple hx
      obtain ⟨u, hu, he⟩ := map_some hv
      cases he
      obtain ⟨h1, h2⟩ := Array.getElem?_eq_some_iff.1 hu
      refine does_pure r (v' := cs'[i]'(by omega)) ?_ (by rw [← h2]; exact hp i h1 (by omega))
      simp [execOp, hh, Instr.extract, Array.getElem?_eq_getElem (show i < cs'.size by omega)]
    · cases hv
  · rename_i c
    split at hv
    · rename_i b hb
      obtain ⟨callee, args, tys⟩ := c
      simp only at hb hv
      subst hb
      have hargs : ∀ x, x ∈ args → VRel h.length m (ev T x) (a.eval x) := fun x hx => ho x (by simp [Op.operands, Call.operands, hx])
      unfold blt at hv
      split at hv
      · rename_i x hx
        split at hv
        · rename_i ht
          obtain ⟨u, hu, he⟩ := map_some hv
          cases he
          obtain ⟨x0, rfl, rfl⟩ := args1 hx
          obtain ⟨t0, rfl⟩ : ∃ t0, tys = #[t0] := ⟨_, tys1 ht⟩
          have g0 : (#[t0] : Array TypeId).getD 0 0 = t0 := rfl
          rw [g0] at hu
          obtain ⟨q1, q2⟩ := run_lenV (P := P) (w := w) (ty := ty) (hargs x0 (by simp)) hu
          refine does_pure r ?_ (VRel.of_af q2)
          simp only [execOp, resolve, pure_bind, invoke, builtin, Sem.run_bind] at q1 ⊢
          simp only [List.map_toArray, List.map_cons, List.map_nil]
          simp [q1]
        · cases hv
      · rename_i s x hx
        split at hv
        · rename_i ht
          obtain ⟨x0, x1, rfl, rfl, rfl⟩ := args2 hx
          obtain ⟨t0, t1, rfl⟩ : ∃ t0 t1, tys = #[t0, t1] := ⟨_, _, tys2 ht⟩
          have g0 : (#[t0, t1] : Array TypeId).getD 0 0 = t0 := rfl
          have g1 : (#[t0, t1] : Array TypeId).getD 1 0 = t1 := rfl
          rw [g0, g1] at hv
          obtain ⟨v', w', m', q1, q2, q3, q4⟩ := run_apS (P := P) r (ty := ty) (hargs x0 (by simp)) (hargs x1 (by simp)) hv
          refine ⟨v', w', m', .inl ?_, q2, q3, q4⟩
          simp only [execOp, resolve, pure_bind, invoke, builtin, Sem.run_bind] at q1 ⊢
          simp only [List.map_toArray, List.map_cons, List.map_nil]
          simp [q1]
        · cases hv
      · rename_i k i k' j hx
        cases hv
        obtain ⟨x0, x1, rfl, e0, e1⟩ := args2 hx
        have h0 := hargs x0 (by simp)
        have h1 := hargs x1 (by simp)
        rw [← e0] at h0; rw [← e1] at h1
        have h0' := inv_int h0
        have h1' := inv_int h1
        refine does_pure r ?_ (.int _ _)
        simp [execOp, resolve, invoke, builtin, Builtin.min_, Builtin.min2, h0', h1']
      · rename_i k i k' j hx
        cases hv
        obtain ⟨x0, x1, rfl, e0, e1⟩ := args2 hx
        have h0 := hargs x0 (by simp)
        have h1 := hargs x1 (by simp)
        rw [← e0] at h0; rw [← e1] at h1
        have h0' := inv_int h0
        have h1' := inv_int h1
        refine does_pure r ?_ (.int _ _)
        simp [execOp, resolve, invoke, builtin, Builtin.max_, Builtin.max2, h0', h1']
      · rename_i x hx
        split at hv
        · rename_i ht
          obtain ⟨x0, rfl, rfl⟩ := args1 hx
          obtain ⟨t0, rfl⟩ : ∃ t0, tys = #[t0] := ⟨_, tys1 ht⟩
          have g0 : (#[t0] : Array TypeId).getD 0 0 = t0 := rfl
          rw [g0] at hv
          obtain ⟨v', w', q1, q2, q3, q4⟩ := run_clr (P := P) r (ty := ty) (hargs x0 (by simp)) hv
          refine ⟨v', w', m, .inl ?_, q2, q3, q4⟩
          simp only [execOp, resolve, pure_bind, invoke, builtin, Sem.run_bind] at q1 ⊢
          simp only [List.map_toArray, List.map_cons, List.map_nil]
          simp [q1]
        · cases hv
      · cases hv
    · cases hv
  · cases hv
theorem aop_stp {o : Oper} {K : Value → Heap → Prop} {v : Value} {h' : Heap} (hv : stp P h (ev T) o.op = some (v, h')) (hk : K v h') : AOp P G o T h K :=
  aop_of_does (fun _ _ _ ho r => stp_does ho r hv) hk
end
end Go.Proofs.YtdldekkojjfllaaDoor.Am
namespace Go.Proofs.YtdldekkojjfllaaDoor.Am
open Go
set_option linter.unusedVariables false
set_option linter.unusedSimpArgs false
def callOk (P : Program) (f : FuncId) : Bool :=
  match P.funcs[f]? with
  | some fn => !(fn.name == "runtime.NumGoroutine") && fn.body.isSome
  | none => false
section
variable {P : Program} {G : Glo} {N : Nat} {m : Map} {h : Heap} {w : World} {T : Tmps}
theorem run_callFunc {f : FuncId} (hc : callOk P f = true) (args : Array Value) : (callFunc f args).run P w = .ok (.enter f args) w := by
  unfold callOk at hc
  cases hf : P.funcs[f]? with
  | none => rw [hf] at hc; cases hc
  | some fn =>
    rw [hf] at hc
    simp only [Bool.and_eq_true, Bool.not_eq_true'] at hc
    obtain ⟨h1, h2⟩ := hc
    have h3 : ¬ (fn.body.isNone = true) := by
      cases hb : fn.body with
      | none => rw [hb] at h2; cases h2
      | some c => simp
    have h4 : ¬ ((fn.name == "runtime.NumGoroutine") = true) := by rw [h1]; simp
    unfold callFunc
    simp only [Sem.run_bind, run_program, Result.andThen_ok, hf]
    rw [if_neg h4, if_neg h3]
    rfl
theorem vr_append {n : Nat} {a b a' b' : Array Value} (ha : a.size = a'.size ∧ ∀ (i : Nat) (h1 : i < a.size) (h2 : i < a'.size), VRel n m a[i] a'[i])
    (hb : b.size = b'.size ∧ ∀ (i : Nat) (h1 : i < b.size) (h2 : i < b'.size), VRel n m b[i] b'[i]) :
    (a ++ b).size = (a' ++ b').size ∧ ∀ (i : Nat) (h1 : i < (a ++ b).size) (h2 : i < (a' ++ b').size), VRel n m (a ++ b)[i] (a' ++ b')[i] := by
  refine ⟨by simp [ha.1, hb.1], fun i h1 h2 => ?_⟩
  by_cases hi : i < a.size
  · rw [Array.getElem_append_left hi, Array.getElem_append_left (ha.1 ▸ hi)]
    exact ha.2 i hi _
  · have hi2 : a'.size ≤ i := by rw [← ha.1]; omega
    rw [Array.getElem_append_right (by omega), Array.getElem_append_right hi2]
    have : ∀ (k k' : Nat) (g : k < b.size) (g' : k' < b'.size), k = k' → VRel n m b[k] b'[k'] := by
      intro k k' g g' e; subst e; exact hb.2 k g g'
    exact this _ _ _ _ (by rw [ha.1])
/-- A call of a function value. -/
theorem aop_call {o : Oper} {c : Call} {fo : Operand} {f : FuncId} {fs cs : Array Value} {K : Value → Heap → Prop} (ho : o.op = .call c) (hf : c.callee = .value fo)
    (hv : ev T fo = .func (.func f) fs cs) (hc : callOk P f = true) (ha : ACalls P G f (fs ++ c.args.map (ev T) ++ cs) h K) : AOp P G o T h K := by
  intro m a w hr r Q
  obtain ⟨dst, op, ty, pos, after, guard⟩ := o
  simp only at ho
  subst ho
  obtain ⟨callee, args, tys⟩ := c
  simp only at hf
  subst hf
  have hfo : VRel h.length m (ev T fo) (a.eval fo) := hr fo (by simp [Op.operands, Call.operands])
  have hargs : ∀ x, x ∈ args → VRel h.length m (ev T x) (a.eval x) := fun x hx => hr x (by simp [Op.operands, Call.operands, hx])
  rw [hv] at hfo
  obtain ⟨fs', cs', hfe, hfs, hcs, hp1, hp2⟩ : ∃ fs' cs', a.eval fo = .func (.func f) fs' cs' ∧ fs.size = fs'.size ∧ cs.size = cs'.size ∧
      (∀ (i : Nat) (h1 : i < fs.size) (h2 : i < fs'.size), VRel h.length m fs[i] fs'[i]) ∧
      (∀ (i : Nat) (h1 : i < cs.size) (h2 : i < cs'.size), VRel h.length m cs[i] cs'[i]) := by
    generalize a.eval fo = u at hfo
    cases hfo
    exact ⟨_, _, rfl, ‹_›, ‹_›, ‹_›, ‹_›⟩
  unfold Oper.wp
  have hrun : (execOp a.eval ⟨dst, .call ⟨.value fo, args, tys⟩, ty, pos, after, guard⟩).run P w = .ok (.enter f (fs' ++ args.map a.eval ++ cs')) w := by
    simp [execOp, resolve, hfe, Deferred.ofValue, invoke, run_callFunc hc]
  rw [hrun]
  simp only [Oper.upon]
  have hR := vr_append (vr_append (a := fs) (a' := fs') ⟨hfs, hp1⟩ (b := args.map (ev T)) (b' := args.map a.eval) ⟨by simp, fun i h1 h2 => by
    simp only [Array.getElem_map]; exact hargs _ (by simp)⟩) (b := cs) (b' := cs') ⟨hcs, hp2⟩
  refine (ha m (fs' ++ args.map a.eval ++ cs') w hR.1 hR.2 r).mono ?_
  rintro e w' ⟨v, v', m', h', rfl, hvv, r', g, k⟩
  exact ⟨v, v', m', h', rfl, hvv, r', g, k⟩
/-! ### entering a function -/
def argT (args : Array Value) : Tmps := fun t => args.getD t undef
def resV (P : Program) (h : Heap) (T : Tmps) : List ResultVar → Option (List Value)
  | [] => some []
  | .tmp t :: rest => (resV P h T rest).map (T t :: ·)
  | .cell a t :: rest => match ldv P t h (T a), resV P h T rest with
    | some v, some l => some (v :: l)
    | _, _ => none
def oneOf (l : List Value) : Value := match l with | [v] => v | l => .tuple l.toArray
def resOf (tmps : Array Value) : ResultVar → Sem Value
  | .tmp t => pure (tmps.getD t undef)
  | .cell a t => do loadVar t (← asAddr (tmps.getD a undef))
theorem results_eq (fn : Func) (tmps : Array Value) : results fn tmps = (do
    let vs ← fn.results.mapM (resOf tmps)
    pure (if h : vs.size = 1 then vs[0] else .tuple vs)) := by
  unfold results
  congr 2
theorem run_results (r : WRel G m h w) {tmps : Array Value} (ht : ∀ t, VRel h.length m (T t) (tmps.getD t undef)) (l : List ResultVar) :
    ∀ {vs : List Value}, resV P h T l = some vs →
    ∃ vs' : List Value, (l.mapM (resOf tmps)).run P w = .ok vs' w ∧
      vs.length = vs'.length ∧ ∀ (i : Nat) (v : Value), vs[i]? = some v → ∃ v', vs'[i]? = some v' ∧ VRel h.length m v v' := by
  induction l with
  | nil => intro vs hv; simp only [resV] at hv; cases hv; exact ⟨[], by simp, rfl, fun i v h => by simp at h⟩
  | cons rv rest ih =>
    intro vs hv
    cases rv with
    | tmp t =>
      simp only [resV] at hv
      obtain ⟨l, h1, h2⟩ := map_some hv
      subst h2
      obtain ⟨vs', q1, q2, q3⟩ := ih h1
      refine ⟨tmps.getD t undef :: vs', by simp [List.mapM_cons, resOf, q1], by simp [q2], fun i v hi => ?_⟩
      cases i with
      | zero => simp at hi; subst hi; exact ⟨_, rfl, ht t⟩
      | succ i => simpa using q3 i v (by simpa using hi)
    | cell a t =>
      simp only [resV] at hv
      split at hv
      · rename_i v l hld hl
        cases hv
        obtain ⟨vs', q1, q2, q3⟩ := ih hl
        obtain ⟨v', p1, p2⟩ := run_ldv (P := P) r (ht a) hld
        have hptr : ∃ ad, tmps.getD a undef = .pointer (some ad) := by
          have := ht a
          unfold ldv at hld
          split at hld
          · rename_i x ad hx; rw [hx] at this; exact ⟨_, (inv_ptr this).2.2⟩
          · cases hld
        obtain ⟨ad, had⟩ := hptr
        rw [had] at p1
        have p1' : (loadVar t ad).run P w = .ok v' w := by simpa [Instr.loadAt, Instr.sureAddr] using p1
        refine ⟨v' :: vs', by simp [List.mapM_cons, resOf, q1, had, asAddr, p1'], by simp [q2], fun i u hi => ?_⟩
        cases i with
        | zero => simp at hi; subst hi; exact ⟨_, rfl, p2⟩
        | succ i => simpa using q3 i u (by simpa using hi)
      · cases hv
def retK (P : Program) (rs : List ResultVar) (K : Value → Heap → Prop) : Exit → Tmps → Heap → Prop
  | .normal, T, h | .ret, T, h => ∃ vs, resV P h T rs = some vs ∧ K (oneOf vs) h
  | _, _, _ => False
theorem results_ok (r : WRel G m h w) {fn : Func} {tmps : Array Value} (ht : ∀ t, VRel h.length m (T t) (tmps.getD t undef)) {vs : List Value}
    (hv : resV P h T fn.results.toList = some vs) : ∃ v', (results fn tmps).run P w = .ok v' w ∧ VRel h.length m (oneOf vs) v' := by
  obtain ⟨vs', q1, q2, q3⟩ := run_results (P := P) r ht fn.results.toList hv
  have q1' : (fn.results.mapM (resOf tmps)).run P w = .ok vs'.toArray w := by
    rw [Array.mapM_eq_mapM_toList]
    simp only [Sem.run_map, q1, Result.andThen_ok]
  refine ⟨if h : vs'.toArray.size = 1 then vs'.toArray[0] else .tuple vs'.toArray, ?_, ?_⟩
  · rw [results_eq, Sem.run_bind, q1']
    rfl
  · by_cases h1 : vs'.toArray.size = 1
    · rw [dif_pos h1]
      simp only [List.size_toArray] at h1
      match vs, q2, q3 with
      | [v], q2, q3 =>
        obtain ⟨v', p1, p2⟩ := q3 0 v rfl
        simp only [oneOf, List.getElem_toArray]
        rw [List.getElem?_eq_getElem (by omega)] at p1
        rw [Option.some.inj p1]; exact p2
      | [], q2, q3 => simp at q2; omega
      | _ :: _ :: _, q2, q3 => simp at q2; omega
    · rw [dif_neg h1]
      simp only [List.size_toArray] at h1
      have : oneOf vs = .tuple vs.toArray := by
        match vs, q2 with
        | [v], q2 => simp at q2; omega
        | [], _ => rfl
        | _ :: _ :: _, _ => rfl
      rw [this]
      refine .tuple _ _ (by simp [q2]) fun i g1 g2 => ?_
      simp only [List.size_toArray] at g1 g2
      obtain ⟨v', p1, p2⟩ := q3 i vs[i] (List.getElem?_eq_getElem g1)
      rw [List.getElem?_eq_getElem g2] at p1
      simp only [List.getElem_toArray]
      rw [Option.some.inj p1]; exact p2
/-- A function is walked: from its parameters to what it hands back. -/
theorem acalls_of {f : FuncId} {fn : Func} {c : Code} {args : Array Value} {K : Value → Heap → Prop} (hf : P.funcs[f]? = some fn) (hb : fn.body = some c)
    (hn : args.size ≤ fn.ntmps) (hw : AW P G fn.ntmps c (retK P fn.results.toList K) (argT args) h) : ACalls P G f args h K := by
  intro m args' w hs ha r
  refine calls_of_wp hf hb ?_
  have hs' : SRel G fn.ntmps m (argT args) h { tmps := args' ++ Array.replicate (fn.ntmps - args'.size) undef, defers := [] } w := by
    refine ⟨rfl, by simp; omega, fun t => ?_, r⟩
    unfold argT
    simp only [Array.getD_eq_getD_getElem?]
    by_cases ht : t < args.size
    · rw [Array.getElem?_eq_getElem ht, Array.getElem?_append_left (by omega), Array.getElem?_eq_getElem (by omega)]
      exact ha t ht (by omega)
    · rw [Array.getElem?_eq_none (by omega), Array.getElem?_append_right (by omega)]
      have : (Array.replicate (fn.ntmps - args'.size) undef)[t - args'.size]?.getD undef = undef := by
        rw [Array.getElem?_replicate]; split <;> rfl
      simp only [Option.getD_none, this]
      exact VRel.undef _ _
  refine wp_mono (hw m _ w hs') ?_
  rintro e a' w' ⟨m', T', h', s', g, q⟩
  cases e with
  | normal =>
    obtain ⟨vs, q1, q2⟩ := q
    obtain ⟨v', p1, p2⟩ := results_ok (P := P) s'.wr s'.tmp q1
    exact ⟨s'.defers, v', p1, _, v', m', h', rfl, p2, s'.wr, g, q2⟩
  | ret =>
    obtain ⟨vs, q1, q2⟩ := q
    obtain ⟨v', p1, p2⟩ := results_ok (P := P) s'.wr s'.tmp q1
    exact ⟨s'.defers, v', p1, _, v', m', h', rfl, p2, s'.wr, g, q2⟩
  | _ => exact q.elim
/-! ### what a call leaves behind is forgotten -/
theorem VRel.lower {n n' : Nat} {m m' : Map} {a v u : Value} (h : VRel n' m' a v) : VRel n m a u → VRel n m' a v := by
  induction h generalizing u with
  | bool b => intro _; exact .bool b
  | int k i => intro _; exact .int k i
  | string s => intro _; exact .string s
  | nilFunc => intro _; exact .nilFunc
  | nilIface => intro _; exact .nilIface
  | ptrNone => intro _; exact .ptrNone
  | ptr a h1 h2 => intro h; exact .ptr a h1 (inv_ptr h).2.1
  | sliceNone l c => intro _; exact .sliceNone l c
  | odd y => intro _; exact .odd y
  | slice a l c h1 h2 => intro h; obtain ⟨_, _, _, sr⟩ := inv_slice h; exact .slice a l c h1 sr.lt
  | sliceIn a y l c c' h1 h2 h3 h4 h5 h6 h7 h8 => intro h; obtain ⟨_, _, _, sr⟩ := inv_slice h; exact .sliceIn a y l c c' h1 sr.lt h3 h4 h5 h6 h7 h8
  | func fn fs cs fs' cs' hf hc _ _ i1 i2 =>
    intro h
    cases h with
    | func _ _ _ fs2 cs2 hf2 hc2 g1 g2 =>
      exact .func fn fs cs fs' cs' hf hc (fun i q1 q2 => i1 i q1 q2 (g1 i q1 (by omega))) (fun i q1 q2 => i2 i q1 q2 (g2 i q1 (by omega)))
  | iface t v v' _ ih => intro h; cases h with | iface _ _ u' hu => exact .iface t v v' (ih hu)
  | agg cs cs' hs _ ih => intro h; cases h with | agg _ cs2 hs2 g => exact .agg cs cs' hs (fun i q1 q2 => ih i q1 q2 (g i q1 (by omega)))
  | tuple cs cs' hs _ ih => intro h; cases h with | tuple _ cs2 hs2 g => exact .tuple cs cs' hs (fun i q1 q2 => ih i q1 q2 (g i q1 (by omega)))
/-- The blocks behind the first ones are forgotten. -/
theorem WRel.cutBack {m m' : Map} {h e : Heap} {w w' : World} (r : WRel G m h w) (r' : WRel G m' (h ++ e) w') : WRel G m' h w' := by
  have up : ∀ {i : Nat} {x : Blk}, h[i]? = some x → (h ++ e)[i]? = some x := fun hx => by
    rw [List.getElem?_append_left (lt_of_get hx)]; exact hx
  refine ⟨?_, fun i x hx => r'.room i x (up hx), fun i x hx => r'.iter i x (up hx), fun i x hx => r'.live i x (up hx),
    fun i i' x x' hx hx' => r'.apart i i' x x' (up hx) (up hx'), fun g hg => ⟨(r.glob g hg).1, (r'.glob g hg).2⟩, fun g o hg => ⟨(r'.tab g o hg).1, fun i x hx ho => (r'.tab g o hg).2 i x (up hx) ho⟩⟩
  intro i x hx hk j v hj
  obtain ⟨v', q1, q2, q3⟩ := r'.cell i x (up hx) hk j v hj
  obtain ⟨u, _, p2, _⟩ := r.cell i x hx hk j v hj
  exact ⟨v', q1, q2.lower p2, q3⟩
theorem Grow.cutBack {m m' : Map} {h e : Heap} {w w' : World} (g : Grow m h w m' (h ++ e) w') : Grow m h w m' h w' := by
  refine ⟨g.agree, Nat.le_refl _, g.size, g.io, g.keeps, fun i x hx hl => ?_⟩
  exact g.owned i x (by rw [List.getElem?_append_left (lt_of_get hx)]; exact hx) hl
/-- A call whose result has no address leaves the memory as it was. -/
theorem acalls_pure {f : FuncId} {args : Array Value} {v0 : Value} (haf : af v0 = true ∨ ∃ vs : Array Value, v0 = .tuple vs ∧ ∀ v, v ∈ vs → af v = true)
    (ha : ACalls P G f args h fun v h' => v = v0 ∧ ∃ e, h' = h ++ e) : ACalls P G f args h fun v h' => v = v0 ∧ h' = h := by
  intro m args' w hs hp r
  refine (ha m args' w hs hp r).mono ?_
  rintro e w' ⟨v, v', m', h', rfl, hv, r', g, rfl, ext, rfl⟩
  have hv0 : VRel h.length m' v v := by
    rcases haf with haf | ⟨vs, rfl, haf⟩
    · exact VRel.of_af haf
    · have := vtuple (n := h.length) (m := m') (l := vs.toList) (fun v hv => haf v (by simpa using hv))
      simpa using this
  exact ⟨v, v', m', h, rfl, hv.lower hv0, r.cutBack r', g.cutBack, rfl, rfl⟩
end
end Go.Proofs.YtdldekkojjfllaaDoor.Am
namespace Go.Proofs.YtdldekkojjfllaaDoor.Am
open Go
set_option linter.unusedVariables false
set_option linter.unusedSimpArgs false
def predsM (o : Oper) : List Nat := (o.after.toList.filter (Region.binds .any)).map (·.on)
def ancM : List Oper → List Nat → List Nat
  | [], acc => acc
  | o :: rest, acc => ancM rest (acc ++ [(predsM o).foldl (fun s i => s ||| 2 ^ i ||| acc.getD i 0) 0])
def ordB (ms : List Nat) (i j : Nat) : Bool := (ms.getD j 0).testBit i || (ms.getD i 0).testBit j
def opTmp (t : Nat) : Operand → Bool
  | .tmp u => u == t
  | _ => false
/-- Does an operation look at a slot? -/
def looksB (ops : Array Oper) (o : Oper) (t : Nat) : Bool :=
  o.op.operands.any (opTmp t) || (match o.guard with | some (g, _) => (ops[g]?).bind (·.dst) == some t | none => false)
def drawOk (G : Glo) (N : Nat) (ops : Array Oper) (ms : List Nat) : Bool :=
  ops.toList.zipIdx.all fun (o, j) => operOk G N ops o && (predsM o).all (fun i => decide (i < j)) &&
    ops.toList.zipIdx.all fun (o', i) => i == j || (match o'.dst with | some t => (!(looksB ops o t) && !(o.dst == some t)) || ordB ms i j | none => true)
/-- Ancestors, by the edges. -/
inductive Anc (ops : Array Oper) : Nat → Nat → Prop where
  | dir {i j : Nat} {o : Oper} (ho : ops[j]? = some o) (hi : i ∈ predsM o) : Anc ops i j
  | step {i p j : Nat} {o : Oper} (ho : ops[j]? = some o) (hp : p ∈ predsM o) (h : Anc ops i p) : Anc ops i j
theorem foldl_bits (acc : List Nat) (b : Nat) (l : List Nat) : ∀ (s : Nat), (l.foldl (fun s i => s ||| 2 ^ i ||| acc.getD i 0) s).testBit b = true →
    s.testBit b = true ∨ ∃ i, i ∈ l ∧ (b = i ∨ (acc.getD i 0).testBit b = true) := by
  induction l with
  | nil => intro s h; exact .inl h
  | cons i l ih =>
    intro s h
    simp only [List.foldl_cons] at h
    rcases ih _ h with h1 | ⟨k, h1, h2⟩
    · simp only [Nat.testBit_or, Bool.or_eq_true, Nat.testBit_two_pow, decide_eq_true_eq] at h1
      rcases h1 with (h1 | h1) | h1
      · exact .inl h1
      · exact .inr ⟨i, by simp, .inl h1.symm⟩
      · exact .inr ⟨i, by simp, .inr h1⟩
    · exact .inr ⟨k, by simp [h1], h2⟩
theorem ancM_ok (ops : Array Oper) (l : List Oper) : ∀ (acc : List Nat), (∀ k, l[k]? = ops[acc.length + k]?) →
    (∀ (j x : Nat), acc[j]? = some x → ∀ i, x.testBit i = true → Anc ops i j) →
    ∀ (j x : Nat), (ancM l acc)[j]? = some x → ∀ i, x.testBit i = true → Anc ops i j := by
  induction l with
  | nil => intro acc _ h; exact h
  | cons o rest ih =>
    intro acc hl h
    simp only [ancM]
    refine ih _ (fun k => ?_) ?_
    · have := hl (k + 1)
      simp only [List.length_append, List.length_cons, List.length_nil]
      rw [show acc.length + (0 + 1) + k = acc.length + (k + 1) from by omega, ← this]; rfl
    · intro j x hj i hx
      by_cases hja : j < acc.length
      · rw [List.getElem?_append_left hja] at hj; exact h j x hj i hx
      · rw [List.getElem?_append_right (by omega)] at hj
        have hj0 : j = acc.length := by
          rcases Nat.lt_or_ge (j - acc.length) 1 with h1 | h1
          · omega
          · rw [List.getElem?_eq_none (by simpa using h1)] at hj; cases hj
        subst hj0
        simp at hj
        subst hj
        have ho : ops[acc.length]? = some o := by have := hl 0; simpa using this.symm
        rcases foldl_bits acc i (predsM o) 0 hx with h1 | ⟨p, h1, h2⟩
        · simp at h1
        · rcases h2 with rfl | h2
          · exact .dir ho h1
          · rw [List.getD_eq_getElem?_getD] at h2
            cases hp : acc[p]? with
            | none => rw [hp] at h2; simp at h2
            | some y => rw [hp] at h2; exact .step ho h1 (h p y hp i (by simpa using h2))
theorem ordB_anc {ops : Array Oper} {i j : Nat} (h : ordB (ancM ops.toList []) i j = true) : Anc ops i j ∨ Anc ops j i := by
  have key := ancM_ok ops ops.toList [] (by simp) (by intro j x hj; simp at hj)
  have one : ∀ a b, ((ancM ops.toList []).getD b 0).testBit a = true → Anc ops a b := by
    intro a b hb
    rw [List.getD_eq_getElem?_getD] at hb
    cases hm : (ancM ops.toList [])[b]? with
    | none => rw [hm] at hb; simp at hb
    | some x => rw [hm] at hb; exact key b x hm a (by simpa using hb)
  unfold ordB at h
  rw [Bool.or_eq_true] at h
  rcases h with h | h
  · exact .inl (one i j h)
  · exact .inr (one j i h)
/-! ### the names that a value has -/
inductive IdsP (A : Nat → Prop) : Value → Prop where
  | bool (b : Bool) : IdsP A (.bool b)
  | int (k : IntKind) (i : Int) : IdsP A (.int k i)
  | string (s : ByteArray) : IdsP A (.string s)
  | nilFunc : IdsP A .nilFunc
  | nilIface : IdsP A .nilIface
  | ptrNone : IdsP A (.pointer none)
  | ptr (a : Addr) (h : A a.block) : IdsP A (.pointer (some a))
  | sliceNone (l c : Nat) : IdsP A (.slice none l c)
  | odd : IdsP A (.chan none)
  | slice (a : Addr) (l c : Nat) (h : A a.block) : IdsP A (.slice (some a) l c)
  | func (fn : Fn) (fs cs : Array Value) (h1 : ∀ (i : Nat) (h : i < fs.size), IdsP A fs[i]) (h2 : ∀ (i : Nat) (h : i < cs.size), IdsP A cs[i]) : IdsP A (.func fn fs cs)
  | iface (t : TypeId) (v : Value) (h : IdsP A v) : IdsP A (.iface t v)
  | agg (cs : Array Value) (h : ∀ (i : Nat) (h : i < cs.size), IdsP A cs[i]) : IdsP A (.agg cs)
  | tuple (cs : Array Value) (h : ∀ (i : Nat) (h : i < cs.size), IdsP A cs[i]) : IdsP A (.tuple cs)
theorem VRel.ids {n : Nat} {m : Map} {u x : Value} (h : VRel n m u x) : IdsP (fun id => id < n) u := by
  induction h with
  | bool b => exact .bool b
  | int k i => exact .int k i
  | string s => exact .string s
  | nilFunc => exact .nilFunc
  | nilIface => exact .nilIface
  | ptrNone => exact .ptrNone
  | ptr a h1 h2 => exact .ptr a h2
  | sliceNone l c => exact .sliceNone l c
  | odd y => exact .odd
  | slice a l c h1 h2 => exact .slice a l c h2
  | sliceIn a y l c c' h1 h2 => exact .slice a l c h2
  | func fn fs cs fs' cs' hf hc _ _ i1 i2 => exact .func fn fs cs (fun i h => i1 i h (by omega)) (fun i h => i2 i h (by omega))
  | iface t v v' _ ih => exact .iface t v ih
  | agg cs cs' hs _ ih => exact .agg cs (fun i h => ih i h (by omega))
  | tuple cs cs' hs _ ih => exact .tuple cs (fun i h => ih i h (by omega))
theorem IdsP.and {A B : Nat → Prop} {u : Value} (h : IdsP A u) : IdsP B u → IdsP (fun id => A id ∧ B id) u := by
  induction h with
  | bool b => intro _; exact .bool b
  | int k i => intro _; exact .int k i
  | string s => intro _; exact .string s
  | nilFunc => intro _; exact .nilFunc
  | nilIface => intro _; exact .nilIface
  | ptrNone => intro _; exact .ptrNone
  | ptr a h1 => intro h; cases h with | ptr _ h2 => exact .ptr a ⟨h1, h2⟩
  | sliceNone l c => intro _; exact .sliceNone l c
  | odd => intro _; exact .odd
  | slice a l c h1 => intro h; cases h with | slice _ _ _ h2 => exact .slice a l c ⟨h1, h2⟩
  | func fn fs cs _ _ i1 i2 => intro h; cases h with | func _ _ _ g1 g2 => exact .func fn fs cs (fun i h => i1 i h (g1 i h)) (fun i h => i2 i h (g2 i h))
  | iface t v _ ih => intro h; cases h with | iface _ _ g => exact .iface t v (ih g)
  | agg cs _ ih => intro h; cases h with | agg _ g => exact .agg cs (fun i h => ih i h (g i h))
  | tuple cs _ ih => intro h; cases h with | tuple _ g => exact .tuple cs (fun i h => ih i h (g i h))
theorem IdsP.mono {A B : Nat → Prop} {u : Value} (hab : ∀ id, A id → B id) (h : IdsP A u) : IdsP B u := by
  induction h with
  | bool b => exact .bool b
  | int k i => exact .int k i
  | string s => exact .string s
  | nilFunc => exact .nilFunc
  | nilIface => exact .nilIface
  | ptrNone => exact .ptrNone
  | ptr a h1 => exact .ptr a (hab _ h1)
  | sliceNone l c => exact .sliceNone l c
  | odd => exact .odd
  | slice a l c h1 => exact .slice a l c (hab _ h1)
  | func fn fs cs _ _ i1 i2 => exact .func fn fs cs i1 i2
  | iface t v _ ih => exact .iface t v ih
  | agg cs _ ih => exact .agg cs ih
  | tuple cs _ ih => exact .tuple cs ih
theorem IdsP.all {A : Nat → Prop} {u x : Value} {n : Nat} {m : Map} (h : VRel n m u x) (ha : ∀ id, A id) : IdsP A u := h.ids.mono fun id _ => ha id
theorem VRel.change {n n' : Nat} {m m' : Map} {A : Nat → Prop} {u x : Value} (h : VRel n m u x) (hA : ∀ id, A id → id < n' ∧ m' id = m id) : IdsP A u → VRel n' m' u x := by
  induction h with
  | bool b => intro _; exact .bool b
  | int k i => intro _; exact .int k i
  | string s => intro _; exact .string s
  | nilFunc => intro _; exact .nilFunc
  | nilIface => intro _; exact .nilIface
  | ptrNone => intro _; exact .ptrNone
  | ptr a h1 h2 =>
    intro h; cases h with | ptr _ h3 =>
    obtain ⟨q1, q2⟩ := hA _ h3
    have : place m a = place m' a := by unfold place; rw [q2]
    rw [this]; exact .ptr a h1 q1
  | sliceNone l c => intro _; exact .sliceNone l c
  | odd y => intro _; exact .odd y
  | slice a l c h1 h2 =>
    intro h; cases h with | slice _ _ _ h3 =>
    obtain ⟨q1, q2⟩ := hA _ h3
    have : place m a = place m' a := by unfold place; rw [q2]
    rw [this]; exact .slice a l c h1 q1
  | sliceIn a y l c c' h1 h2 h3 h4 h5 h6 h7 h8 =>
    intro h; cases h with | slice _ _ _ h9 =>
    obtain ⟨q1, q2⟩ := hA _ h9
    have : place m' a = place m a := by unfold place; rw [q2]
    exact .sliceIn a y l c c' h1 q1 h3 h4 (by rw [q2]; exact h5) (fun q => by rw [this]; exact h6 q) (by rw [q2]; exact h7) (by rw [q2]; exact h8)
  | func fn fs cs fs' cs' hf hc _ _ i1 i2 =>
    intro h; cases h with | func _ _ _ g1 g2 => exact .func fn fs cs fs' cs' hf hc (fun i q1 q2 => i1 i q1 q2 (g1 i q1)) (fun i q1 q2 => i2 i q1 q2 (g2 i q1))
  | iface t v v' _ ih => intro h; cases h with | iface _ _ g => exact .iface t v v' (ih g)
  | agg cs cs' hs _ ih => intro h; cases h with | agg _ g => exact .agg cs cs' hs (fun i q1 q2 => ih i q1 q2 (g i q1))
  | tuple cs cs' hs _ ih => intro h; cases h with | tuple _ g => exact .tuple cs cs' hs (fun i q1 q2 => ih i q1 q2 (g i q1))
/-- What a step changes: the blocks of D, and new ones. -/
structure StepA (V H H' : Heap) (D : List Nat) : Prop where
  le : H.length ≤ H'.length
  same : ∀ id, id < H.length → id ∉ D → H'[id]? = H[id]?
  dlt : ∀ id, id ∈ D → id < H.length
  dlive : ∀ id, id ∈ D → ∃ b : Blk, V[id]? = some b ∧ b.k ≠ 0
structure StepB (V h' H' : Heap) (D : List Nat) : Prop where
  hlen : h'.length = H'.length
  same : ∀ id, id < V.length → id ∉ D → h'[id]? = V[id]?
  new : ∀ id, (id ∈ D ∨ V.length ≤ id) → H'[id]? = h'[id]?
/-- What a step hands on names nothing that an unordered one has made. -/
def ScOk (ms : List Nat) (pre : List (Nat × Nat)) (j : Nat) (v : Value) (H H' : Heap) (D : List Nat) : Prop :=
  (∀ (i s e : Nat), pre[i]? = some (s, e) → ordB ms i j = false → s = e) ∨
  (∀ (i s e : Nat), pre[i]? = some (s, e) → ordB ms i j = false → IdsP (fun id => ¬ (s ≤ id ∧ id < e)) v ∧
    ∀ (id : Nat) (b : Blk), (id ∈ D ∨ H.length ≤ id) → H'[id]? = some b → b.k ≠ 0 → ∀ x, x ∈ b.cs → IdsP (fun id => ¬ (s ≤ id ∧ id < e)) x)
structure VOk (n : Nat) (ms : List Nat) (D : List (List Nat)) (pre : List (Nat × Nat)) (j : Nat) (H V : Heap) : Prop where
  len : V.length = H.length
  sub : ∀ (id : Nat) (b : Blk), V[id]? = some b → b.k = 0 ∨ H[id]? = some b
  pre : ∀ (i s e : Nat), pre[i]? = some (s, e) → ordB ms i j = false → ∀ id, s ≤ id → id < e → ∀ b : Blk, V[id]? = some b → b.k = 0
  dead : ∀ i, i < n → i ≠ j → ordB ms i j = false → ∀ id, id ∈ D.getD i [] → ∀ b : Blk, V[id]? = some b → b.k = 0
section
variable {P : Program} {G : Glo} {N : Nat} {Q : Exit → Tmps → Heap → Prop}
def ADraw (P : Program) (G : Glo) (ops : Array Oper) (ms : List Nat) (D : List (List Nat)) (Q : Exit → Tmps → Heap → Prop) :
    List Oper → Nat → Tmps → Heap → List (Nat × Nat) → Prop
  | [], _, T, H, _ => Q .normal T H
  | o :: rest, j, T, H, pre =>
    (wantedA ops T o = true → ∃ V v H', VOk ops.size ms D pre j H V ∧ StepA V H H' (D.getD j []) ∧ ScOk ms pre j v H H' (D.getD j []) ∧ AOp P G o T V (fun v' h' => v' = v ∧ StepB V h' H' (D.getD j [])) ∧
      ADraw P G ops ms D Q rest (j + 1) (put T o.dst v) H' (pre ++ [(H.length, H'.length)])) ∧
    (wantedA ops T o = false → D.getD j [] = [] ∧ ADraw P G ops ms D Q rest (j + 1) (put T o.dst undef) H (pre ++ [(H.length, H.length)]))
/-- The whole of a region, in the order of its text. -/
structure Text (P : Program) (G : Glo) (ops : Array Oper) (ms : List Nat) (D : List (List Nat)) (T : Nat → Tmps) (H : Nat → Heap) (v : Nat → Value) (k : Nat) : Prop where
  tmp : ∀ j o, ops[j]? = some o → k ≤ j → T (j + 1) = put (T j) o.dst (v j)
  op : ∀ j o, ops[j]? = some o → k ≤ j → (wantedA ops (T j) o = true ∧ ∃ V, (V.length = (H j).length ∧ (∀ (id : Nat) (b : Blk), V[id]? = some b → b.k = 0 ∨ (H j)[id]? = some b) ∧
      (∀ i, i < j → ordB ms i j = false → ∀ id, (H i).length ≤ id → id < (H (i + 1)).length → ∀ b : Blk, V[id]? = some b → b.k = 0) ∧
      (∀ i, i < ops.size → i ≠ j → ordB ms i j = false → ∀ id, id ∈ D.getD i [] → ∀ b : Blk, V[id]? = some b → b.k = 0)) ∧
      StepA V (H j) (H (j + 1)) (D.getD j []) ∧
      ((∀ i, i < j → ordB ms i j = false → (H i).length = (H (i + 1)).length) ∨
        (∀ i, i < j → ordB ms i j = false → IdsP (fun id => ¬ ((H i).length ≤ id ∧ id < (H (i + 1)).length)) (v j) ∧
          ∀ (id : Nat) (b : Blk), (id ∈ D.getD j [] ∨ (H j).length ≤ id) → (H (j + 1))[id]? = some b → b.k ≠ 0 → ∀ x, x ∈ b.cs →
            IdsP (fun id => ¬ ((H i).length ≤ id ∧ id < (H (i + 1)).length)) x)) ∧
      AOp P G o (T j) V (fun v' h' => v' = v j ∧ StepB V h' (H (j + 1)) (D.getD j []))) ∨
    (wantedA ops (T j) o = false ∧ v j = undef ∧ H (j + 1) = H j ∧ D.getD j [] = [])
theorem text_of_adraw {ops : Array Oper} {ms : List Nat} {D : List (List Nat)} (l : List Oper) : ∀ (j : Nat) (T0 : Nat → Tmps) (H0 : Nat → Heap) (pre : List (Nat × Nat)),
    (∀ k, l[k]? = ops[j + k]?) → pre.length = j → (∀ i, i < j → pre[i]? = some ((H0 i).length, (H0 (i + 1)).length)) →
    ADraw P G ops ms D Q l j (T0 j) (H0 j) pre →
    ∃ T H v, (∀ i, i ≤ j → T i = T0 i) ∧ (∀ i, i ≤ j → H i = H0 i) ∧ Text P G ops ms D T H v j ∧ Q .normal (T (j + l.length)) (H (j + l.length)) := by
  induction l with
  | nil =>
    intro j T0 H0 pre hl hpl hpre h
    have hsz : ops.size ≤ j := by
      have := hl 0
      simp at this
      exact this
    have none : ∀ k o, ops[k]? = some o → j ≤ k → False := by
      intro k o ho hk
      have := (Array.getElem?_eq_some_iff.1 ho).1; omega
    exact ⟨T0, H0, fun _ => undef, fun _ _ => rfl, fun _ _ => rfl, ⟨fun k o ho hk => (none k o ho hk).elim, fun k o ho hk => (none k o ho hk).elim⟩, by simpa [ADraw] using h⟩
  | cons o rest ih =>
    intro j T0 H0 pre hl hpl hpre h
    have hoj : ops[j]? = some o := by have := hl 0; simpa using this.symm
    have hjn : j < ops.size := (Array.getElem?_eq_some_iff.1 hoj).1
    have hl' : ∀ k, rest[k]? = ops[j + 1 + k]? := fun k => by
      have := hl (k + 1)
      rw [show j + 1 + k = j + (k + 1) from by omega, ← this]; rfl
    have build : ∀ (vj : Value) (H' : Heap), ADraw P G ops ms D Q rest (j + 1) (put (T0 j) o.dst vj) H' (pre ++ [((H0 j).length, H'.length)]) →
        ((wantedA ops (T0 j) o = true ∧ ∃ V, VOk ops.size ms D pre j (H0 j) V ∧ StepA V (H0 j) H' (D.getD j []) ∧ ScOk ms pre j vj (H0 j) H' (D.getD j []) ∧ AOp P G o (T0 j) V (fun v' h' => v' = vj ∧ StepB V h' H' (D.getD j []))) ∨
          (wantedA ops (T0 j) o = false ∧ vj = undef ∧ H' = H0 j ∧ D.getD j [] = [])) →
        ∃ T H v, (∀ i, i ≤ j → T i = T0 i) ∧ (∀ i, i ≤ j → H i = H0 i) ∧ Text P G ops ms D T H v j ∧ Q .normal (T (j + (o :: rest).length)) (H (j + (o :: rest).length)) := by
      intro vj H' hrest hop
      obtain ⟨T, H, v, hT, hH, ht, hq⟩ := ih (j + 1) (fun i => if i = j + 1 then put (T0 j) o.dst vj else T0 i) (fun i => if i = j + 1 then H' else H0 i)
        (pre ++ [((H0 j).length, H'.length)]) hl' (by simp [hpl]) (fun i hi => by
          by_cases hij : i = j
          · subst hij
            rw [List.getElem?_append_right (by omega)]
            simp [hpl]
          · rw [List.getElem?_append_left (by omega), hpre i (by omega)]
            simp only [if_neg (show i ≠ j + 1 from by omega), if_neg (show i + 1 ≠ j + 1 from by omega)])
        (by simpa using hrest)
      have hTj : T j = T0 j := by rw [hT j (by omega)]; simp
      have hHj : H j = H0 j := by rw [hH j (by omega)]; simp
      have hT1 : T (j + 1) = put (T0 j) o.dst vj := by rw [hT (j + 1) (by omega)]; simp
      have hH1 : H (j + 1) = H' := by rw [hH (j + 1) (by omega)]; simp
      have hHi : ∀ i, i ≤ j → H i = H0 i := fun i hi => by rw [hH i (by omega)]; simp only [if_neg (show i ≠ j + 1 from by omega)]
      refine ⟨T, H, fun i => if i = j then vj else v i, fun i hi => by rw [hT i (by omega)]; simp only [if_neg (show i ≠ j + 1 from by omega)], hHi, ?_, ?_⟩
      · refine ⟨fun k o' ho' hk => ?_, fun k o' ho' hk => ?_⟩
        · by_cases hkj : k = j
          · subst hkj
            rw [hoj] at ho'; cases ho'
            simp only [if_true]
            rw [hT1, hTj]
          · simp only [if_neg hkj]; exact ht.tmp k o' ho' (by omega)
        · by_cases hkj : k = j
          · subst hkj
            rw [hoj] at ho'; cases ho'
            simp only [if_true]
            rw [hTj, hHj, hH1]
            rcases hop with ⟨h1, V, h2, h2', hsc, h3⟩ | ⟨h1, h2, h3, h4⟩
            · refine .inl ⟨h1, V, ⟨h2.len, h2.sub, fun i hi hord id hs he => ?_, h2.dead⟩, h2', ?_, h3⟩
              · exact h2.pre i _ _ (by rw [hpre i hi, ← hHi i (by omega), ← hHi (i + 1) (by omega)]) hord id hs he
              · rcases hsc with hsc | hsc
                · exact .inl fun i hi hord => hsc i _ _ (by rw [hpre i hi, ← hHi i (by omega), ← hHi (i + 1) (by omega)]) hord
                · exact .inr fun i hi hord => hsc i _ _ (by rw [hpre i hi, ← hHi i (by omega), ← hHi (i + 1) (by omega)]) hord
            · exact .inr ⟨h1, h2, h3, h4⟩
          · simp only [if_neg hkj]; exact ht.op k o' ho' (by omega)
      · have : j + 1 + rest.length = j + (o :: rest).length := by simp; omega
        rw [this] at hq; exact hq
    obtain ⟨hy, hn⟩ := h
    cases hw : wantedA ops (T0 j) o with
    | true =>
      obtain ⟨V, vj, H', hV, hA, hsc, ha, hrest⟩ := hy hw
      exact build vj H' hrest (.inl ⟨hw, V, hV, hA, hsc, ha⟩)
    | false =>
      obtain ⟨hD, hrest⟩ := hn hw
      exact build undef (H0 j) hrest (.inr ⟨hw, rfl, rfl, hD⟩)
end
end Go.Proofs.YtdldekkojjfllaaDoor.Am
namespace Go.Proofs.YtdldekkojjfllaaDoor.Am
open Go
set_option linter.unusedVariables false
set_option linter.unusedSimpArgs false
section
variable {P : Program} {G : Glo} {N : Nat} {ops : Array Oper} {ms : List Nat} {D : List (List Nat)} {T : Nat → Tmps} {H : Nat → Heap} {v : Nat → Value}
def Tch (H : Nat → Heap) (D : List (List Nat)) (i id : Nat) : Prop := ((H i).length ≤ id ∧ id < (H (i + 1)).length) ∨ id ∈ D.getD i []
structure DrawFacts (P : Program) (G : Glo) (N : Nat) (ops : Array Oper) (ms : List Nat) (D : List (List Nat)) (T : Nat → Tmps) (H : Nat → Heap) (v : Nat → Value) : Prop where
  text : Text P G ops ms D T H v 0
  hms : ms = ancM ops.toList []
  ok : drawOk G N ops ms = true
theorem DrawFacts.okAt (f : DrawFacts P G N ops ms D T H v) {j : Nat} {o : Oper} (ho : ops[j]? = some o) :
    operOk G N ops o = true ∧ (∀ p, p ∈ predsM o → p < j) ∧
    ∀ (i : Nat) (o' : Oper) (t : Nat), ops[i]? = some o' → i ≠ j → o'.dst = some t → (looksB ops o t = true ∨ o.dst = some t) → ordB ms i j = true := by
  have h := f.ok
  unfold drawOk at h
  rw [List.all_eq_true] at h
  have hj : (o, j) ∈ ops.toList.zipIdx := by
    rw [List.mem_zipIdx_iff_getElem?]; simpa using ho
  have h1 := h _ hj
  simp only [Bool.and_eq_true, List.all_eq_true, decide_eq_true_eq] at h1
  obtain ⟨⟨h1, h2⟩, h3⟩ := h1
  refine ⟨h1, h2, fun i o' t ho' hij hd hl => ?_⟩
  have hi : (o', i) ∈ ops.toList.zipIdx := by
    rw [List.mem_zipIdx_iff_getElem?]; simpa using ho'
  have h4 := h3 _ hi
  simp only [Bool.or_eq_true, beq_iff_eq, hd, Bool.and_eq_true, Bool.not_eq_true'] at h4
  rcases h4 with h4 | h4 | h4
  · exact absurd h4 hij
  · rcases hl with hl | hl
    · rw [hl] at h4; exact absurd h4.1 (by simp)
    · rw [hl] at h4; simp at h4
  · exact h4
theorem DrawFacts.anc_lt (f : DrawFacts P G N ops ms D T H v) {i j : Nat} (h : Anc ops i j) : i < j := by
  induction h with
  | dir ho hi => exact (f.okAt ho).2.1 _ hi
  | step ho hp _ ih => exact Nat.lt_trans ih ((f.okAt ho).2.1 _ hp)
theorem anc_closed {S : Nat → Prop} (hc : ∀ i o, S i → ops[i]? = some o → ∀ p, p ∈ predsM o → S p) {i j : Nat} (h : Anc ops i j) :
    (∀ o, ops[j]? = some o → ∀ p, p ∈ predsM o → S p) → S i := by
  induction h with
  | dir ho hi => intro hj; exact hj _ ho _ hi
  | step ho hp _ ih => intro hj; exact ih fun o ho' => hc _ _ (hj _ ho _ hp) ho'
theorem DrawFacts.le1 (f : DrawFacts P G N ops ms D T H v) {j : Nat} (hj : j < ops.size) : (H j).length ≤ (H (j + 1)).length := by
  obtain ⟨o, ho⟩ : ∃ o, ops[j]? = some o := ⟨_, Array.getElem?_eq_getElem hj⟩
  rcases f.text.op j o ho (Nat.zero_le _) with ⟨_, V, _, hA, _⟩ | ⟨_, _, h, _⟩
  · exact hA.le
  · rw [h]; exact Nat.le_refl _
theorem DrawFacts.le (f : DrawFacts P G N ops ms D T H v) {i j : Nat} (hij : i ≤ j) (hj : j ≤ ops.size) : (H i).length ≤ (H j).length := by
  induction j with
  | zero => have : i = 0 := by omega
            subst this; exact Nat.le_refl _
  | succ j ih =>
    rcases Nat.lt_or_ge i (j + 1) with h | h
    · exact Nat.le_trans (ih (by omega) (by omega)) (f.le1 (by omega))
    · have : i = j + 1 := by omega
      subst this; exact Nat.le_refl _
theorem DrawFacts.same (f : DrawFacts P G N ops ms D T H v) {j : Nat} (hj : j < ops.size) {id : Nat} (hid : id < (H j).length) (hD : id ∉ D.getD j []) :
    (H (j + 1))[id]? = (H j)[id]? := by
  obtain ⟨o, ho⟩ : ∃ o, ops[j]? = some o := ⟨_, Array.getElem?_eq_getElem hj⟩
  rcases f.text.op j o ho (Nat.zero_le _) with ⟨_, V, _, hA, _⟩ | ⟨_, _, h, _⟩
  · exact hA.same id hid hD
  · rw [h]
/-- Who wrote a block last, ahead of an operation. -/
theorem DrawFacts.blk (f : DrawFacts P G N ops ms D T H v) : ∀ (j : Nat), j ≤ ops.size → ∀ (id : Nat) (b : Blk), (H j)[id]? = some b →
    (∃ i, i < j ∧ Tch H D i id ∧ (H (i + 1))[id]? = some b ∧ ∀ k, k < j → Tch H D k id → k ≤ i) ∨ ((∀ i, i < j → ¬ Tch H D i id) ∧ (H 0)[id]? = some b) := by
  intro j
  induction j with
  | zero => intro _ id b hb; exact .inr ⟨fun i hi => by omega, hb⟩
  | succ j ih =>
    intro hj id b hb
    by_cases ht : Tch H D j id
    · exact .inl ⟨j, by omega, ht, hb, fun k hk _ => by omega⟩
    · have hlt := lt_of_get hb
      have hid : id < (H j).length := by
        rcases Nat.lt_or_ge id (H j).length with h | h
        · exact h
        · exact absurd (.inl ⟨h, hlt⟩) ht
      have hD : id ∉ D.getD j [] := fun h => ht (.inr h)
      rw [f.same (by omega) hid hD] at hb
      rcases ih (by omega) id b hb with ⟨i, h1, h2, h3, h4⟩ | ⟨h1, h2⟩
      · refine .inl ⟨i, by omega, h2, h3, fun k hk hk2 => ?_⟩
        rcases Nat.lt_or_ge k j with h | h
        · exact h4 k h hk2
        · have : k = j := by omega
          subst this; exact absurd hk2 ht
      · refine .inr ⟨fun i hi hi2 => ?_, h2⟩
        rcases Nat.lt_or_ge i j with h | h
        · exact h1 i h hi2
        · have : i = j := by omega
          subst this; exact ht hi2
theorem DrawFacts.tmp (f : DrawFacts P G N ops ms D T H v) (t : Nat) : ∀ (j : Nat), j ≤ ops.size →
    (∃ i o, i < j ∧ ops[i]? = some o ∧ o.dst = some t ∧ T j t = v i ∧ ∀ k o', k < j → ops[k]? = some o' → o'.dst = some t → k ≤ i) ∨
    ((∀ i o, i < j → ops[i]? = some o → o.dst ≠ some t) ∧ T j t = T 0 t) := by
  intro j
  induction j with
  | zero => intro _; exact .inr ⟨fun i o hi => by omega, rfl⟩
  | succ j ih =>
    intro hj
    obtain ⟨o, ho⟩ : ∃ o, ops[j]? = some o := ⟨_, Array.getElem?_eq_getElem (show j < ops.size by omega)⟩
    have hT := f.text.tmp j o ho (Nat.zero_le _)
    by_cases hd : o.dst = some t
    · refine .inl ⟨j, o, by omega, ho, hd, ?_, fun k o' hk _ _ => by omega⟩
      rw [hT, hd]; simp [put_some]
    · have hTj : T (j + 1) t = T j t := by
        rw [hT]
        cases hdd : o.dst with
        | none => rfl
        | some d => rw [put_some, if_neg]; rintro rfl; exact hd hdd
      rcases ih (by omega) with ⟨i, oi, h1, h2, h3, h4, h5⟩ | ⟨h1, h2⟩
      · refine .inl ⟨i, oi, by omega, h2, h3, by rw [hTj]; exact h4, fun k o' hk hk2 hk3 => ?_⟩
        rcases Nat.lt_or_ge k j with h | h
        · exact h5 k o' h hk2 hk3
        · have : k = j := by omega
          subst this
          rw [ho] at hk2; cases hk2; exact absurd hk3 hd
      · refine .inr ⟨fun i o' hi hi2 hi3 => ?_, by rw [hTj]; exact h2⟩
        rcases Nat.lt_or_ge i j with h | h
        · exact h1 i o' h hi2 hi3
        · have : i = j := by omega
          subst this
          rw [ho] at hi2; cases hi2; exact hd hi3
/-- The names that step i may hand on. -/
def Av (ops : Array Oper) (ms : List Nat) (H : Nat → Heap) (i id : Nat) : Prop :=
  id < (H (i + 1)).length ∧ ∀ k, k < i → ordB ms k i = false → ¬ ((H k).length ≤ id ∧ id < (H (k + 1)).length)
/-- A run that has done the operations of S: the frame and the memory. -/
structure DInv (P : Program) (G : Glo) (N : Nat) (ops : Array Oper) (ms : List Nat) (D : List (List Nat)) (T : Nat → Tmps) (H : Nat → Heap) (v : Nat → Value)
    (m0 : Map) (w0 : World) (S : Nat → Prop) (a : Act) (w : World) (m : Map) (HS : Heap) : Prop where
  closed : ∀ i o, S i → ops[i]? = some o → ∀ p, p ∈ predsM o → S p
  lt : ∀ i, S i → i < ops.size
  defers : a.defers = []
  size : a.tmps.size = N
  tmp : ∀ t, ∃ u, VRel (H ops.size).length m u (a.tmps.getD t undef) ∧
    ((∃ i o, S i ∧ ops[i]? = some o ∧ o.dst = some t ∧ u = v i ∧ ∀ k o', S k → ops[k]? = some o' → o'.dst = some t → k ≤ i) ∨
     ((∀ i o, S i → ops[i]? = some o → o.dst ≠ some t) ∧ u = T 0 t ∧ IdsP (fun id => id < (H 0).length) u))
  val : ∀ i, S i → IdsP (Av ops ms H i) (v i)
  cells : ∀ i, S i → ∀ (id : Nat) (b : Blk), Tch H D i id → (H (i + 1))[id]? = some b → b.k = 1 ∨ b.k = 2 → ∀ x, x ∈ b.cs → IdsP (Av ops ms H i) x
  base : ∀ (id : Nat) (b : Blk), (H 0)[id]? = some b → b.k = 1 ∨ b.k = 2 → ∀ x, x ∈ b.cs → IdsP (fun id => id < (H 0).length) x
  hlen : HS.length = (H ops.size).length
  blk1 : ∀ (id : Nat) (b : Blk), HS[id]? = some b → b.k ≠ 0 →
    (∃ i, S i ∧ Tch H D i id ∧ (H (i + 1))[id]? = some b ∧ ∀ k, S k → Tch H D k id → k ≤ i) ∨ ((∀ i, S i → ¬ Tch H D i id) ∧ (H 0)[id]? = some b)
  blk2 : ∀ (id : Nat) (b : Blk), b.k ≠ 0 →
    ((∃ i, S i ∧ Tch H D i id ∧ (H (i + 1))[id]? = some b ∧ ∀ k, S k → Tch H D k id → k ≤ i) ∨ ((∀ i, S i → ¬ Tch H D i id) ∧ (H 0)[id]? = some b)) → HS[id]? = some b
  wr : WRel G m HS w
  grow : Grow m0 (H 0) w0 m HS w
theorem WRel.sub {m : Map} {HS V : Heap} {w : World} (r : WRel G m HS w) (hlen : V.length ≤ HS.length) (hG : ∀ g, g < G.n → g < V.length)
    (hs : ∀ (id : Nat) (b : Blk), V[id]? = some b → b.k ≠ 0 → HS[id]? = some b ∧ (b.k = 1 ∨ b.k = 2 → ∀ x, x ∈ b.cs → IdsP (fun id => id < V.length) x)) : WRel G m V w := by
  refine ⟨?_, ?_, ?_, ?_, ?_, fun g hg => ⟨hG g hg, (r.glob g hg).2⟩, fun g o hg => ⟨(r.tab g o hg).1, fun id b hb ho => (r.tab g o hg).2 id b (hs id b hb (Blk.own_live ho)).1 ho⟩⟩
  · intro id b hb hk j x hx
    obtain ⟨h1, h2⟩ := hs id b hb (by omega)
    obtain ⟨x', q1, q2, q3⟩ := r.cell id b h1 hk j x hx
    exact ⟨x', q1, q2.change (fun id hid => ⟨hid, rfl⟩) (h2 hk x (List.mem_of_getElem? hx)), q3⟩
  · intro id b hb hk; exact r.room id b (hs id b hb (by omega)).1 hk
  · intro id b hb hk; exact r.iter id b (hs id b hb (by omega)).1 hk
  · intro id b hb hk; exact r.live id b (hs id b hb hk).1 hk
  · intro id id' b b' hb hb' ho hk hne
    exact r.apart id id' b b' (hs id b hb (Blk.own_live ho)).1 (hs id' b' hb' hk).1 ho hk hne
/-- What V hides is hidden from S, too; what it shows S shows. -/
theorem DInv.view {m0 : Map} {w0 : World} {S : Nat → Prop} {a : Act} {w : World} {m : Map} {HS : Heap} (f : DrawFacts P G N ops ms D T H v)
    (d : DInv P G N ops ms D T H v m0 w0 S a w m HS) {j : Nat} {o : Oper} (ho : ops[j]? = some o) (hjS : ¬ S j) (hpre : ∀ p, p ∈ predsM o → S p)
    {V : Heap} (hVl : V.length = (H j).length) (hV1 : ∀ (id : Nat) (b : Blk), V[id]? = some b → b.k = 0 ∨ (H j)[id]? = some b)
    (hV2 : ∀ i, i < j → ordB ms i j = false → ∀ id, (H i).length ≤ id → id < (H (i + 1)).length → ∀ b : Blk, V[id]? = some b → b.k = 0)
    (hV3 : ∀ i, i < ops.size → i ≠ j → ordB ms i j = false → ∀ id, id ∈ D.getD i [] → ∀ b : Blk, V[id]? = some b → b.k = 0) :
    ∀ (id : Nat) (b : Blk), V[id]? = some b → b.k ≠ 0 → HS[id]? = some b ∧ (b.k = 1 ∨ b.k = 2 → ∀ x, x ∈ b.cs → IdsP (fun id => id < V.length) x) := by
  intro id b hb hk
  have hjn : j < ops.size := (Array.getElem?_eq_some_iff.1 ho).1
  have hb' := (hV1 id b hb).resolve_left hk
  have hidV := lt_of_get hb
  have hpred : ∀ o', ops[j]? = some o' → ∀ p, p ∈ predsM o' → S p := fun o' ho' => by rw [ho] at ho'; cases ho'; exact hpre
  have ord : ∀ i, i ≠ j → i < ops.size → Tch H D i id → Anc ops i j ∨ Anc ops j i := by
    intro i hi hin ht
    have : ordB ms i j = true := by
      cases hq : ordB ms i j with
      | true => rfl
      | false =>
        rcases ht with ⟨h1, h2⟩ | h1
        · rcases Nat.lt_or_ge i j with h | h
          · exact absurd (hV2 i h hq id h1 h2 b hb) hk
          · have := f.le (i := j) (j := i) (by omega) (by omega)
            omega
        · exact absurd (hV3 i hin hi hq id h1 b hb) hk
    rw [f.hms] at this
    exact ordB_anc this
  have ordS : ∀ i, S i → Tch H D i id → Anc ops i j := by
    intro i hi ht
    rcases ord i (fun h => hjS (h ▸ hi)) (d.lt i hi) ht with h | h
    · exact h
    · exact absurd (anc_closed d.closed h (fun o' ho' => d.closed i o' hi ho')) hjS
  rcases f.blk j (by omega) id b hb' with ⟨i, h1, h2, h3, h4⟩ | ⟨h1, h2⟩
  · have hanc : Anc ops i j := by
      rcases ord i (by omega) (by omega) h2 with h | h
      · exact h
      · have := f.anc_lt h; omega
    have hSi : S i := anc_closed d.closed hanc hpred
    refine ⟨d.blk2 id b hk (.inl ⟨i, hSi, h2, h3, fun k hk2 hk3 => h4 k (f.anc_lt (ordS k hk2 hk3)) hk3⟩), fun hk2 x hx => ?_⟩
    refine (d.cells i hSi id b h2 h3 hk2 x hx).mono fun id' hid' => ?_
    have := f.le (i := i + 1) (j := j) (by omega) (by omega)
    have := hid'.1
    omega
  · refine ⟨d.blk2 id b hk (.inr ⟨fun i hi ht => h1 i (f.anc_lt (ordS i hi ht)) ht, h2⟩), fun hk2 x hx => ?_⟩
    refine (d.base id b h2 hk2 x hx).mono fun id' hid' => ?_
    have := f.le (i := 0) (j := j) (by omega) (by omega)
    omega
theorem DInv.tmpAt {m0 : Map} {w0 : World} {S : Nat → Prop} {a : Act} {w : World} {m : Map} {HS : Heap} (f : DrawFacts P G N ops ms D T H v)
    (d : DInv P G N ops ms D T H v m0 w0 S a w m HS) {j : Nat} {o : Oper} (ho : ops[j]? = some o) (hjS : ¬ S j) (hpre : ∀ p, p ∈ predsM o → S p)
    {t : Nat} (hl : looksB ops o t = true) : VRel (H j).length m (T j t) (a.tmps.getD t undef) := by
  have hjn : j < ops.size := (Array.getElem?_eq_some_iff.1 ho).1
  have hpred : ∀ o', ops[j]? = some o' → ∀ p, p ∈ predsM o' → S p := fun o' ho' => by rw [ho] at ho'; cases ho'; exact hpre
  have ord : ∀ i o', ops[i]? = some o' → i ≠ j → o'.dst = some t → Anc ops i j ∨ Anc ops j i := by
    intro i o' hi hij hd
    have := (f.okAt ho).2.2 i o' t hi hij hd (.inl hl)
    rw [f.hms] at this
    exact ordB_anc this
  have ordS : ∀ i o', S i → ops[i]? = some o' → o'.dst = some t → Anc ops i j := by
    intro i o' hi hio hd
    rcases ord i o' hio (fun h => hjS (h ▸ hi)) hd with h | h
    · exact h
    · exact absurd (anc_closed d.closed h (fun o' ho' => d.closed i o' hi ho')) hjS
  obtain ⟨u, hu, hcase⟩ := d.tmp t
  rcases hcase with ⟨i, oi, h1, h2, h3, rfl, h5⟩ | ⟨h1, rfl, h3⟩
  · have hanc := ordS i oi h1 h2 h3
    have hij := f.anc_lt hanc
    rcases f.tmp t j (by omega) with ⟨i', o', g1, g2, g3, g4, g5⟩ | ⟨g1, g2⟩
    · have ha' : Anc ops i' j := by
        rcases ord i' o' g2 (by omega) g3 with h | h
        · exact h
        · have := f.anc_lt h; omega
      have hS' := anc_closed d.closed ha' hpred
      have e1 := h5 i' o' hS' g2 g3
      have e2 := g5 i oi hij h2 h3
      have : i' = i := by omega
      subst this
      rw [g4]
      refine hu.change (fun id hid => ⟨?_, rfl⟩) (d.val i' h1)
      have := f.le (i := i' + 1) (j := j) (by omega) (by omega)
      have := hid.1
      omega
    · exact absurd h3 (g1 i oi hij h2)
  · rcases f.tmp t j (by omega) with ⟨i', o', g1, g2, g3, g4, g5⟩ | ⟨g1, g2⟩
    · have ha' : Anc ops i' j := by
        rcases ord i' o' g2 (by omega) g3 with h | h
        · exact h
        · have := f.anc_lt h; omega
      exact absurd g3 (h1 i' o' (anc_closed d.closed ha' hpred) g2)
    · rw [g2]
      refine hu.change (fun id hid => ⟨?_, rfl⟩) h3
      have := f.le (i := 0) (j := j) (by omega) (by omega)
      omega
end
end Go.Proofs.YtdldekkojjfllaaDoor.Am
namespace Go.Proofs.YtdldekkojjfllaaDoor.Am
open Go
set_option linter.unusedVariables false
set_option linter.unusedSimpArgs false
theorem IdsP.forall {A : Nat → Prop} {B : Nat → Nat → Prop} {u : Value} (h : IdsP A u) : (∀ i, IdsP (B i) u) → IdsP (fun id => ∀ i, B i id) u := by
  induction h with
  | bool b => intro _; exact .bool b
  | int k i => intro _; exact .int k i
  | string s => intro _; exact .string s
  | nilFunc => intro _; exact .nilFunc
  | nilIface => intro _; exact .nilIface
  | ptrNone => intro _; exact .ptrNone
  | ptr a h1 => intro g; exact .ptr a fun i => by have := g i; cases this; assumption
  | sliceNone l c => intro _; exact .sliceNone l c
  | odd => intro _; exact .odd
  | slice a l c h1 => intro g; exact .slice a l c fun i => by have := g i; cases this; assumption
  | func fn fs cs _ _ i1 i2 =>
    intro g
    exact .func fn fs cs (fun k hk => i1 k hk fun i => by have := g i; cases this with | func _ _ _ q1 q2 => exact q1 k hk)
      (fun k hk => i2 k hk fun i => by have := g i; cases this with | func _ _ _ q1 q2 => exact q2 k hk)
  | iface t v _ ih => intro g; exact .iface t v (ih fun i => by have := g i; cases this; assumption)
  | agg cs _ ih => intro g; exact .agg cs fun k hk => ih k hk fun i => by have := g i; cases this with | agg _ q => exact q k hk
  | tuple cs _ ih => intro g; exact .tuple cs fun k hk => ih k hk fun i => by have := g i; cases this with | tuple _ q => exact q k hk
section
variable {P : Program} {G : Glo} {N : Nat} {ops : Array Oper} {ms : List Nat} {D : List (List Nat)} {T : Nat → Tmps} {H : Nat → Heap} {v : Nat → Value}
open Classical in
noncomputable def HS2 (H : Nat → Heap) (D : List (List Nat)) (n j : Nat) (HS : Heap) : Heap :=
  (List.range (H n).length).map fun id => if Tch H D j id then ((H (j + 1))[id]?).getD ⟨0, 0, []⟩ else (HS[id]?).getD ⟨0, 0, []⟩
def M2 (H : Nat → Heap) (j : Nat) (m m' : Map) : Map := fun id => if (H j).length ≤ id ∧ id < (H (j + 1)).length then m' id else m id
theorem getD_put {a : Act} {d : Option Tmp} {v' : Value} {t : Nat} (hd : ∀ u, d = some u → u < a.tmps.size) :
    ((a.put d v').tmps.getD t undef = v' ∧ d = some t) ∨ ((a.put d v').tmps.getD t undef = a.tmps.getD t undef ∧ d ≠ some t) := by
  cases d with
  | none => exact .inr ⟨rfl, by simp⟩
  | some d =>
    by_cases ht : t = d
    · subst ht
      left
      refine ⟨?_, rfl⟩
      simp only [Act.put]
      rw [Array.getD_eq_getD_getElem?, Array.getElem?_setIfInBounds_self_of_lt (hd t rfl)]; rfl
    · right
      refine ⟨?_, fun h => ht (Option.some.inj h).symm⟩
      simp only [Act.put]
      rw [Array.getD_eq_getD_getElem?, Array.getD_eq_getD_getElem?, Array.getElem?_setIfInBounds_ne (Ne.symm ht)]
theorem put_size {a : Act} {d : Option Tmp} {v' : Value} : (a.put d v').tmps.size = a.tmps.size := by cases d <;> simp [Act.put]
theorem put_defers {a : Act} {d : Option Tmp} {v' : Value} : (a.put d v').defers = a.defers := by cases d <;> rfl
theorem DInv.step {m0 : Map} {w0 : World} {S : Nat → Prop} {a : Act} {w : World} {m : Map} {HS : Heap} (f : DrawFacts P G N ops ms D T H v)
    (d : DInv P G N ops ms D T H v m0 w0 S a w m HS) {j : Nat} {o : Oper} (ho : ops[j]? = some o) (hjS : ¬ S j) (hpre : ∀ p, p ∈ predsM o → S p)
    {V h' : Heap} {v' : Value} {m' : Map} {w' : World} (hVl : V.length = (H j).length)
    (hView : ∀ (id : Nat) (b : Blk), V[id]? = some b → b.k ≠ 0 → HS[id]? = some b)
    (hV2 : ∀ i, i < j → ordB ms i j = false → ∀ id, (H i).length ≤ id → id < (H (i + 1)).length → ∀ b : Blk, V[id]? = some b → b.k = 0)
    (hV3 : ∀ i, i < ops.size → i ≠ j → ordB ms i j = false → ∀ id, id ∈ D.getD i [] → ∀ b : Blk, V[id]? = some b → b.k = 0)
    (hA : StepA V (H j) (H (j + 1)) (D.getD j [])) (hB : StepB V h' (H (j + 1)) (D.getD j []))
    (hSC : (∀ i, i < j → ordB ms i j = false → (H i).length = (H (i + 1)).length) ∨
        (∀ i, i < j → ordB ms i j = false → IdsP (fun id => ¬ ((H i).length ≤ id ∧ id < (H (i + 1)).length)) (v j) ∧
          ∀ (id : Nat) (b : Blk), (id ∈ D.getD j [] ∨ (H j).length ≤ id) → (H (j + 1))[id]? = some b → b.k ≠ 0 → ∀ x, x ∈ b.cs →
            IdsP (fun id => ¬ ((H i).length ≤ id ∧ id < (H (i + 1)).length)) x))
    (hv : VRel h'.length m' (v j) v') (r' : WRel G m' h' w') (g : Grow m V w m' h' w') :
    DInv P G N ops ms D T H v m0 w0 (fun i => i = j ∨ S i) (a.put o.dst v') w' (M2 H j m m') (HS2 H D ops.size j HS) := by
  have hjn : j < ops.size := (Array.getElem?_eq_some_iff.1 ho).1
  have hL1 := f.le1 hjn
  have hLn := f.le (i := j + 1) (j := ops.size) (by omega) (by omega)
  have hL0 := f.le (i := 0) (j := j) (by omega) (by omega)
  have hdst : ∀ t, o.dst = some t → t < N := by
    intro t ht
    have := (f.okAt ho).1
    simp only [operOk, ht, Bool.and_eq_true, decide_eq_true_eq] at this
    exact this.1.2
  have hm1 : ∀ id, id < (H (j + 1)).length → M2 H j m m' id = m' id := by
    intro id hid
    unfold M2
    split
    · rfl
    · rename_i hn
      exact (g.agree id (by rw [hVl]; omega)).symm
  have hm2 : ∀ id, ¬ ((H j).length ≤ id ∧ id < (H (j + 1)).length) → M2 H j m m' id = m id := by
    intro id hid; unfold M2; rw [if_neg hid]
  have tlt : ∀ id, Tch H D j id → id < (H (j + 1)).length := by
    rintro id (⟨_, h⟩ | h)
    · exact h
    · have := hA.dlt id h; omega
  -- who else touches what j touches stands ahead of it
  have ordD : ∀ k, S k → ∀ id, Tch H D k id → Tch H D j id → k < j := by
    intro k hk id htk htj
    have hkn := d.lt k hk
    have hkj : k ≠ j := fun h => hjS (h ▸ hk)
    have fromAnc : ordB ms k j = true → k < j := by
      intro hq
      rw [f.hms] at hq
      rcases ordB_anc hq with h | h
      · exact f.anc_lt h
      · exact absurd (anc_closed d.closed h (fun o' ho' => d.closed k o' hk ho')) hjS
    by_cases hD : id ∈ D.getD j []
    · obtain ⟨b, hb, hbk⟩ := hA.dlive id hD
      apply fromAnc
      cases hq : ordB ms k j with
      | true => rfl
      | false =>
        rcases htk with ⟨h1, h2⟩ | h1
        · rcases Nat.lt_or_ge k j with h | h
          · exact absurd (hV2 k h hq id h1 h2 b hb) hbk
          · have := hA.dlt id hD
            have := f.le (i := j) (j := k) (by omega) (by omega)
            omega
        · exact absurd (hV3 k hkn hkj hq id h1 b hb) hbk
    · rcases htj with ⟨h1, h2⟩ | h1
      · rcases Nat.lt_or_ge k j with h | h
        · exact h
        · exfalso
          obtain ⟨ok, hok⟩ : ∃ ok, ops[k]? = some ok := ⟨_, Array.getElem?_eq_getElem hkn⟩
          rcases htk with ⟨h3, h4⟩ | h3
          · have := f.le (i := j + 1) (j := k) (by omega) (by omega)
            omega
          · rcases f.text.op k ok hok (Nat.zero_le _) with ⟨_, Vk, ⟨_, _, hp2, _⟩, hAk, _⟩ | ⟨_, _, _, h5⟩
            · obtain ⟨b, hb, hbk⟩ := hAk.dlive id h3
              have hq : ordB ms j k = true := by
                cases hq : ordB ms j k with
                | true => rfl
                | false => exact absurd (hp2 j (by omega) hq id h1 h2 b hb) hbk
              rw [f.hms] at hq
              rcases ordB_anc hq with h | h
              · exact hjS (anc_closed d.closed h (fun o' ho' => d.closed k o' hk ho'))
              · have := f.anc_lt h; omega
            · rw [h5] at h3; simp at h3
      · exact absurd h1 hD
  -- what S hands on names nothing of j's
  have avoid : ∀ i, S i → ∀ id, Av ops ms H i id → ¬ ((H j).length ≤ id ∧ id < (H (j + 1)).length) := by
    intro i hi id hav hr
    have hin := d.lt i hi
    rcases Nat.lt_or_ge i j with h | h
    · have := f.le (i := i + 1) (j := j) (by omega) (by omega)
      have := hav.1
      omega
    · have hij : i ≠ j := fun h => hjS (h ▸ hi)
      have hq : ordB ms j i = false := by
        cases hq : ordB ms j i with
        | false => rfl
        | true =>
          rw [f.hms] at hq
          obtain ⟨oi, hoi⟩ : ∃ oi, ops[i]? = some oi := ⟨_, Array.getElem?_eq_getElem hin⟩
          rcases ordB_anc hq with h | h
          · exact absurd (anc_closed d.closed h (fun o' ho' => d.closed i o' hi ho')) hjS
          · have := f.anc_lt h; omega
      exact hav.2 j (by omega) hq hr
  have avoid0 : ∀ id, id < (H 0).length → ¬ ((H j).length ≤ id ∧ id < (H (j + 1)).length) := fun id h1 h2 => by omega
  have get2 : ∀ (id : Nat) (b : Blk), (HS2 H D ops.size j HS)[id]? = some b → b.k ≠ 0 →
      (Tch H D j id ∧ (H (j + 1))[id]? = some b) ∨ (¬ Tch H D j id ∧ HS[id]? = some b) := by
    intro id b hb hk
    unfold HS2 at hb
    simp only [List.getElem?_map, Option.map_eq_some_iff] at hb
    obtain ⟨id', h1, h2⟩ := hb
    have hid : id < (H ops.size).length := by
      obtain ⟨q, _⟩ := List.getElem?_eq_some_iff.1 h1; simpa using q
    rw [List.getElem?_range hid] at h1
    cases h1
    by_cases ht : Tch H D j id
    · rw [if_pos ht] at h2
      refine .inl ⟨ht, ?_⟩
      rw [List.getElem?_eq_getElem (tlt id ht)] at h2 ⊢
      simpa using h2
    · rw [if_neg ht] at h2
      refine .inr ⟨ht, ?_⟩
      rw [List.getElem?_eq_getElem (by rw [d.hlen]; exact hid)] at h2 ⊢
      simpa using h2
  have put2 : ∀ (id : Nat) (b : Blk), (Tch H D j id ∧ (H (j + 1))[id]? = some b) ∨ (¬ Tch H D j id ∧ HS[id]? = some b) → (HS2 H D ops.size j HS)[id]? = some b := by
    intro id b hb
    have hid : id < (H ops.size).length := by
      rcases hb with ⟨h1, h2⟩ | ⟨h1, h2⟩
      · have := lt_of_get h2; omega
      · have := lt_of_get h2; rw [← d.hlen]; exact this
    unfold HS2
    simp only [List.getElem?_map, List.getElem?_range hid, Option.map_some]
    rcases hb with ⟨h1, h2⟩ | ⟨h1, h2⟩
    · rw [if_pos h1, h2]; rfl
    · rw [if_neg h1, h2]; rfl
  -- a block of the new memory lies in what the operation left, or where it did not look
  have inout : ∀ (id : Nat) (b : Blk), (HS2 H D ops.size j HS)[id]? = some b → b.k ≠ 0 →
      (h'[id]? = some b ∧ id < (H (j + 1)).length) ∨ (HS[id]? = some b ∧ ¬ ((H j).length ≤ id ∧ id < (H (j + 1)).length) ∧ ∀ b' : Blk, V[id]? = some b' → b'.k = 0) := by
    intro id b hb hk
    rcases get2 id b hb hk with ⟨h1, h2⟩ | ⟨h1, h2⟩
    · left
      refine ⟨?_, tlt id h1⟩
      rw [← hB.new id (by
        rcases h1 with ⟨q, _⟩ | q
        · exact .inr (by rw [hVl]; exact q)
        · exact .inl q)]
      exact h2
    · by_cases hVlive : ∃ b' : Blk, V[id]? = some b' ∧ b'.k ≠ 0
      · obtain ⟨b', q1, q2⟩ := hVlive
        have := hView id b' q1 q2
        rw [h2] at this
        cases this
        have hid := lt_of_get q1
        left
        refine ⟨by rw [hB.same id hid (fun hq => h1 (.inr hq))]; exact q1, by rw [hVl] at hid; omega⟩
      · right
        refine ⟨h2, fun hq => h1 (.inl hq), fun b' hb' => ?_⟩
        cases hq : decide (b'.k = 0) with
        | true => simpa using hq
        | false => exact absurd ⟨b', hb', by simpa using hq⟩ hVlive
  have hlenh' : h'.length = (H (j + 1)).length := hB.hlen
  have chg : ∀ {u x : Value}, VRel h'.length m' u x → VRel (H ops.size).length (M2 H j m m') u x := fun {u x} hu =>
    hu.change (A := fun id => id < h'.length) (fun id hid => ⟨by omega, hm1 id (by omega)⟩) hu.ids
  have out : ∀ (id : Nat) (b : Blk), HS[id]? = some b → b.k ≠ 0 → (∀ b' : Blk, V[id]? = some b' → b'.k = 0) → w'.heap[(m id).b]? = w.heap[(m id).b]? := by
    intro id b hb hk hd
    refine g.keeps _ (d.wr.live id b hb hk) fun id2 b2 hb2 ho2 => ?_
    have h2 := hView id2 b2 hb2 (Blk.own_live ho2)
    refine d.wr.apart id2 id b2 b h2 hb ho2 hk ?_
    rintro rfl
    exact Blk.own_live ho2 (hd b2 hb2)
  have cellsAv : ∀ (id : Nat) (b : Blk), HS[id]? = some b → b.k = 1 ∨ b.k = 2 → ∀ x, x ∈ b.cs → IdsP (fun id => ¬ ((H j).length ≤ id ∧ id < (H (j + 1)).length)) x := by
    intro id b hb hk x hx
    rcases d.blk1 id b hb (by omega) with ⟨i, h1, h2, h3, _⟩ | ⟨_, h2⟩
    · exact (d.cells i h1 id b h2 h3 hk x hx).mono fun id' hid' => avoid i h1 id' hid'
    · exact (d.base id b h2 hk x hx).mono fun id' hid' => avoid0 id' hid'
  have avj : ∀ u : Value, IdsP (fun id => id < (H (j + 1)).length) u → ((∀ i, i < j → ordB ms i j = false → (H i).length = (H (i + 1)).length) ∨
      ∀ i, i < j → ordB ms i j = false → IdsP (fun id => ¬ ((H i).length ≤ id ∧ id < (H (i + 1)).length)) u) → IdsP (Av ops ms H j) u := by
    intro u hu hs
    rcases hs with hs | hs
    · refine hu.mono fun id hid => ⟨hid, fun k hk hq hr => ?_⟩
      have := hs k hk hq
      omega
    · have h2 : IdsP (fun id => ∀ k, k < j → ordB ms k j = false → ¬ ((H k).length ≤ id ∧ id < (H (k + 1)).length)) u := by
        refine (IdsP.forall (B := fun k id => k < j → ordB ms k j = false → ¬ ((H k).length ≤ id ∧ id < (H (k + 1)).length)) hu fun k => ?_)
        by_cases hk : k < j ∧ ordB ms k j = false
        · exact (hs k hk.1 hk.2).mono fun id hid _ _ => hid
        · exact hu.mono fun id _ h1 h2 => absurd ⟨h1, h2⟩ hk
      exact hu.and h2
  refine ⟨?_, ?_, ?_, ?_, ?_, ?_, ?_, d.base, by unfold HS2; simp, ?_, ?_, ?_, ?_⟩
  · rintro i oi (rfl | hi) hoi p hp
    · rw [ho] at hoi; cases hoi; exact .inr (hpre p hp)
    · exact .inr (d.closed i oi hi hoi p hp)
  · rintro i (rfl | hi)
    · exact hjn
    · exact d.lt i hi
  · rw [put_defers]; exact d.defers
  · rw [put_size]; exact d.size
  · intro t
    rcases getD_put (a := a) (d := o.dst) (v' := v') (t := t) (fun u hu => by rw [d.size]; exact hdst u hu) with ⟨h1, h2⟩ | ⟨h1, h2⟩
    · rw [h1]
      refine ⟨v j, chg hv, .inl ⟨j, o, .inl rfl, ho, h2, rfl, ?_⟩⟩
      rintro k ok (rfl | hk) hok hkd
      · exact Nat.le_refl _
      · have hkj : k ≠ j := fun h => hjS (h ▸ hk)
        have hq := (f.okAt ho).2.2 k ok t hok hkj hkd (.inr h2)
        rw [f.hms] at hq
        rcases ordB_anc hq with h | h
        · exact Nat.le_of_lt (f.anc_lt h)
        · exact absurd (anc_closed d.closed h (fun o' ho' => d.closed k o' hk ho')) hjS
    · rw [h1]
      obtain ⟨u, hu, hc⟩ := d.tmp t
      rcases hc with ⟨i, oi, g1, g2, g3, rfl, g5⟩ | ⟨g1, rfl, g3⟩
      · refine ⟨v i, hu.change (A := fun id => Av ops ms H i id) (fun id hid => ⟨?_, hm2 id (avoid i g1 id hid)⟩) (d.val i g1), .inl ⟨i, oi, .inr g1, g2, g3, rfl, ?_⟩⟩
        · have := f.le (i := i + 1) (j := ops.size) (by have := d.lt i g1; omega) (by omega)
          have := hid.1
          omega
        · rintro k ok (rfl | hk) hok hkd
          · rw [ho] at hok; cases hok; exact absurd hkd h2
          · exact g5 k ok hk hok hkd
      · refine ⟨T 0 t, hu.change (A := fun id => id < (H 0).length) (fun id hid => ⟨by omega, hm2 id (avoid0 id hid)⟩) g3, .inr ⟨?_, rfl, g3⟩⟩
        rintro i oi (rfl | hi) hoi hd
        · rw [ho] at hoi; cases hoi; exact h2 hd
        · exact g1 i oi hi hoi hd
  · rintro i (rfl | hi)
    · refine avj _ (hv.ids.mono fun id hid => by omega) ?_
      rcases hSC with hs | hs
      · exact .inl hs
      · exact .inr fun k hk hq => (hs k hk hq).1
    · exact d.val i hi
  · rintro i (rfl | hi) id b ht hb hk x hx
    · have htt : id ∈ D.getD i [] ∨ (H i).length ≤ id := by
        rcases ht with ⟨q, _⟩ | q
        · exact .inr q
        · exact .inl q
      have hb' : h'[id]? = some b := by
        rw [← hB.new id (by rcases htt with q | q; · exact .inl q
                            · exact .inr (by rw [hVl]; exact q))]
        exact hb
      obtain ⟨q, hq⟩ := List.getElem?_of_mem hx
      obtain ⟨x', p1, p2, _⟩ := r'.cell id b hb' hk q x hq
      refine avj _ (p2.ids.mono fun id hid => by omega) ?_
      rcases hSC with hs | hs
      · exact .inl hs
      · exact .inr fun k hk' hq' => (hs k hk' hq').2 id b htt hb (by omega) x hx
    · exact d.cells i hi id b ht hb hk x hx
  · intro id b hb hk
    rcases get2 id b hb hk with ⟨h1, h2⟩ | ⟨h1, h2⟩
    · refine .inl ⟨j, .inl rfl, h1, h2, ?_⟩
      rintro k (rfl | hk2) hk3
      · exact Nat.le_refl _
      · exact Nat.le_of_lt (ordD k hk2 id hk3 h1)
    · rcases d.blk1 id b h2 hk with ⟨i, g1, g2, g3, g4⟩ | ⟨g1, g2⟩
      · refine .inl ⟨i, .inr g1, g2, g3, ?_⟩
        rintro k (rfl | hk2) hk3
        · exact absurd hk3 h1
        · exact g4 k hk2 hk3
      · refine .inr ⟨?_, g2⟩
        rintro i (rfl | hi)
        · exact h1
        · exact g1 i hi
  · intro id b hk hc
    apply put2
    rcases hc with ⟨i, h1, h2, h3, h4⟩ | ⟨h1, h2⟩
    · rcases h1 with rfl | h1
      · exact .inl ⟨h2, h3⟩
      · have hnt : ¬ Tch H D j id := fun ht => by
          have := h4 j (.inl rfl) ht
          have := ordD i h1 id h2 ht
          omega
        exact .inr ⟨hnt, d.blk2 id b hk (.inl ⟨i, h1, h2, h3, fun k hk2 hk3 => h4 k (.inr hk2) hk3⟩)⟩
    · exact .inr ⟨h1 j (.inl rfl), d.blk2 id b hk (.inr ⟨fun i hi => h1 i (.inr hi), h2⟩)⟩
  · refine ⟨?_, ?_, ?_, ?_, ?_, ?_, ?_⟩
    · intro id b hb hk q x hq
      have hlen2 : (HS2 H D ops.size j HS).length = (H ops.size).length := by unfold HS2; simp
      rw [hlen2]
      rcases inout id b hb (by omega) with ⟨h1, h2⟩ | ⟨h1, h2, h3⟩
      · obtain ⟨x', p1, p2, p3⟩ := r'.cell id b h1 hk q x hq
        exact ⟨x', by rw [hm1 id h2]; exact p1, chg p2, p3⟩
      · obtain ⟨x', p1, p2, p3⟩ := d.wr.cell id b h1 hk q x hq
        refine ⟨x', ?_, ?_, p3⟩
        · rw [hm2 id h2, World.cell?_of_block (out id b h1 (by omega) h3)]; exact p1
        · rw [d.hlen] at p2
          exact p2.change (A := fun id => id < (H ops.size).length ∧ ¬ ((H j).length ≤ id ∧ id < (H (j + 1)).length)) (fun id' hid' => ⟨hid'.1, hm2 id' hid'.2⟩)
            (p2.ids.and (cellsAv id b h1 hk x (List.mem_of_getElem? hq)))
    · intro id b hb hk
      rcases inout id b hb (by omega) with ⟨h1, h2⟩ | ⟨h1, h2, h3⟩
      · rw [hm1 id h2]; exact r'.room id b h1 hk
      · rw [hm2 id h2]
        obtain ⟨q1, q2, q3⟩ := d.wr.room id b h1 hk
        refine ⟨q1, q2, fun p hp => ?_⟩
        rw [World.cell?_of_block (out id b h1 (by omega) h3), World.frozen?_of_block (out id b h1 (by omega) h3)]
        exact q3 p hp
    · intro id b hb hk
      rcases inout id b hb (by omega) with ⟨h1, h2⟩ | ⟨h1, h2, h3⟩
      · rw [hm1 id h2]; exact r'.iter id b h1 hk
      · rw [hm2 id h2, out id b h1 (by omega) h3]; exact d.wr.iter id b h1 hk
    · intro id b hb hk
      rcases inout id b hb hk with ⟨h1, h2⟩ | ⟨h1, h2, h3⟩
      · rw [hm1 id h2]; exact r'.live id b h1 hk
      · rw [hm2 id h2]; exact Nat.lt_of_lt_of_le (d.wr.live id b h1 hk) g.size
    · intro id id' b b' hb hb' hown hk hne
      rcases inout id b hb (Blk.own_live hown) with ⟨h1, h2⟩ | ⟨h1, h2, h3⟩ <;> rcases inout id' b' hb' hk with ⟨k1, k2⟩ | ⟨k1, k2, k3⟩
      · rw [hm1 id h2, hm1 id' k2]; exact r'.apart id id' b b' h1 k1 hown hk hne
      · rw [hm1 id h2, hm2 id' k2]
        have hlv := d.wr.live id' b' k1 hk
        rcases g.owned id b h1 (Blk.own_live hown) with q | ⟨id0, b0, q1, q2, q3, q4⟩
        · omega
        · rw [← q4]
          refine d.wr.apart id0 id' b0 b' (hView id0 b0 q1 q2) k1 (q3 hown) hk ?_
          rintro rfl
          exact q2 (k3 b0 q1)
      · rw [hm2 id h2, hm1 id' k2]
        have hlv := d.wr.live id b h1 (Blk.own_live hown)
        rcases g.owned id' b' k1 hk with q | ⟨id0, b0, q1, q2, q3, q4⟩
        · omega
        · rw [← q4]
          refine d.wr.apart id id0 b b0 h1 (hView id0 b0 q1 q2) hown q2 ?_
          rintro rfl
          exact q2 (h3 b0 q1)
      · rw [hm2 id h2, hm2 id' k2]; exact d.wr.apart id id' b b' h1 k1 hown hk hne
    · intro q hq
      obtain ⟨q1, q2, q3⟩ := d.wr.glob q hq
      obtain ⟨p1, _⟩ := r'.glob q hq
      have hq0 : q < (H (j + 1)).length := by omega
      obtain ⟨_, p2, p3⟩ := r'.glob q hq
      refine ⟨by have : (HS2 H D ops.size j HS).length = (H ops.size).length := by unfold HS2; simp
                 omega, ?_, ?_⟩
      · rw [hm1 q hq0]; exact p2
      · rw [hm1 q hq0]; exact p3
    · intro gi o hg
      refine ⟨(r'.tab gi o hg).1, fun id b hb ho => ?_⟩
      rcases inout id b hb (Blk.own_live ho) with ⟨h1, h2⟩ | ⟨h1, h2, h3⟩
      · rw [hm1 id h2]; exact (r'.tab gi o hg).2 id b h1 ho
      · rw [hm2 id h2]; exact (d.wr.tab gi o hg).2 id b h1 ho
  · refine ⟨?_, ?_, Nat.le_trans d.grow.size g.size,
      ⟨g.io.1.trans d.grow.io.1, g.io.2.1.trans d.grow.io.2.1, g.io.2.2.trans d.grow.io.2.2⟩, ?_, ?_⟩
    · intro id hid
      rw [hm2 id (avoid0 id hid)]; exact d.grow.agree id hid
    · have : (HS2 H D ops.size j HS).length = (H ops.size).length := by unfold HS2; simp
      omega
    · intro q hq hno
      rw [← d.grow.keeps q hq hno]
      refine g.keeps q (Nat.lt_of_lt_of_le hq d.grow.size) fun id2 b2 hb2 ho2 => ?_
      rcases d.grow.owned id2 b2 (hView id2 b2 hb2 (Blk.own_live ho2)) (Blk.own_live ho2) with h | ⟨id0, b0, h1, h2, h3, h4⟩
      · omega
      · rw [← h4]; exact hno id0 b0 h1 (h3 ho2)
    · intro id b hb hk
      rcases inout id b hb hk with ⟨h1, h2⟩ | ⟨h1, h2, h3⟩
      · rw [hm1 id h2]
        rcases g.owned id b h1 hk with h | ⟨id0, b0, q1, q2, q3, q4⟩
        · exact .inl (Nat.le_trans d.grow.size h)
        · rcases d.grow.owned id0 b0 (hView id0 b0 q1 q2) q2 with h | ⟨id1, b1, p1, p2, p3, p4⟩
          · exact .inl (by rw [← q4]; exact h)
          · exact .inr ⟨id1, b1, p1, p2, fun x => p3 (q3 x), p4.trans q4⟩
      · rw [hm2 id h2]; exact d.grow.owned id b h1 hk
end
end Go.Proofs.YtdldekkojjfllaaDoor.Am
namespace Go.Proofs.YtdldekkojjfllaaDoor.Am
open Go
set_option linter.unusedVariables false
set_option linter.unusedSimpArgs false
section
variable {P : Program} {G : Glo} {N : Nat} {ops : Array Oper} {ms : List Nat} {D : List (List Nat)} {T : Nat → Tmps} {H : Nat → Heap} {v : Nat → Value}
theorem DInv.skip {m0 : Map} {w0 : World} {S : Nat → Prop} {a : Act} {w : World} {m : Map} {HS : Heap} (f : DrawFacts P G N ops ms D T H v)
    (d : DInv P G N ops ms D T H v m0 w0 S a w m HS) {j : Nat} {o : Oper} (ho : ops[j]? = some o) (hjS : ¬ S j) (hpre : ∀ p, p ∈ predsM o → S p)
    (hv : v j = undef) (hH : H (j + 1) = H j) (hD : D.getD j [] = []) (hG : ∀ g, g < G.n → g < (H 0).length) :
    ∃ m' HS', DInv P G N ops ms D T H v m0 w0 (fun i => i = j ∨ S i) (a.put o.dst undef) w m' HS' := by
  have hjn : j < ops.size := (Array.getElem?_eq_some_iff.1 ho).1
  have hL0 := f.le (i := 0) (j := j) (by omega) (by omega)
  let V : Heap := List.replicate (H j).length ⟨0, 0, []⟩
  have hVl : V.length = (H j).length := by simp [V]
  have hVd : ∀ (id : Nat) (b : Blk), V[id]? = some b → b.k = 0 := by
    intro id b hb
    obtain ⟨h1, h2⟩ := List.getElem?_eq_some_iff.1 hb
    simp [V] at h2
    rw [← h2]
  have hr : WRel G m V w := d.wr.sub (by rw [hVl, d.hlen]; exact f.le (by omega) (by omega)) (fun g hg => by rw [hVl]; have := hG g hg; omega)
    (fun id b hb hk => absurd (hVd id b hb) hk)
  exact ⟨_, _, d.step f ho hjS hpre (V := V) (h' := V) (v' := undef) (m' := m) (w' := w) hVl (fun id b hb hk => absurd (hVd id b hb) hk)
    (fun i _ _ id _ _ b hb => hVd id b hb) (fun i _ _ _ id _ b hb => hVd id b hb)
    ⟨by rw [hH]; exact Nat.le_refl _, fun id _ _ => by rw [hH], fun id hid => by rw [hD] at hid; simp at hid, fun id hid => by rw [hD] at hid; simp at hid⟩
    ⟨by rw [hH]; exact hVl, fun _ _ _ => rfl, fun id hid => by
      rw [hD] at hid
      rcases hid with hid | hid
      · simp at hid
      · rw [hH, List.getElem?_eq_none (by omega), List.getElem?_eq_none hid]⟩
    (.inr fun i _ _ => ⟨by rw [hv]; exact .tuple _ (fun i h => absurd h (by simp)), fun id b hid hb hk => by
      rw [hD] at hid
      rcases hid with hid | hid
      · simp at hid
      · rw [hH, List.getElem?_eq_none hid] at hb; cases hb⟩)
    (by rw [hv]; exact VRel.undef _ _) hr (Grow.refl _ _ _)⟩
def lS (ops : Array Oper) (listed : Array Bool) (i : Nat) : Prop := i < ops.size ∧ listed.getD i false = true
theorem countP_lt {α : Type} {p q : α → Bool} (l : List α) (h : ∀ x, x ∈ l → p x = true → q x = true) (hx : ∃ x, x ∈ l ∧ q x = true ∧ p x = false) : l.countP p < l.countP q := by
  have mono : ∀ (l : List α), (∀ x, x ∈ l → p x = true → q x = true) → l.countP p ≤ l.countP q := fun l h => List.countP_mono_left h
  induction l with
  | nil => obtain ⟨x, h1, _⟩ := hx; simp at h1
  | cons y l ih =>
    obtain ⟨x, h1, h2, h3⟩ := hx
    simp only [List.countP_cons]
    rcases List.mem_cons.1 h1 with rfl | h1
    · rw [if_neg (by rw [h3]; simp), if_pos h2]
      have := mono l (fun x hx => h x (by simp [hx])); omega
    · have := ih (fun x hx => h x (by simp [hx])) ⟨x, h1, h2, h3⟩
      by_cases hy : p y = true
      · rw [if_pos hy, if_pos (h y (by simp) hy)]; omega
      · rw [if_neg hy]; split <;> omega
theorem draw_any {Q : Exit → Tmps → Heap → Prop} {m0 : Map} {w0 : World} (f : DrawFacts P G N ops ms D T H v) (hG : ∀ g, g < G.n → g < (H 0).length)
    (hQ : Q .normal (T ops.size) (H ops.size)) : ∀ (fuel : Nat) (listed : Array Bool) (a : Act) (w : World), listed.size = ops.size →
    (List.range ops.size).countP (fun i => !listed.getD i false) ≤ fuel →
    (∃ m HS, DInv P G N ops ms D T H v m0 w0 (lS ops listed) a w m HS) →
    wpAny P .any ops (fun e a' w' => ∃ m' T' h', SRel G N m' T' h' a' w' ∧ Grow m0 (H 0) w0 m' h' w' ∧ Q e T' h') fuel listed a w := by
  have done : ∀ (listed : Array Bool) (a : Act) (w : World), (∃ m HS, DInv P G N ops ms D T H v m0 w0 (lS ops listed) a w m HS) →
      (∀ i, i < ops.size → listed.getD i false = true) →
      ∃ m' T' h', SRel G N m' T' h' a w ∧ Grow m0 (H 0) w0 m' h' w ∧ Q .normal T' h' := by
    rintro listed a w ⟨m, HS, d⟩ hall
    have hS : ∀ i, i < ops.size → lS ops listed i := fun i hi => ⟨hi, hall i hi⟩
    have hblk : ∀ (id : Nat) (b : Blk), (H ops.size)[id]? = some b → b.k ≠ 0 → HS[id]? = some b := by
      intro id b hb hk
      rcases f.blk ops.size (Nat.le_refl _) id b hb with ⟨i, h1, h2, h3, h4⟩ | ⟨h1, h2⟩
      · exact d.blk2 id b hk (.inl ⟨i, hS i h1, h2, h3, fun k hk2 hk3 => h4 k hk2.1 hk3⟩)
      · exact d.blk2 id b hk (.inr ⟨fun i hi => h1 i hi.1, h2⟩)
    refine ⟨m, T ops.size, H ops.size, ⟨d.defers, d.size, fun t => ?_, ?_⟩, ?_, hQ⟩
    · obtain ⟨u, hu, hc⟩ := d.tmp t
      have : u = T ops.size t := by
        rcases f.tmp t ops.size (Nat.le_refl _) with ⟨i, o, h1, h2, h3, h4, h5⟩ | ⟨h1, h2⟩ <;> rcases hc with ⟨i', o', g1, g2, g3, rfl, g5⟩ | ⟨g1, rfl, g3⟩
        · have e1 := h5 i' o' g1.1 g2 g3
          have e2 := g5 i o (hS i h1) h2 h3
          have : i = i' := by omega
          subst this; exact h4.symm
        · exact absurd h3 (g1 i o (hS i h1) h2)
        · exact absurd g3 (h1 i' o' g1.1 g2)
        · exact h2.symm
      rw [← this]; exact hu
    · refine d.wr.sub (by rw [d.hlen]; exact Nat.le_refl _) (fun g hg => by have := hG g hg; have := f.le (i := 0) (j := ops.size) (by omega) (by omega); omega) fun id b hb hk => ⟨hblk id b hb hk, fun hk2 x hx => ?_⟩
      rcases d.blk1 id b (hblk id b hb hk) hk with ⟨i, h1, h2, h3, _⟩ | ⟨_, h2⟩
      · refine (d.cells i h1 id b h2 h3 hk2 x hx).mono fun id' hid' => ?_
        have := f.le (i := i + 1) (j := ops.size) (by have := h1.1; omega) (by omega)
        have := hid'.1
        omega
      · refine (d.base id b h2 hk2 x hx).mono fun id' hid' => ?_
        have := f.le (i := 0) (j := ops.size) (by omega) (by omega)
        omega
    · refine ⟨d.grow.agree, f.le (by omega) (by omega), d.grow.size, d.grow.io, d.grow.keeps, fun id b hb hk => d.grow.owned id b (hblk id b hb hk) hk⟩
  intro fuel
  induction fuel with
  | zero =>
    intro listed a w hsz hc hd
    have hall : ∀ i, i < ops.size → listed.getD i false = true := by
      intro i hi
      have h0 : (List.range ops.size).countP (fun i => !listed.getD i false) = 0 := by omega
      rw [List.countP_eq_zero] at h0
      have := h0 i (by simpa using hi)
      simpa using this
    refine ⟨?_, done listed a w hd hall⟩
    rw [List.eq_nil_iff_forall_not_mem]
    intro i hi
    rw [mem_ready] at hi
    obtain ⟨h1, o, ho, _⟩ := hi
    have hin := (Array.getElem?_eq_some_iff.1 ho).1
    have := hall i hin
    simp only [Array.getD_eq_getD_getElem?] at h1 this
    rw [Array.getElem?_eq_getElem (by omega)] at h1 this
    simp at h1 this
    rw [h1] at this; cases this
  | succ fuel ih =>
    intro listed a w hsz hc hd
    refine ⟨fun hr => done listed a w hd ?_, fun j hj => ?_⟩
    · intro i
      induction i using Nat.strongRecOn with
      | _ i ihi =>
        intro hi
        cases hq : listed.getD i false with
        | true => rfl
        | false =>
          exfalso
          obtain ⟨o, ho⟩ : ∃ o, ops[i]? = some o := ⟨_, Array.getElem?_eq_getElem hi⟩
          have : i ∈ Region.ready .any ops listed := by
            rw [mem_ready]
            refine ⟨?_, o, ho, fun e he hb => ?_⟩
            · simp only [Array.getD_eq_getD_getElem?] at hq ⊢
              rw [Array.getElem?_eq_getElem (by omega)] at hq ⊢
              simpa using hq
            · have hp : e.on ∈ predsM o := by
                unfold predsM
                exact List.mem_map.2 ⟨e, List.mem_filter.2 ⟨by simpa using he, hb⟩, rfl⟩
              have hlt := (f.okAt ho).2.1 _ hp
              exact ihi e.on hlt (by omega)
          rw [hr] at this; simp at this
    · obtain ⟨m, HS, d⟩ := hd
      rw [mem_ready] at hj
      obtain ⟨hj1, o, ho, hj2⟩ := hj
      have hjn := (Array.getElem?_eq_some_iff.1 ho).1
      have hjS : ¬ lS ops listed j := by
        rintro ⟨_, h⟩
        simp only [Array.getD_eq_getD_getElem?] at h hj1
        rw [Array.getElem?_eq_getElem (by omega)] at h hj1
        simp at h hj1
        rw [h] at hj1; cases hj1
      have hpre : ∀ p, p ∈ predsM o → lS ops listed p := by
        intro p hp
        have hlt := (f.okAt ho).2.1 _ hp
        unfold predsM at hp
        obtain ⟨e, he, rfl⟩ := List.mem_map.1 hp
        obtain ⟨he1, he2⟩ := List.mem_filter.1 he
        exact ⟨by omega, hj2 e (by simpa using he1) he2⟩
      have hS2 : (fun i => i = j ∨ lS ops listed i) = lS ops (listed.setIfInBounds j true) := by
        funext i
        apply propext
        unfold lS
        by_cases hij : i = j
        · subst hij
          simp only [true_or, true_iff]
          refine ⟨hjn, ?_⟩
          rw [Array.getD_eq_getD_getElem?, Array.getElem?_setIfInBounds_self_of_lt (by omega)]; rfl
        · simp only [hij, false_or]
          rw [Array.getD_eq_getD_getElem?, Array.getD_eq_getD_getElem?, Array.getElem?_setIfInBounds_ne (Ne.symm hij)]
      have next : ∀ (a' : Act) (w' : World), (∃ m' HS', DInv P G N ops ms D T H v m0 w0 (fun i => i = j ∨ lS ops listed i) a' w' m' HS') →
          wpAny P .any ops (fun e a' w' => ∃ m' T' h', SRel G N m' T' h' a' w' ∧ Grow m0 (H 0) w0 m' h' w' ∧ Q e T' h') fuel (listed.setIfInBounds j true) a' w' := by
        intro a' w' hd'
        rw [hS2] at hd'
        refine ih _ a' w' (by simp [hsz]) ?_ hd'
        have : (List.range ops.size).countP (fun i => !(listed.setIfInBounds j true).getD i false) < (List.range ops.size).countP (fun i => !listed.getD i false) := by
          refine countP_lt _ (fun x hx hp => ?_) ⟨j, by simpa using hjn, ?_, ?_⟩
          · by_cases hxj : x = j
            · subst hxj
              rw [Array.getD_eq_getD_getElem?, Array.getElem?_setIfInBounds_self_of_lt (by omega)] at hp
              simp at hp
            · rw [Array.getD_eq_getD_getElem?, Array.getElem?_setIfInBounds_ne (Ne.symm hxj), ← Array.getD_eq_getD_getElem?] at hp
              exact hp
          · cases hq : listed.getD j false with
            | true => exact absurd ⟨hjn, hq⟩ hjS
            | false => rfl
          · rw [Array.getD_eq_getD_getElem?, Array.getElem?_setIfInBounds_self_of_lt (by omega)]; rfl
        omega
      have hok := (f.okAt ho).1
      -- the guard
      have hwant : Region.wanted o (yielded ops a.tmps) = wantedA ops (T j) o := by
        unfold wantedA Region.wanted
        cases hg : o.guard with
        | none => rfl
        | some p =>
          obtain ⟨q, want⟩ := p
          simp only
          unfold yielded yieldedA
          cases ht : (ops[q]?).bind (·.dst) with
          | none => rfl
          | some t =>
            have hlk : looksB ops o t = true := by
              unfold looksB; rw [hg]; simp [ht]
            have hv := d.tmpAt f ho hjS hpre hlk
            have htN : t < N := by
              simp only [operOk, hg, ht, Bool.and_eq_true, decide_eq_true_eq] at hok
              exact hok.2
            have hgx : a.tmps[t]? = some (a.tmps.getD t undef) := by
              rw [Array.getD_eq_getD_getElem?, Array.getElem?_eq_getElem (by rw [d.size]; exact htN)]; rfl
            simp only [Option.bind_some, Option.map_some, hgx]
            generalize a.tmps.getD t undef = x at hv
            generalize T j t = u at hv
            cases hv <;> rfl
      unfold wpOp
      rw [ho]
      simp only
      rw [hwant]
      rcases f.text.op j o ho (Nat.zero_le _) with ⟨hw, V, ⟨hV0, hV1, hV2, hV3⟩, hA, hSC, hop⟩ | ⟨hw, hvu, hH, hD⟩
      · rw [if_pos hw]
        left
        have hview := d.view f ho hjS hpre hV0 hV1 hV2 hV3
        have hrV : WRel G m V w := d.wr.sub (by rw [hV0, d.hlen]; exact f.le (by omega) (by omega))
          (fun g hg => by rw [hV0]; have := hG g hg; have := f.le (i := 0) (j := j) (by omega) (by omega); omega) hview
        have hor : ORel V.length m (T j) a o := by
          intro x hx
          have hxok : opnOk G x = true := by
            simp only [operOk, Bool.and_eq_true] at hok
            have := hok.1.1
            rw [Array.all_eq_true] at this
            obtain ⟨i, hi, rfl⟩ := Array.mem_iff_getElem.1 hx
            exact this i hi
          cases x with
          | tmp t =>
            rw [hV0]
            refine d.tmpAt f ho hjS hpre ?_
            unfold looksB
            rw [Bool.or_eq_true]
            left
            rw [Array.any_eq_true]
            obtain ⟨i, hi, hxe⟩ := Array.mem_iff_getElem.1 hx
            exact ⟨i, hi, by rw [hxe]; simp [opTmp]⟩
          | const c => exact VRel.const _ _ hxok
          | global gg =>
            simp only [opnOk, decide_eq_true_eq] at hxok
            obtain ⟨h1, h2, h3⟩ := hrV.glob gg hxok
            simp only [ev, Act.eval]
            have hpl : place m ⟨gg, 0, none⟩ = ⟨gg, 0, none⟩ := by unfold place; simp only [h2, h3]
            have h4 := VRel.ptr (n := V.length) (m := m) ⟨gg, 0, none⟩ rfl h1
            rw [hpl] at h4; exact h4
          | func fn => exact .func _ _ _ _ _ rfl rfl (fun i hi _ => absurd hi (by simp)) (fun i hi _ => absurd hi (by simp))
        refine Oper.wp_mono ?_ (hop m a w hor hrV _)
        rintro a' w' ⟨vv, v', m', h', rfl, hvv, hr', hg', rfl, hB⟩
        exact next _ _ ⟨_, _, d.step f ho hjS hpre hV0 (fun id b hb hk => (hview id b hb hk).1) hV2 hV3 hA hB hSC hvv hr' hg'⟩
      · rw [if_neg (by rw [hw]; simp)]
        exact next _ _ (d.skip f ho hjS hpre hvu hH hD hG)
/-- A region whose order is open is walked in the order of its text. -/
theorem aw_draw {Q : Exit → Tmps → Heap → Prop} {T : Tmps} {h : Heap} {id : Nat} {ops : Array Oper} (hm : P.follows .mixedOrders = true) (D : List (List Nat))
    (hok : drawOk G N ops (ancM ops.toList []) = true) (hd : ADraw P G ops (ancM ops.toList []) D Q ops.toList 0 T h []) : AW P G N (.region id ops true) Q T h := by
  intro m a w s
  obtain ⟨TT, HH, vv, h1, h2, h3, h4⟩ := text_of_adraw (P := P) (G := G) (Q := Q) (ops := ops) ops.toList 0 (fun _ => T) (fun _ => h) [] (by simp) rfl (by intro i hi; omega) hd
  have hT0 : TT 0 = T := h1 0 (Nat.le_refl _)
  have hH0 : HH 0 = h := h2 0 (Nat.le_refl _)
  have f : DrawFacts P G N ops (ancM ops.toList []) D TT HH vv := ⟨h3, rfl, hok⟩
  have hl : 0 + ops.toList.length = ops.size := by simp
  rw [hl] at h4
  refine wp_region_any hm ?_
  have hL := f.le (i := 0) (j := ops.size) (by omega) (by omega)
  rw [hH0] at hL
  have hw : ({ w with drawn := w.drawn + 1 } : World) = w.drew := rfl
  rw [hw]
  have hgoal := draw_any (P := P) (G := G) (N := N) (m0 := m) (w0 := w) f (fun g hg => by rw [hH0]; exact (s.wr.glob g hg).1) h4 ops.size (Array.replicate ops.size false) a w.drew
    (by simp) (by have := List.countP_le_length (p := fun i => !(Array.replicate ops.size false).getD i false) (l := List.range ops.size); simpa using this) ?_
  · rw [hH0] at hgoal; exact hgoal
  · have hnS : ∀ i, ¬ lS ops (Array.replicate ops.size false) i := by
      rintro i ⟨h1, h2⟩
      rw [Array.getD_eq_getD_getElem?, Array.getElem?_replicate, if_pos h1] at h2
      simp at h2
    have hget : ∀ (id : Nat) (b : Blk), (h ++ List.replicate ((HH ops.size).length - h.length) (⟨0, 0, []⟩ : Blk))[id]? = some b → b.k ≠ 0 → h[id]? = some b := by
      intro id b hb hk
      by_cases hid : id < h.length
      · rw [List.getElem?_append_left hid] at hb; exact hb
      · rw [List.getElem?_append_right (by omega), List.getElem?_replicate] at hb
        split at hb
        · cases hb; exact absurd rfl hk
        · cases hb
    have hlen : (h ++ List.replicate ((HH ops.size).length - h.length) (⟨0, 0, []⟩ : Blk)).length = (HH ops.size).length := by simp; omega
    have hr := s.wr.drew
    refine ⟨m, h ++ List.replicate ((HH ops.size).length - h.length) ⟨0, 0, []⟩, ⟨fun i o hi => absurd hi (hnS i), fun i hi => hi.1, s.defers, s.size, fun t => ?_,
      fun i hi => absurd hi (hnS i), fun i hi => absurd hi (hnS i), ?_, hlen, ?_, ?_, ?_, ?_⟩⟩
    · refine ⟨T t, (s.tmp t).mono hL (Agree.refl _ _), .inr ⟨fun i o hi => absurd hi (hnS i), by rw [hT0], ?_⟩⟩
      rw [hH0]; exact (s.tmp t).ids
    · rw [hH0]
      intro id b hb hk x hx
      obtain ⟨q, hq⟩ := List.getElem?_of_mem hx
      obtain ⟨x', _, p2, _⟩ := hr.cell id b hb hk q x hq
      exact p2.ids
    · intro id b hb hk
      rw [hH0]
      exact .inr ⟨fun i hi => absurd hi (hnS i), hget id b hb hk⟩
    · intro id b hk hc
      rcases hc with ⟨i, hi, _⟩ | ⟨_, hb⟩
      · exact absurd hi (hnS i)
      · rw [hH0] at hb
        rw [List.getElem?_append_left (lt_of_get hb)]; exact hb
    · refine ⟨?_, ?_, ?_, ?_, ?_, fun g hg => ?_, fun g o hg => ⟨(hr.tab g o hg).1, fun id b hb ho => (hr.tab g o hg).2 id b (hget id b hb (Blk.own_live ho)) ho⟩⟩
      · intro id b hb hk q x hq
        obtain ⟨x', p1, p2, p3⟩ := hr.cell id b (hget id b hb (by omega)) hk q x hq
        exact ⟨x', p1, p2.mono (by rw [hlen]; exact hL) (Agree.refl _ _), p3⟩
      · intro id b hb hk; exact hr.room id b (hget id b hb (by omega)) hk
      · intro id b hb hk; exact hr.iter id b (hget id b hb (by omega)) hk
      · intro id b hb hk; exact hr.live id b (hget id b hb hk) hk
      · intro i i' x x' hx hx' ho hk hne
        exact hr.apart i i' x x' (hget i x hx (Blk.own_live ho)) (hget i' x' hx' hk) ho hk hne
      · obtain ⟨q1, q2⟩ := hr.glob g hg
        exact ⟨by rw [hlen]; omega, q2⟩
    · rw [hH0]
      have g0 := Grow.drew m h w
      exact ⟨g0.agree, by rw [hlen]; exact hL, g0.size, g0.io, g0.keeps, fun id b hb hk => g0.owned id b (hget id b hb hk) hk⟩
end
end Go.Proofs.YtdldekkojjfllaaDoor.Am
namespace Go.Proofs.YtdldekkojjfllaaDoor.Am
open Go
set_option linter.unusedVariables false
set_option linter.unusedSimpArgs false
section
variable {P : Program} {G : Glo} {N : Nat} {Q : Exit → Tmps → Heap → Prop} {ops : Array Oper} {T : Tmps} {h : Heap} {o : Oper} {rest : List Oper}
/-- A region's operations, all well formed. -/
def AR (P : Program) (G : Glo) (ops : Array Oper) (Q : Exit → Tmps → Heap → Prop) : List Oper → Tmps → Heap → Prop
  | [], T, h => Q .normal T h
  | o :: rest, T, h =>
      (wantedA ops T o = true → AOp P G o T h fun v h' => AR P G ops Q rest (put T o.dst v) h') ∧
      (wantedA ops T o = false → AR P G ops Q rest (put T o.dst undef) h)
theorem arun_of (l : List Oper) : ∀ {T : Tmps} {h : Heap}, (l.all fun o => operOk G N ops o) = true → AR P G ops Q l T h → ARun P G N ops Q l T h := by
  induction l with
  | nil => intro T h _ hr; exact hr
  | cons o rest ih =>
    intro T h hall hr
    simp only [List.all_cons, Bool.and_eq_true] at hall
    exact ⟨hall.1, fun hw => AOp.mono (fun v h' k => ih hall.2 k) (hr.1 hw), fun hw => ih hall.2 (hr.2 hw)⟩
theorem aw_reg {id : Nat} {l : List Oper} (hall : (l.all fun o => operOk G N l.toArray o) = true) (hr : AR P G l.toArray Q l T h) :
    AW P G N (.region id l.toArray false) Q T h := aw_region (arun_of l hall hr)
theorem beq_eq_decide' (a b : Int) : (a == b) = decide (a = b) := by
  by_cases h : a = b <;> simp [h]
theorem ar_op {v : Value} {h' : Heap} (hw : wantedA ops T o = true) (hs : stp P h (ev T) o.op = some (v, h')) (hk : AR P G ops Q rest (put T o.dst v) h') :
    AR P G ops Q (o :: rest) T h :=
  ⟨fun _ => aop_stp hs hk, fun hn => absurd (hw.symm.trans hn) (by simp)⟩
theorem ar_call {c : Call} {fo : Operand} {f : FuncId} {fs cs : Array Value} {K : Value → Heap → Prop} (hw : wantedA ops T o = true)
    (ho : o.op = .call c) (hf : c.callee = .value fo) (hv : ev T fo = .func (.func f) fs cs) (hc : callOk P f = true)
    (ha : ACalls P G f (fs ++ c.args.map (ev T) ++ cs) h K) (hk : ∀ v h', K v h' → AR P G ops Q rest (put T o.dst v) h') : AR P G ops Q (o :: rest) T h :=
  ⟨fun _ => (aop_call ho hf hv hc ha).mono hk, fun hn => absurd (hw.symm.trans hn) (by simp)⟩
theorem acalls_fn {f : FuncId} {fn : Func} {c : Code} {args : Array Value} {K : Value → Heap → Prop} (hf : P.funcs[f]? = some fn) (hb : fn.body = some c) (hN : fn.ntmps = N)
    (hn : args.size ≤ N) {rs : List ResultVar} (hr : fn.results.toList = rs) (hw : AW P G N c (retK P rs K) (argT args) h) : ACalls P G f args h K := by
  subst hN; subst hr; exact acalls_of hf hb hn hw
theorem aw_then {x y : Code} (hx : AW P G N x (thenK (fun T h => AW P G N y Q T h) Q) T h) : AW P G N (.seq x y) Q T h :=
  aw_seq fun K hK => AW.mono (fun e T h q => by cases e <;> first | exact hK _ _ q | exact q) hx
theorem k_norm {K : Tmps → Heap → Prop} (hk : K T h) : thenK K Q .normal T h := hk
theorem k_ret {K : Tmps → Heap → Prop} (hk : Q .ret T h) : thenK K Q .ret T h := hk
theorem k_exit {K : Tmps → Heap → Prop} {id : Nat} (hk : Q (.exit id) T h) : thenK K Q (.exit id) T h := hk
theorem b_norm {id : Nat} (hk : Q .normal T h) : blockK id Q .normal T h := hk
theorem b_ret {id : Nat} (hk : Q .ret T h) : blockK id Q .ret T h := hk
theorem b_exit {id : Nat} (hk : Q .normal T h) : blockK id Q (.exit id) T h := by
  simpa only [blockK, if_true] using hk
theorem b_past {id id' : Nat} (hne : id' ≠ id) (hk : Q (.exit id') T h) : blockK id Q (.exit id') T h := by
  simp only [blockK]; rw [if_neg hne]; exact hk
theorem r_ret {rs : List ResultVar} {K : Value → Heap → Prop} {vs : List Value} (hr : resV P h T rs = some vs) (hk : K (oneOf vs) h) : retK P rs K .ret T h := ⟨vs, hr, hk⟩
theorem wanted_none (hg : o.guard = none) : wantedA ops T o = true := by unfold wantedA Region.wanted; rw [hg]
theorem wanted_some {g t : Nat} {want b : Bool} (hg : o.guard = some (g, want)) (hd : ((ops[g]?).bind (·.dst)) = some t) (hb : ev T (.tmp t) = .bool b) :
    wantedA ops T o = (b == want) := by
  unfold wantedA Region.wanted
  rw [hg]
  simp only [yieldedA, hd, Option.map_some]
  simp only [ev] at hb
  rw [hb]
  cases b <;> cases want <;> rfl
/-- An operation that is done. -/
theorem ar_do {v : Value} {h' : Heap} (hg : o.guard = none) (hs : stp P h (ev T) o.op = some (v, h')) (hk : AR P G ops Q rest (put T o.dst v) h') :
    AR P G ops Q (o :: rest) T h := ar_op (wanted_none hg) hs hk
theorem ar_cl {c : Call} {fo : Operand} {f : FuncId} {fs cs args : Array Value} {K : Value → Heap → Prop} (hg : o.guard = none)
    (ho : o.op = .call c) (hf : c.callee = .value fo) (hv : ev T fo = .func (.func f) fs cs) (hc : callOk P f = true) (hargs : fs ++ c.args.map (ev T) ++ cs = args)
    (ha : ACalls P G f args h K) (hk : ∀ v h', K v h' → AR P G ops Q rest (put T o.dst v) h') : AR P G ops Q (o :: rest) T h :=
  ar_call (wanted_none hg) ho hf hv hc (by rw [hargs]; exact ha) hk
theorem argT_list (l : List Value) (t : Nat) : argT l.toArray t = l.getD t undef := by
  simp [argT, Array.getD_eq_getD_getElem?, List.getD_eq_getElem?_getD]
/-! ### memories that are an old one and some blocks -/
theorem get_at (l : Heap) (k : Nat) : (h ++ l)[h.length + k]? = l[k]? := by
  rw [List.getElem?_append_right (by omega)]; congr 1; omega
theorem get_at0 (l : Heap) : (h ++ l)[h.length]? = l[0]? := by have := get_at (h := h) l 0; rw [Nat.add_zero] at this; exact this
theorem get_old {l : Heap} {id : Nat} {b : Blk} (hb : h[id]? = some b) : (h ++ l)[id]? = some b := by
  rw [List.getElem?_append_left (lt_of_get hb)]; exact hb
theorem set_at (l : Heap) (k : Nat) (b : Blk) : (h ++ l).set (h.length + k) b = h ++ l.set k b := by
  rw [List.set_append_right _ _ (by omega)]; congr 2; omega
theorem set_at0 (l : Heap) (b : Blk) : (h ++ l).set h.length b = h ++ l.set 0 b := by have := set_at (h := h) l 0 b; rw [Nat.add_zero] at this; exact this
theorem wrap_id {n : Int} (h : -9223372036854775808 ≤ n ∧ n ≤ 9223372036854775807) : IntKind.i64.wrap n = n := by
  rw [IntKind.wrap_i64]; omega
/-! ### numbers and tests as the machine has them -/
section
variable (xo yo : Operand) (t : TypeId) (a b : Int) (k : IntKind)
theorem binV_add : binV P .add t xo yo (.int k a) (.int k b) = some (.int k (k.wrap (a + b))) := by
  simp [binV, af1, ckd, af, eqGuard, binOp, Op.intArith, pureRun_bind, pureRun_pure]
theorem binV_sub : binV P .sub t xo yo (.int k a) (.int k b) = some (.int k (k.wrap (a - b))) := by
  simp [binV, af1, ckd, af, eqGuard, binOp, Op.intArith, pureRun_bind, pureRun_pure]
theorem binV_mul : binV P .mul t xo yo (.int k a) (.int k b) = some (.int k (k.wrap (a * b))) := by
  simp [binV, af1, ckd, af, eqGuard, binOp, Op.intArith, pureRun_bind, pureRun_pure]
theorem binV_and : binV P .and t xo yo (.int k a) (.int k b) = some (.int k (bits .and k a b)) := by
  simp [binV, af1, ckd, af, eqGuard, binOp, intBits_and, pureRun_bind, pureRun_pure]
theorem binV_shr (k' : IntKind) (hb : 0 ≤ b) : binV P .shr t xo yo (.int k a) (.int k' b) = some (.int k (a.fdiv (2 ^ min b.toNat k.bits))) := by
  have hn : ¬ b < 0 := by omega
  simp [binV, af1, ckd, af, eqGuard, binOp, Op.shift, pureRun_bind, pureRun_pure, hn]
theorem binV_shl (k' : IntKind) (hb : 0 ≤ b) : binV P .shl t xo yo (.int k a) (.int k' b) = some (.int k (k.wrap (a * 2 ^ min b.toNat k.bits))) := by
  have hn : ¬ b < 0 := by omega
  simp [binV, af1, ckd, af, eqGuard, binOp, Op.shift, pureRun_bind, pureRun_pure, hn]
theorem binV_eql : binV P .eql t xo yo (.int k a) (.int k b) = some (.bool (decide (a = b))) := by
  simp [binV, af1, ckd, af, eqGuard, binOp, Op.intCmp, pureRun_bind, pureRun_pure, beq_eq_decide']
theorem binV_neq : binV P .neq t xo yo (.int k a) (.int k b) = some (.bool (!decide (a = b))) := by
  simp [binV, af1, ckd, af, eqGuard, binOp, Op.intCmp, pureRun_bind, pureRun_pure, bne, beq_eq_decide']
theorem binV_lss : binV P .lss t xo yo (.int k a) (.int k b) = some (.bool (decide (a < b))) := by
  simp [binV, af1, ckd, af, eqGuard, binOp, Op.intCmp, pureRun_bind, pureRun_pure]
theorem binV_leq : binV P .leq t xo yo (.int k a) (.int k b) = some (.bool (decide (a ≤ b))) := by
  simp [binV, af1, ckd, af, eqGuard, binOp, Op.intCmp, pureRun_bind, pureRun_pure]
theorem binV_gtr : binV P .gtr t xo yo (.int k a) (.int k b) = some (.bool (decide (b < a))) := by
  simp [binV, af1, ckd, af, eqGuard, binOp, Op.intCmp, pureRun_bind, pureRun_pure]
theorem binV_geq : binV P .geq t xo yo (.int k a) (.int k b) = some (.bool (decide (b ≤ a))) := by
  simp [binV, af1, ckd, af, eqGuard, binOp, Op.intCmp, pureRun_bind, pureRun_pure]
theorem unV_not (c : Bool) : unV P .not (.bool c) = some (.bool !c) := by
  simp [unV, af1, ckd, af, Op.unary, pureRun_pure]
theorem binV_str_eql (s u : ByteArray) : binV P .eql t xo yo (.string s) (.string u) = some (.bool (decide (s = u))) := by
  have : (s.toList == u.toList) = decide (s = u) := by
    rw [ByteArray.toList_eq, ByteArray.toList_eq]
    rw [Bool.eq_iff_iff, beq_iff_eq, decide_eq_true_eq]
    constructor
    · intro h
      obtain ⟨⟨x⟩⟩ := s
      obtain ⟨⟨y⟩⟩ := u
      simp at h; subst h; rfl
    · intro h; rw [h]
  simp [binV, af1, ckd, af, eqGuard, binOp, Op.stringOp, pureRun_bind, pureRun_pure, this]
theorem binV_str_neq (s u : ByteArray) : binV P .neq t xo yo (.string s) (.string u) = some (.bool (!decide (s = u))) := by
  have : (s.toList == u.toList) = decide (s = u) := by
    rw [ByteArray.toList_eq, ByteArray.toList_eq]
    rw [Bool.eq_iff_iff, beq_iff_eq, decide_eq_true_eq]
    constructor
    · intro h
      obtain ⟨⟨x⟩⟩ := s
      obtain ⟨⟨y⟩⟩ := u
      simp at h; subst h; rfl
    · intro h; rw [h]
  simp [binV, af1, ckd, af, eqGuard, binOp, Op.stringOp, pureRun_bind, pureRun_pure, this]
theorem binV_str_add (s u : ByteArray) (hs : ((s.size + u.size : Nat) : Int) ≤ 9223372036854775807) : binV P .add t xo yo (.string s) (.string u) = some (.string (s ++ u)) := by
  have hn : ¬ ((9223372036854775807 : Int) < (s.size : Int) + u.size) := by omega
  simp [binV, af1, ckd, af, eqGuard, binOp, Op.stringOp, pureRun_bind, pureRun_pure, pureRun_ite, hn]
theorem binV_bool_eql (hu : P.underlying t = some .bool) (c d : Bool) : binV P .eql t xo yo (.bool c) (.bool d) = some (.bool (c == d)) := by
  have he : pureRun P (Op.equalIn (9999 + 1) t (.bool c) (.bool d)) = some (c == d) := by
    have gen : ∀ n, pureRun P (Op.equalIn (n + 1) t (.bool c) (.bool d)) = some (c == d) := by
      intro n
      simp [Op.equalIn, pureRun_bind, underlying, program, pureRun, hu]
      rfl
    exact gen 9999
  have e1 : (do eqGuard .eql t xo yo (.bool c) (.bool d); binOp .eql t (.bool c) (.bool d) : Sem Value) = (do pure (.bool (← Op.equalIn (9999 + 1) t (.bool c) (.bool d)))) := rfl
  simp only [binV, af1, Bool.and_self, if_true]
  rw [e1, pureRun_bind, he]
  rfl
theorem binV_bool_neq (hu : P.underlying t = some .bool) (c d : Bool) : binV P .neq t xo yo (.bool c) (.bool d) = some (.bool (!(c == d))) := by
  have he : pureRun P (Op.equalIn (9999 + 1) t (.bool c) (.bool d)) = some (c == d) := by
    have gen : ∀ n, pureRun P (Op.equalIn (n + 1) t (.bool c) (.bool d)) = some (c == d) := by
      intro n
      simp [Op.equalIn, pureRun_bind, underlying, program, pureRun, hu]
      rfl
    exact gen 9999
  have e1 : (do eqGuard .neq t xo yo (.bool c) (.bool d); binOp .neq t (.bool c) (.bool d) : Sem Value) = (do pure (.bool (!(← Op.equalIn (9999 + 1) t (.bool c) (.bool d))))) := rfl
  simp only [binV, af1, Bool.and_self, if_true]
  rw [e1, pureRun_bind, he]
  rfl
end
/-! ### from a walk to a law -/
theorem calls_of_acalls {f : FuncId} {args args' : Array Value} {m : Map} {h0 : Heap} {W : World} (hc : ACalls P G f args h0 fun v _ => v = .bool true)
    (hs : args.size = args'.size) (hr : ∀ (i : Nat) (h1 : i < args.size) (h2 : i < args'.size), VRel h0.length m args[i] args'[i]) (r : WRel G m h0 W)
    (hno : ∀ (id : Nat) (b : Blk), h0[id]? = some b → ¬ b.own) : Calls P f args' W fun e W' => e = .returned (.bool true) ∧ Go.RowKit.Below W.heap.size W W' := by
  refine (hc m args' W hs hr r).mono ?_
  rintro e W' ⟨v, v', m', h', rfl, hv, r', g, rfl⟩
  rw [inv_bool hv]
  exact ⟨rfl, g.io.1, g.io.2.1, g.io.2.2, g.size, fun k hk => g.keeps k hk fun id b hb ho => absurd ho (hno id b hb)⟩
end
end Go.Proofs.YtdldekkojjfllaaDoor.Am
namespace Go.Proofs.YtdldekkojjfllaaDoor.Am
open Go
set_option linter.unusedVariables false
set_option linter.unusedSimpArgs false
section
variable {P : Program} {G : Glo} {N : Nat} {Q : Exit → Tmps → Heap → Prop} {T : Tmps} {h : Heap}
/-- A slice whose elements are the rows, each of e cells. -/
def Sl (h : Heap) (v : Value) (e : Nat) (rows : List (List Value)) : Prop :=
  ∃ b c, v = .slice b rows.length c ∧ rows.length ≤ c ∧ ∀ i r, rows[i]? = some r → ∃ a, b = some a ∧ loadCs h a.block (a.off + i * e) e = some r
theorem Sl.flat {v : Value} {e : Nat} {rows : List (List Value)} (hs : Sl h v e rows) : Am.flat v = true := by obtain ⟨b, c, rfl, _⟩ := hs; rfl
/-! ### memories that are an old one and new blocks: what simp needs -/
theorem flat_int (k : IntKind) (n : Int) : flat (.int k n) = true := rfl
theorem flat_bool (b : Bool) : flat (.bool b) = true := rfl
theorem flat_string (s : ByteArray) : flat (.string s) = true := rfl
theorem flat_slice (b : Option Addr) (l c : Nat) : flat (.slice b l c) = true := rfl
theorem flat_pointer (b : Option Addr) : flat (.pointer b) = true := rfl
theorem flat_func (f : Fn) (a b : Array Value) : flat (.func f a b) = true := rfl
theorem flat_nilFunc : flat .nilFunc = true := rfl
theorem getC_at (l : Heap) (k o : Nat) : getC (h ++ l) (h.length + k) o = getC l k o := by unfold getC; rw [get_at]
theorem getC_at0 (l : Heap) (o : Nat) : getC (h ++ l) h.length o = getC l 0 o := by unfold getC; rw [get_at0]
theorem getC_zero (e o : Nat) (cs : List Value) (l : Heap) : getC (⟨2, e, cs⟩ :: l) 0 o = cs[o]? := by unfold getC; simp
theorem getC_succ (b : Blk) (l : Heap) (n o : Nat) : getC (b :: l) (n + 1) o = getC l n o := by unfold getC; simp
theorem loadCs_at (l : Heap) (k o n : Nat) : loadCs (h ++ l) (h.length + k) o n = loadCs l k o n := by unfold loadCs; rw [get_at]
theorem loadCs_at0 (l : Heap) (o n : Nat) : loadCs (h ++ l) h.length o n = loadCs l 0 o n := by unfold loadCs; rw [get_at0]
theorem loadCs_zero (e o n : Nat) (cs : List Value) (l : Heap) : loadCs (⟨2, e, cs⟩ :: l) 0 o n = if o + n ≤ cs.length then some ((cs.drop o).take n) else none := by unfold loadCs; simp
theorem loadCs_succ (b : Blk) (l : Heap) (k o n : Nat) : loadCs (b :: l) (k + 1) o n = loadCs l k o n := by unfold loadCs; simp
theorem setCs_at (l : Heap) (k o : Nat) (vs : List Value) : setCs (h ++ l) (h.length + k) o vs = (setCs l k o vs).map (h ++ ·) := by
  unfold setCs
  rw [get_at]
  cases l[k]? with
  | none => rfl
  | some b => simp only; split <;> simp [set_at]
theorem setCs_at0 (l : Heap) (o : Nat) (vs : List Value) : setCs (h ++ l) h.length o vs = (setCs l 0 o vs).map (h ++ ·) := by
  have := setCs_at (h := h) l 0 o vs; rw [Nat.add_zero] at this; exact this
theorem setCs_zero (e o : Nat) (cs : List Value) (l : Heap) (vs : List Value) : setCs (⟨2, e, cs⟩ :: l) 0 o vs = if o + vs.length ≤ cs.length then some (⟨2, e, splice cs o vs⟩ :: l) else none := by
  unfold setCs; simp
theorem setCs_succ (b : Blk) (l : Heap) (k o : Nat) (vs : List Value) : setCs (b :: l) (k + 1) o vs = (setCs l k o vs).map (b :: ·) := by
  unfold setCs
  simp only [List.getElem?_cons_succ]
  cases l[k]? with
  | none => rfl
  | some b' => simp only; split <;> simp
theorem loadCs_old {id o n : Nat} {r : List Value} (hl : loadCs h id o n = some r) (l : Heap) : loadCs (h ++ l) id o n = some r := by
  unfold loadCs at hl ⊢
  cases hb : h[id]? with
  | none => rw [hb] at hl; simp at hl
  | some b => rw [hb] at hl; rw [get_old hb]; exact hl
theorem Sl.old {v : Value} {e : Nat} {rows : List (List Value)} (hs : Sl h v e rows) (l : Heap) : Sl (h ++ l) v e rows := by
  obtain ⟨b, c, h1, h2, h3⟩ := hs
  exact ⟨b, c, h1, h2, fun i r hr => by obtain ⟨a, q1, q2⟩ := h3 i r hr; exact ⟨a, q1, loadCs_old q2 l⟩⟩
/-- A loop that counts up to a bound. -/
theorem aw_count {c : Code} (I : Nat → Tmps → Heap → Prop) (n : Nat) {k0 : Nat} (hk0 : k0 ≤ n) (h0 : I k0 T h)
    (round : ∀ k T h, k ≤ n → I k T h → AW P G N c (thenK (fun T' h' => k < n ∧ I (k + 1) T' h') Q) T h) : AW P G N (.loop c) Q T h := by
  refine aw_loop (n := n - k0) (fun m T h => ∃ k, k ≤ n ∧ m = n - k ∧ I k T h) ⟨k0, hk0, rfl, h0⟩ ?_
  rintro m T h ⟨k, hk, rfl, hi⟩
  refine AW.mono (fun e T' h' q => ?_) (round k T h hk hi)
  cases e with
  | normal => exact ⟨n - (k + 1), by have := q.1; omega, k + 1, by have := q.1; omega, rfl, q.2⟩
  | _ => exact q
/-- The same, with temporaries that the loop leaves alone. -/
theorem aw_for {c : Code} (R : List Nat) (I : Nat → Tmps → Heap → Prop) (n : Nat) {k0 : Nat} (hk0 : k0 ≤ n) (h0 : I k0 T h)
    (round : ∀ k T' h', k ≤ n → (∀ t ∈ R, T' t = T t) → I k T' h' → AW P G N c (thenK (fun T'' h'' => k < n ∧ (∀ t ∈ R, T'' t = T t) ∧ I (k + 1) T'' h'') Q) T' h') :
    AW P G N (.loop c) Q T h :=
  aw_count (fun k T' h' => (∀ t ∈ R, T' t = T t) ∧ I k T' h') n hk0 ⟨fun _ _ => rfl, h0⟩ fun k T' h' hk hi => round k T' h' hk hi.1 hi.2
end
end Go.Proofs.YtdldekkojjfllaaDoor.Am
