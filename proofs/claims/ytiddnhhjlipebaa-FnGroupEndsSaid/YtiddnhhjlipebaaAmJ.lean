/- The remaining operations, and all of them in one function. Conditions: none. -/
import Derived.Test.YtiddnhhjlipebaaAmI
namespace Go.Proofs.Ytiddnhhjlipebaa.Am
open Go
set_option linter.unusedVariables false
set_option linter.unusedSimpArgs false

section
variable {P : Program} {G : Glo} {m : Map} {h : Heap} {w : World}

/-- Only what has no address. -/
def ckd (x : Option Value) : Option Value := x.bind fun v => if af v = true then some v else none

theorem ckd_some {x : Option Value} {v : Value} (h : ckd x = some v) : x = some v ∧ af v = true := by
  unfold ckd at h
  cases x with
  | none => cases h
  | some u =>
    simp only [Option.bind_some] at h
    split at h
    · rename_i hu; cases h; exact ⟨rfl, hu⟩
    · cases h

def binV (P : Program) (op : BinOp) (t : TypeId) (xo yo : Operand) (a b : Value) : Option Value :=
  match a, b with
  | .agg xs, .agg ys => if xs.all af1 && ys.all af1 then
      (match P.underlying t with
      | some (.struct fs) => if P.stoodInHeld t then none else
          (match pureRun P (eqGuard op t xo yo (.agg xs) (.agg ys)), pureRun P (Op.eqFields (Op.maxDepth - 1) xs ys fs.toList), op with
          | some _, some r, .eql => some (.bool r)
          | some _, some r, .neq => some (.bool !r)
          | _, _, _ => none)
      | _ => none) else none
  | .pointer (some _), .pointer none | .pointer none, .pointer (some _) =>
      (match P.underlying t, op with | some (.pointer _), .eql => some (.bool false) | some (.pointer _), .neq => some (.bool true) | _, _ => none)
  | .slice (some _) _ _, .slice none _ _ | .slice none _ _, .slice (some _) _ _ =>
      (match P.underlying t, op with | some (.slice _), .eql => some (.bool false) | some (.slice _), .neq => some (.bool true) | _, _ => none)
  | .iface _ _, .nilIface | .nilIface, .iface _ _ =>
      (match P.underlying t, op with | some (.interface _), .eql => some (.bool false) | some (.interface _), .neq => some (.bool true) | _, _ => none)
  | a, b => if af1 a && af1 b then ckd (pureRun P (do eqGuard op t xo yo a b; binOp op t a b)) else none

theorem equal_struct {t : TypeId} {fs : Array Field} {xs ys : Array Value} {r : Bool} (hu : P.underlying t = some (.struct fs)) (hp : P.stoodInHeld t = false)
    (hr : pureRun P (Op.eqFields (Op.maxDepth - 1) xs ys fs.toList) = some r) : (Op.equal t (.agg xs) (.agg ys)).run P w = .ok r w := by
  have hf : P.fieldsOf t = fs := by simp [Program.fieldsOf, hu]
  have := run_equalIn_struct (P := P) w (Op.maxDepth - 1) t xs ys (by rw [hf]; exact hu) hp
  rw [hf, pureRun_sound _ hr w] at this
  exact this

theorem equalIn_off {t : TypeId} (d : Nat) {x y : Value} (hu : (match P.underlying t, x, y with
    | some (.pointer _), .pointer (some _), .pointer none | some (.pointer _), .pointer none, .pointer (some _) => true
    | some (.slice _), .slice (some _) _ _, .slice none _ _ | some (.slice _), .slice none _ _, .slice (some _) _ _ => true
    | some (.interface _), .iface _ _, .nilIface | some (.interface _), .nilIface, .iface _ _ => true
    | _, _, _ => false) = true) : (Op.equalIn (d + 1) t x y).run P w = .ok false w := by
  split at hu
  · rename_i h; simp [Op.equalIn, run_underlying h]
  · rename_i h; simp [Op.equalIn, run_underlying h]
  · rename_i h; simp [Op.equalIn, run_underlying h]
  · rename_i h; simp [Op.equalIn, run_underlying h]
  · rename_i h; simp [Op.equalIn, run_underlying h]
  · rename_i h; simp [Op.equalIn, run_underlying h]
  · cases hu

theorem equal_eq (t : TypeId) (x y : Value) : Op.equal t x y = Op.equalIn (9999 + 1) t x y := rfl

theorem run_off {t : TypeId} {xo yo : Operand} {x y : Value} (he : (Op.equalIn (9999 + 1) t x y).run P w = .ok false w)
    (hg : ∀ op : BinOp, eqGuard op t xo yo x y = pure ()) (hb : (binOp .eql t x y = do pure (.bool (← Op.equal t x y))) ∧ (binOp .neq t x y = do pure (.bool (!(← Op.equal t x y))))) :
    (do eqGuard .eql t xo yo x y; binOp .eql t x y : Sem Value).run P w = .ok (.bool false) w ∧
    (do eqGuard .neq t xo yo x y; binOp .neq t x y : Sem Value).run P w = .ok (.bool true) w := by
  rw [hg, hg, hb.1, hb.2, equal_eq]
  constructor
  · simp only [pure_bind, Sem.run_bind, he, Result.andThen_ok, Sem.run_pure]
  · simp only [pure_bind, Sem.run_bind, he, Result.andThen_ok, Sem.run_pure, Bool.not_false]

theorem run_binV {op : BinOp} {t : TypeId} {xo yo : Operand} {a b a' b' v : Value} (ha : VRel h.length m a a') (hb : VRel h.length m b b')
    (hv : binV P op t xo yo a b = some v) : (do eqGuard op t xo yo a' b'; binOp op t a' b' : Sem Value).run P w = .ok v w ∧ af v = true := by
  unfold binV at hv
  split at hv
  · rename_i xs ys
    split at hv
    · rename_i haf
      simp only [Bool.and_eq_true] at haf
      have e1 := ha.eq_af (show af (.agg xs) = true from haf.1)
      have e2 := hb.eq_af (show af (.agg ys) = true from haf.2)
      subst e1; subst e2
      split at hv
      · rename_i fs hu
        split at hv
        · cases hv
        · rename_i hst
          have hst : P.stoodInHeld t = false := by simpa using hst
          split at hv
          · rename_i hq hg
            cases hv
            have h1 := pureRun_sound _ hg w
            have h2 := equal_struct (w := w) hu hst hq
            refine ⟨?_, rfl⟩
            simp [h1, binOp, h2]
          · rename_i hq hg
            cases hv
            have h1 := pureRun_sound _ hg w
            have h2 := equal_struct (w := w) hu hst hq
            refine ⟨?_, rfl⟩
            simp [h1, binOp, h2]
          · cases hv
      · cases hv
    · cases hv
  · rename_i x
    obtain ⟨_, _, rfl⟩ := inv_ptr ha
    have e2 := hb.eq_af1 rfl
    subst e2
    split at hv
    · rename_i hu; cases hv; exact ⟨(run_off (equalIn_off 9999 (by rw [hu])) (fun op => by cases op <;> rfl) ⟨rfl, rfl⟩).1, rfl⟩
    · rename_i hu; cases hv; exact ⟨(run_off (equalIn_off 9999 (by rw [hu])) (fun op => by cases op <;> rfl) ⟨rfl, rfl⟩).2, rfl⟩
    · cases hv
  · rename_i x
    obtain ⟨_, _, rfl⟩ := inv_ptr hb
    have e2 := ha.eq_af1 rfl
    subst e2
    split at hv
    · rename_i hu; cases hv; exact ⟨(run_off (equalIn_off 9999 (by rw [hu])) (fun op => by cases op <;> rfl) ⟨rfl, rfl⟩).1, rfl⟩
    · rename_i hu; cases hv; exact ⟨(run_off (equalIn_off 9999 (by rw [hu])) (fun op => by cases op <;> rfl) ⟨rfl, rfl⟩).2, rfl⟩
    · cases hv
  · obtain ⟨y, c', rfl, _⟩ := inv_slice ha
    rw [inv_sliceNone hb]
    split at hv
    · rename_i hu; cases hv; exact ⟨(run_off (equalIn_off 9999 (by rw [hu])) (fun op => by cases op <;> rfl) ⟨rfl, rfl⟩).1, rfl⟩
    · rename_i hu; cases hv; exact ⟨(run_off (equalIn_off 9999 (by rw [hu])) (fun op => by cases op <;> rfl) ⟨rfl, rfl⟩).2, rfl⟩
    · cases hv
  · obtain ⟨y, c', rfl, _⟩ := inv_slice hb
    rw [inv_sliceNone ha]
    split at hv
    · rename_i hu; cases hv; exact ⟨(run_off (equalIn_off 9999 (by rw [hu])) (fun op => by cases op <;> rfl) ⟨rfl, rfl⟩).1, rfl⟩
    · rename_i hu; cases hv; exact ⟨(run_off (equalIn_off 9999 (by rw [hu])) (fun op => by cases op <;> rfl) ⟨rfl, rfl⟩).2, rfl⟩
    · cases hv
  · have e2 := hb.eq_af1 rfl
    subst e2
    cases ha
    split at hv
    · rename_i hu; cases hv; exact ⟨(run_off (equalIn_off 9999 (by rw [hu])) (fun op => by cases op <;> rfl) ⟨rfl, rfl⟩).1, rfl⟩
    · rename_i hu; cases hv; exact ⟨(run_off (equalIn_off 9999 (by rw [hu])) (fun op => by cases op <;> rfl) ⟨rfl, rfl⟩).2, rfl⟩
    · cases hv
  · have e2 := ha.eq_af1 rfl
    subst e2
    cases hb
    split at hv
    · rename_i hu; cases hv; exact ⟨(run_off (equalIn_off 9999 (by rw [hu])) (fun op => by cases op <;> rfl) ⟨rfl, rfl⟩).1, rfl⟩
    · rename_i hu; cases hv; exact ⟨(run_off (equalIn_off 9999 (by rw [hu])) (fun op => by cases op <;> rfl) ⟨rfl, rfl⟩).2, rfl⟩
    · cases hv
  · split at hv
    · rename_i haf
      simp only [Bool.and_eq_true] at haf
      have e1 := ha.eq_af1 haf.1
      have e2 := hb.eq_af1 haf.2
      subst e1; subst e2
      obtain ⟨h1, h2⟩ := ckd_some hv
      exact ⟨pureRun_sound _ h1 w, h2⟩
    · cases hv

def unV (P : Program) (op : UnOp) (x : Value) : Option Value := if af1 x then ckd (pureRun P (Op.unary op x)) else none

def byteL : List Value → Option (List Int)
  | [] => some []
  | .int .u8 n :: r => (byteL r).map (n :: ·)
  | _ => none

theorem byteL_map : ∀ (l : List Value) {ns : List Int}, byteL l = some ns → l = ns.map (Value.int .u8) := by
  intro l
  induction l with
  | nil => intro ns h; simp only [byteL] at h; cases h; rfl
  | cons v r ih =>
    intro ns h
    unfold byteL at h
    split at h
    · rename_i heq; cases heq
    · rename_i n r' heq
      cases heq
      cases hr : byteL r with
      | none => rw [hr] at h; simp at h
      | some k => rw [hr] at h; simp at h; subst h; rw [ih hr]; rfl
    · cases h

def bstr (ns : List Int) : ByteArray := ns.foldl (fun r n => r.push (UInt8.ofNat n.toNat)) ByteArray.empty

def conV (P : Program) (h : Heap) (src dst : TypeId) (x : Value) : Option Value :=
  match x with
  | .int _ n => (match P.underlying src, P.underlying dst with | some _, some (.int k) => some (.int k (k.wrap n)) | _, _ => none)
  | .string s => if (P.underlying src).isSome && stT P dst then some (.string s) else none
  | .slice none _ _ => (match slT P src with
    | some e => (match P.underlying e with | some (.int .u8) => if stT P dst then some (.string ByteArray.empty) else none | _ => none)
    | none => none)
  | .slice (some a) l _ => (match slT P src with
    | some e => (match P.underlying e with
      | some (.int .u8) => if stT P dst then ((loadCs h a.block a.off l).bind byteL).map fun ns => .string (bstr ns) else none
      | _ => none)
    | none => none)
  | _ => none

theorem run_conV (r : WRel G m h w) {src dst : TypeId} {x x' v : Value} (hx : VRel h.length m x x') (hv : conV P h src dst x = some v) :
    (convert src dst x').run P w = .ok v w ∧ af v = true := by
  unfold conV at hv
  split at hv
  · rename_i k n
    rw [inv_int hx]
    split at hv
    · rename_i d hu hd; cases hv
      exact ⟨by simp [convert, run_underlying hu, run_underlying hd, Conv.intToInt], rfl⟩
    · cases hv
  · rename_i s
    rw [inv_string hx]
    split at hv
    · rename_i hk
      simp only [Bool.and_eq_true] at hk
      obtain ⟨d, hd⟩ := Option.isSome_iff_exists.1 hk.1
      have hs := stT_spec hk.2
      cases hv
      refine ⟨?_, rfl⟩
      cases d <;> simp [convert, run_underlying hd, run_underlying hs]
    · cases hv
  · rename_i l c
    rw [inv_sliceNone hx]
    cases hs : slT P src with
    | none => rw [hs] at hv; simp at hv
    | some e =>
      rw [hs] at hv; simp only at hv
      split at hv
      · rename_i he
        split at hv
        · rename_i hd
          cases hv
          refine ⟨?_, rfl⟩
          rw [run_convert_bytes_string w src dst e none l c (slT_spec hs) he (stT_spec hd)]
          simp [Conv.bytesToString]
        · cases hv
      · cases hv
  · rename_i a l c
    obtain ⟨y, c', rfl, sr⟩ := inv_slice hx
    cases hs : slT P src with
    | none => rw [hs] at hv; simp at hv
    | some e =>
      rw [hs] at hv; simp only at hv
      split at hv
      · rename_i he
        split at hv
        · rename_i hd
          cases hl : loadCs h a.block a.off l with
          | none => rw [hl] at hv; simp at hv
          | some cs =>
            rw [hl] at hv
            simp only [Option.bind_some] at hv
            cases hb : byteL cs with
            | none => rw [hb] at hv; simp at hv
            | some ns =>
              rw [hb] at hv; simp only [Option.map_some] at hv; cases hv
              refine ⟨?_, rfl⟩
              rw [run_convert_bytes_string w src dst e (some y) l c' (slT_spec hs) he (stT_spec hd)]
              obtain ⟨h1, l', h2, h3, h4⟩ := r.loadCs hl
              have hcs := byteL_map cs hb
              have hl' : l' = ns.map (Value.int .u8) := by
                apply List.ext_getElem?
                intro j
                by_cases hj : j < l
                · have hj1 : cs[j]? = (ns.map (Value.int .u8))[j]? := by rw [hcs]
                  have hjc : j < cs.length := by omega
                  obtain ⟨v', q1, q2, _⟩ := h4 j cs[j] (List.getElem?_eq_getElem hjc)
                  rw [q1, ← hj1, List.getElem?_eq_getElem hjc]
                  congr 1
                  have hm : cs[j] ∈ ns.map (Value.int .u8) := by rw [← hcs]; exact List.getElem_mem hjc
                  obtain ⟨n, _, hn⟩ := List.mem_map.1 hm
                  rw [← hn] at q2 ⊢
                  exact inv_int q2
                · rw [List.getElem?_eq_none (by omega), List.getElem?_eq_none (by rw [← hcs]; omega)]
              by_cases hl0 : l = 0
              · subst hl0
                have hns : ns = [] := by
                  have : cs = [] := List.eq_nil_of_length_eq_zero h1
                  rw [this] at hcs
                  cases ns with
                  | nil => rfl
                  | cons a b => simp at hcs
                subst hns
                exact run_bytesToString w y 0 c' [] (by simp [loadCells, loadCellsFrom])
              · have hy := sr.pl (.inl hl0)
                subst hy
                refine run_bytesToString w (place m a) l c' ns ?_
                rw [← h2, run_loadCells_at (a := place m a) rfl h3, hl']
        · cases hv
      · cases hv
  · cases hv

/-! ### strings' iterators -/

theorem WRel.iterSet (r : WRel G m h w) {id : Nat} {b : Blk} (hb : h[id]? = some b) (hk : b.k = 3) (s : ByteArray) (pos : Nat) :
    WRel G m (h.set id ⟨3, 1, [.string s, .int .i64 (pos : Nat)]⟩) { w with heap := w.heap.setIfInBounds (m id).b (.stringIter s pos) } ∧
    Grow m h w m (h.set id ⟨3, 1, [.string s, .int .i64 (pos : Nat)]⟩) { w with heap := w.heap.setIfInBounds (m id).b (.stringIter s pos) } := by
  have hid := lt_of_get hb
  have hlv := r.live id b hb (by omega)
  have hget : ∀ (i : Nat) (x : Blk), (h.set id (⟨3, 1, [.string s, .int .i64 (pos : Nat)]⟩ : Blk))[i]? = some x →
      (i = id ∧ x = ⟨3, 1, [.string s, .int .i64 (pos : Nat)]⟩) ∨ (i ≠ id ∧ h[i]? = some x) := by
    intro i x hx
    by_cases hi : i = id
    · subst hi
      rw [List.getElem?_set_self hid] at hx
      exact .inl ⟨rfl, (Option.some.inj hx).symm⟩
    · rw [List.getElem?_set_ne (Ne.symm hi)] at hx
      exact .inr ⟨hi, hx⟩
  have hne : ∀ (i : Nat) (x : Blk), i ≠ id → h[i]? = some x → x.k ≠ 0 → (m i).b ≠ (m id).b := fun i x hi hx hk0 =>
    Ne.symm (r.apart id i b x hb hx (.inr hk) hk0 (Ne.symm hi))
  have hw : ∀ q, q ≠ (m id).b → ({ w with heap := w.heap.setIfInBounds (m id).b (.stringIter s pos) } : World).heap[q]? = w.heap[q]? := by
    intro q hq; simp only; exact Array.getElem?_setIfInBounds_ne (Ne.symm hq)
  have hlen' : (h.set id (⟨3, 1, [.string s, .int .i64 (pos : Nat)]⟩ : Blk)).length = h.length := by simp
  constructor
  · refine ⟨?_, ?_, ?_, ?_, ?_, fun g hg => by rw [hlen']; exact r.glob g hg, fun g o hg => ⟨by rw [hw _ (Ne.symm ((r.tab g o hg).2 id b hb (.inr hk)))]; exact (r.tab g o hg).1, fun i x hx ho => by
      rcases hget i x hx with ⟨rfl, rfl⟩ | ⟨hi, hx'⟩
      · exact (r.tab g o hg).2 i b hb (.inr hk)
      · exact (r.tab g o hg).2 i x hx' ho⟩⟩
    · intro i x hx hkx j v hj
      rw [hlen']
      rcases hget i x hx with ⟨rfl, rfl⟩ | ⟨hi, hx'⟩
      · simp at hkx
      · obtain ⟨v', q1, q2⟩ := r.cell i x hx' hkx j v hj
        exact ⟨v', by rw [World.cell?_of_block (hw _ (hne i x hi hx' (by omega)))]; exact q1, q2⟩
    · intro i x hx hkx
      rcases hget i x hx with ⟨rfl, rfl⟩ | ⟨hi, hx'⟩
      · simp at hkx
      · obtain ⟨q1, q2, q3⟩ := r.room i x hx' hkx
        refine ⟨q1, q2, fun j hj => ?_⟩
        rw [World.cell?_of_block (hw _ (hne i x hi hx' (by omega))), World.frozen?_of_block (hw _ (hne i x hi hx' (by omega)))]
        exact q3 j hj
    · intro i x hx hkx
      rcases hget i x hx with ⟨rfl, rfl⟩ | ⟨hi, hx'⟩
      · obtain ⟨_, _, _, q2, _⟩ := r.iter i b hb hk
        exact ⟨s, pos, rfl, q2, by simp only; exact Array.getElem?_setIfInBounds_self_of_lt hlv⟩
      · obtain ⟨s', p', q1, q2, q3⟩ := r.iter i x hx' hkx
        exact ⟨s', p', q1, q2, by rw [hw _ (hne i x hi hx' (by omega))]; exact q3⟩
    · intro i x hx hkx
      simp only [Array.size_setIfInBounds]
      rcases hget i x hx with ⟨rfl, rfl⟩ | ⟨hi, hx'⟩
      · exact hlv
      · exact r.live i x hx' hkx
    · intro i i' x x' hx hx' ho hk0 hii
      rcases hget i x hx with ⟨rfl, rfl⟩ | ⟨hi, hy⟩ <;> rcases hget i' x' hx' with ⟨rfl, rfl⟩ | ⟨hi', hy'⟩
      · exact absurd rfl hii
      · exact Ne.symm (hne i' x' hi' hy' hk0)
      · exact hne i x hi hy (Blk.own_live ho)
      · exact r.apart i i' x x' hy hy' ho hk0 hii
  · refine ⟨Agree.refl _ _, by simp, by simp, ⟨rfl, rfl, rfl⟩, fun q hq hno => hw q (Ne.symm (hno id b hb (.inr hk))), ?_⟩
    intro i y hy hl
    right
    rcases hget i y hy with ⟨rfl, rfl⟩ | ⟨hi, hy'⟩
    · exact ⟨i, b, hb, by omega, fun _ => .inr hk, rfl⟩
    · exact ⟨i, y, hy', hl, fun z => z, rfl⟩

def nxt (h : Heap) (x : Value) : Option (Value × Heap) :=
  match x with
  | .pointer (some a) => if a.off = 0 then match h[a.block]? with
    | some b => match b.cs with
      | [.string s, .int .i64 p] => if b.k = 3 ∧ 0 ≤ p then
          if p.toNat < s.size then some (.tuple #[.bool true, .int .i64 p, .int .i32 (Utf8.decode s p.toNat).1],
            h.set a.block ⟨3, 1, [.string s, .int .i64 ((p.toNat + (Utf8.decode s p.toNat).2 : Nat))]⟩)
          else some (.tuple #[.bool false], h)
        else none
      | _ => none
    | none => none else none
  | _ => none

theorem vtuple {n : Nat} {l : List Value} (h : ∀ v, v ∈ l → af v = true) : VRel n m (.tuple l.toArray) (.tuple l.toArray) := by
  refine .tuple _ _ rfl fun i h1 h2 => ?_
  have hm : l.toArray[i] ∈ l := by simp at h1 ⊢
  have := h _ hm
  revert this
  generalize l.toArray[i] = v
  intro hv
  have one : ∀ u : Value, af1 u = true → VRel n m u u := by
    intro u hu
    cases u with
    | bool b => exact .bool b
    | int k i => exact .int k i
    | string s => exact .string s
    | nilFunc => exact .nilFunc
    | nilIface => exact .nilIface
    | pointer a => cases a with
      | none => exact .ptrNone
      | some a => simp [af1] at hu
    | slice a l c => cases a with
      | none => exact .sliceNone l c
      | some a => simp [af1] at hu
    | _ => simp [af1] at hu
  cases v with
  | agg cs =>
    simp only [af, Array.all_eq_true] at hv
    exact .agg _ _ rfl fun i h1 _ => one _ (hv i h1)
  | _ => exact one _ hv

theorem run_nxt (r : WRel G m h w) {x x' v : Value} {ty : TypeId} {h' : Heap} (hx : VRel h.length m x x') (hv : nxt h x = some (v, h')) :
    ∃ v' w', (Instr.next x' true ty).run P w = .ok v' w' ∧ VRel h'.length m v v' ∧ WRel G m h' w' ∧ Grow m h w m h' w' := by
  unfold nxt at hv
  split at hv
  · rename_i a
    split at hv
    · rename_i ho
      cases hb : h[a.block]? with
      | none => rw [hb] at hv; simp at hv
      | some b =>
        rw [hb] at hv; simp only at hv
        split at hv
        · rename_i s p hcs
          split at hv
          · rename_i hk
            obtain ⟨hk, hp⟩ := hk
            obtain ⟨hsp, hlt, rfl⟩ := inv_ptr hx
            obtain ⟨s', pos, q1, q2, q3⟩ := r.iter _ b hb hk
            rw [hcs] at q1
            simp at q1
            obtain ⟨e1, e2⟩ := q1
            subst e1
            have hpos : p.toNat = pos := by omega
            have hp' : p = (pos : Int) := by omega
            rw [hpos, hp'] at hv
            have hpl : place m a = ⟨(m a.block).b, 0, none⟩ := by unfold place; rw [q2, ho]
            rw [hpl]
            split at hv
            · rename_i hlt2
              cases hv
              obtain ⟨g1, g2⟩ := r.iterSet hb hk s (pos + (Utf8.decode s pos).2)
              refine ⟨.tuple #[.bool true, .int .i64 (pos : Int), .int .i32 (Utf8.decode s pos).1],
                { w with heap := w.heap.setIfInBounds (m a.block).b (.stringIter s (pos + (Utf8.decode s pos).2)) }, ?_, ?_, g1, g2⟩
              · simp [Instr.next, getObj, setObj, Sem.run, q3, hlt2, goInt]
              · have hlen' : (h.set a.block (⟨3, 1, [.string s, .int .i64 ((pos + (Utf8.decode s pos).2 : Nat))]⟩ : Blk)).length = h.length := by simp
                exact vtuple (l := [.bool true, .int .i64 (pos : Int), .int .i32 (Utf8.decode s pos).1]) (by intro v hv; simp at hv; rcases hv with rfl | rfl | rfl <;> rfl)
            · rename_i hlt2
              cases hv
              refine ⟨.tuple #[.bool false], w, ?_, vtuple (l := [.bool false]) (by intro v hv; simp at hv; subst hv; rfl), r, Grow.refl _ _ _⟩
              simp [Instr.next, getObj, Sem.run, q3, hlt2]
          · cases hv
        · cases hv
    · cases hv
  · cases hv

end
end Go.Proofs.Ytiddnhhjlipebaa.Am
