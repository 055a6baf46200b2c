/- Reading of trees: the reader's law, and the walks of the program's and the reference's readers. Conditions: none. -/
import Derived.Test.YtkmenomglhddlaaS3
import Derived.Lib.Strings
import Derived.Lib.Slices
import Derived.Lib.Walk
import Derived.Lib.Bytealg
namespace Go.Proofs.Ytkmenomglhddlaa.Am
open Go Go.Proofs Go.RowKit
set_option linter.unusedVariables false
set_option linter.unusedSimpArgs false
set_option maxRecDepth 100000
set_option maxHeartbeats 8000000

theorem stringslite_IndexByte (s : ByteArray) (c : Int) (w : World) :
    Calls Try.prog 57 #[.string s, .int .u8 c] w fun e w' => e = .returned (.int .i64 (Lib.indexByte s.data.toList c.toNat.toUInt8)) ∧ w' = w := by
  go_enter Try.func57, Try.ntmps57
  go_wp2
  rw [run_callFunc_extern Try.func58 (by kernel_rfl) (by kernel_rfl) (by kernel_rfl) (e := Extern.BytealgIndexByte.indexByte) (by kernel_rfl), Lib.run_indexByteString]
  simp only [Result.andThen]
  rw [Oper.upon_value]
  go_wp2
  go_ret
  exact ⟨rfl, rfl⟩
theorem stringsliteIndexByte_ok (s : ByteArray) (c : Int) (h : Heap) : ACalls Try.prog 0 57 #[.string s, .int .u8 c] h fun v h' => v = .int .i64 (Lib.indexByte s.data.toList c.toNat.toUInt8) ∧ h' = h :=
  acalls_of_same (by simp [af, af1]) (fun n m => .int _ _) fun w => stringslite_IndexByte s c w
theorem indexByte_ok (s : ByteArray) (c : Int) (h : Heap) : ACalls Try.prog 0 55 #[.string s, .int .u8 c] h fun v h' => v = .int .i64 (Lib.indexByte s.data.toList c.toNat.toUInt8) ∧ h' = h := by
  refine acalls_fn Try.func55 rfl Try.ntmps55 (by simp) (by dsimp only [Try.f55]) ?_
  repeat' (first
    | ((with_reducible refine eq_go ?_); simp only [stp, ev, put_some, put_none, argT_list, List.getD_cons_zero, List.getD_cons_succ, reduceIte, Nat.reduceEqDiff, Option.map_some, Array.map_empty, List.map_toArray, List.map_cons, List.map_nil, List.append_toArray, Array.append_empty, Array.empty_append, List.nil_append, List.append_nil, and_self, if_true, decide_true, decide_false, Int.toNat_natCast, Int.natCast_nonneg, List.length_map, binV_add, binV_sub, binV_and, binV_shr, binV_shl, binV_str_eql, binV_str_neq, binV_mul, binV_eql, binV_neq, binV_lss, binV_leq, binV_gtr, binV_geq, unV_not, Bool.not_true, Bool.not_false, Bool.cond_true, Bool.cond_false, blt, lenV, List.size_toArray, List.length_cons, List.length_nil, Nat.zero_add, Array.getD_eq_getD_getElem?, List.getElem?_toArray, List.getElem?_cons_zero, List.getElem?_cons_succ, Option.getD_some, Option.isSome_some, Ty.sz5, Ty.zc5, Ty.by5, Ty.sz9, Ty.st9, Ty.zc9, Ty.by9, *]; rfl)
    | (with_reducible refine aw_then ?_) | (with_reducible refine aw_skip ?_) | (with_reducible refine aw_ret ?_) | (with_reducible refine aw_exit ?_) | (with_reducible refine aw_block ?_) | (with_reducible refine xr_reg (by decide +kernel) ?_)
    | (with_reducible refine xr_nil ?_) | (with_reducible refine k_norm ?_) | (with_reducible refine k_ret ?_) | (with_reducible refine k_exit ?_) | (with_reducible refine b_norm ?_) | (with_reducible refine b_ret ?_) | (with_reducible refine b_exit ?_) | (with_reducible refine b_past (by decide) ?_)
    | (refine xr_cl (f := ?_) (fs := ?_) (cs := ?_) (args := ?_) (K := ?_) ?_ ?_ ?_ ?_ ?_
       rotate_left 5
       · simp only [ev]; rfl
       first
       | (· with_reducible exact Ty.ok57
          rotate_left 2
          refine hk_tag 57 ?_
          rotate_right 2)
       )
    | (refine xr_do (v := ?_) (h' := ?_) (by exact rfl) ?_ ?_; rotate_left 2)
    | (refine xr_st (v := ?_) (h' := ?_) (by exact rfl) ?_ ?_; rotate_left 2)
    | (refine aw_ift (by decide) ?_ ?_
       · simp only [ev, put_some, reduceIte, Nat.reduceEqDiff, *])
    | (refine aw_iff (by decide) ?_ ?_
       · simp only [ev, put_some, reduceIte, Nat.reduceEqDiff, *])
    | (refine aw_if (b := ?_) (by decide) ?_ (fun hb => ?_) (fun hb => ?_)
       rotate_left 1
       · simp only [ev, put_some, reduceIte, Nat.reduceEqDiff, *]; rfl)
    | (refine r_ret (vs := ?_) ?_ ?_
       rotate_left 1
       · simp only [resV, ev, put_some, reduceIte, Nat.reduceEqDiff, Option.map_some, *]; rfl)
    | (with_reducible exact stringsliteIndexByte_ok _ _ _)
    | ((with_reducible refine HkTag.mk (n := 57) ?_); rintro _ _ ⟨rfl, hh⟩; replace hh := hh.symm; subst hh)
    )
  exact ⟨rfl, rfl⟩

/-- The byte at a place. -/
def bt (s : ByteArray) (i : Nat) : Int := match s[i]? with | some b => (b.toNat : Int) | none => 0
theorem bt_idx {P : Program} {t : TypeId} (ht : stT P t = true) (s : ByteArray) {i : Nat} (h : i < s.size) (k : IntKind) : idxV P t (.string s) (.int k (i : Nat)) = some (.int .u8 (bt s i)) := by
  have e : s[i]? = some (s[i]) := by simp [h]
  simp only [idxV, bt, ht, Int.toNat_natCast, e]
  simp
theorem bt_range (s : ByteArray) (i : Nat) : 0 ≤ bt s i ∧ bt s i ≤ 255 := by
  unfold bt
  split
  · rename_i b _
    have := b.toNat_lt
    omega
  · omega

/-- The signs of branches with two parts: their operations. -/
def opOf (c : Int) : Int := if c = 59 then 2 else if c = 124 then 3 else if c = 38 then 4 else if c = 42 then 5 else 0

/-- A tree read from a place on: its branches, the place behind or of the fault, whether there is one. -/
def rdT (s : ByteArray) : Nat → Nat → List Br × Nat × Bool
  | 0, p => ([], p, false)
  | f + 1, p =>
    if p = s.size then ([], p, false)
    else if 49 ≤ bt s p ∧ bt s p ≤ 57 then ([⟨1, bt s p - 48⟩], p + 1, true)
    else if bt s p ≠ 40 then ([], p, false)
    else if (rdT s f (p + 1)).2.2 = false ∨ (rdT s f (p + 1)).2.1 = s.size then ([], (rdT s f (p + 1)).2.1, false)
    else if opOf (bt s (rdT s f (p + 1)).2.1) = 0 then ([], (rdT s f (p + 1)).2.1, false)
    else if (rdT s f ((rdT s f (p + 1)).2.1 + 1)).2.2 = false ∨ (rdT s f ((rdT s f (p + 1)).2.1 + 1)).2.1 = s.size ∨ bt s (rdT s f ((rdT s f (p + 1)).2.1 + 1)).2.1 ≠ 41 then
      ([], (rdT s f ((rdT s f (p + 1)).2.1 + 1)).2.1, false)
    else ((rdT s f (p + 1)).1 ++ (rdT s f ((rdT s f (p + 1)).2.1 + 1)).1 ++ [⟨opOf (bt s (rdT s f (p + 1)).2.1), 0⟩], (rdT s f ((rdT s f (p + 1)).2.1 + 1)).2.1 + 1, true)

/-- Ends of reading: what is known of them. -/
theorem rdT_inv (s : ByteArray) : ∀ (f p : Nat), p ≤ s.size → p ≤ (rdT s f p).2.1 ∧ (rdT s f p).2.1 ≤ s.size ∧ ((rdT s f p).2.2 = true → p < (rdT s f p).2.1) ∧ (rdT s f p).1.length ≤ (rdT s f p).2.1 - p ∧ ((rdT s f p).2.2 = false → (rdT s f p).1 = []) ∧ ((rdT s f p).2.2 = true → 1 ≤ (rdT s f p).1.length)
  | 0, p, hp => by simp [rdT, hp]
  | f + 1, p, hp => by
      unfold rdT
      split
      · simp [hp]
      rename_i h1
      split
      · simp; omega
      split
      · simp [hp]
      have i1 := rdT_inv s f (p + 1) (by omega)
      generalize rdT s f (p + 1) = r1 at i1 ⊢
      split
      · simp; omega
      rename_i h3
      split
      · simp; omega
      have h3b : r1.2.1 ≠ s.size := fun q => h3 (.inr q)
      have i2 := rdT_inv s f (r1.2.1 + 1) (by omega)
      generalize rdT s f (r1.2.1 + 1) = r2 at i2 ⊢
      split
      · simp; omega
      rename_i h5
      have h5b : r2.2.1 ≠ s.size := fun q => h5 (.inr (.inl q))
      simp; omega
end Go.Proofs.Ytkmenomglhddlaa.Am

