/- Numbers as texts: the library's own, by its contracts; and frames. Conditions: none. -/
import Derived.Test.YtkmenomglhddlaaDoorAmFr
import Derived.Test.YtkmenomglhddlaaDoorAmTy
import Derived.Test.YtkmenomglhddlaaDoorShelf
import Derived.Lib.AppendIntMem
namespace Go.Proofs.YtkmenomglhddlaaDoor.Am
open Go Go.Proofs Go.RowKit
set_option linter.unusedVariables false
set_option linter.unusedSimpArgs false
set_option maxRecDepth 100000
set_option maxHeartbeats 8000000

/-- The library's table of powers of ten. -/
def isPow (o : Obj) : Prop := ∃ t z, o = .cells (Lib.pow10Tab.map fun z => Value.int .u64 z).toArray t z
/-- An error, or none. -/
def isErr (o : Obj) : Prop := ∃ cs t z ev, o = .cells cs t z ∧ cs[0]? = some ev ∧ (ev = .nilIface ∨ ∃ te pe, ev = .iface te pe)
/-- What is known of the program's variables: the table alone; the table and the library's two errors. -/
def dP : Glo := ⟨0, fun g => if g = 3 then some isPow else none⟩
def dE : Glo := ⟨0, fun g => if g = 3 then some isPow else if g = 1 ∨ g = 2 then some isErr else none⟩

/-- A contract that leans on less of the variables holds where more is known. -/
theorem acalls_more {P : Program} {G G' : Glo} {f : FuncId} {args : Array Value} {h : Heap} {K : Value → Heap → Prop} (hn : G'.n = G.n) (ht : ∀ g o, G.tab g = some o → G'.tab g = some o)
    (ha : ACalls P G f args h K) : ACalls P G' f args h K := by
  intro m args' w hs hr r
  have r0 : WRel G m h w := ⟨r.cell, r.room, r.iter, r.live, r.apart, by rw [← hn]; exact r.glob, fun g o q => r.tab g o (ht g o q)⟩
  refine (ha m args' w hs hr r0).mono ?_
  rintro e w' ⟨v, v', m', h', he, hv, r', g, k⟩
  refine ⟨v, v', m', h', he, hv, ⟨r'.cell, r'.room, r'.iter, r'.live, r'.apart, by rw [hn]; exact r'.glob, fun i o q => ?_⟩, g, k⟩
  obtain ⟨⟨x, hx, ox⟩, hown⟩ := r.tab i o q
  have hlt : i < w.heap.size := (Array.getElem?_eq_some_iff.1 hx).1
  refine ⟨⟨x, by rw [g.keeps i hlt hown]; exact hx, ox⟩, fun id b hb ho => ?_⟩
  rcases g.owned id b hb (Blk.own_live ho) with q1 | ⟨id0, b0, q1, q2, q3, q4⟩
  · omega
  · rw [← q4]; exact hown id0 b0 q1 (q3 ho)
theorem up0P {P : Program} {f : FuncId} {args : Array Value} {h : Heap} {K : Value → Heap → Prop} (ha : ACalls P 0 f args h K) : ACalls P dP f args h K := acalls_more (G := 0) (G' := dP) rfl (fun _ _ q => by cases q) ha
theorem up0E {P : Program} {f : FuncId} {args : Array Value} {h : Heap} {K : Value → Heap → Prop} (ha : ACalls P 0 f args h K) : ACalls P dE f args h K := acalls_more (G := 0) (G' := dE) rfl (fun _ _ q => by cases q) ha
theorem upPE {P : Program} {f : FuncId} {args : Array Value} {h : Heap} {K : Value → Heap → Prop} (ha : ACalls P dP f args h K) : ACalls P dE f args h K := by
  refine acalls_more (G := dP) (G' := dE) rfl (fun g o q => ?_) ha
  simp only [dP, dE] at q ⊢
  split at q
  · rename_i hg; rw [if_pos hg]; exact q
  · cases q
/-- The world of a call, before its arguments are opened. -/
theorem wrel_glo {G : Glo} {m : Map} {W : World} (hn : G.n = 0) (ht : ∀ g o, G.tab g = some o → ∃ x, W.heap[g]? = some x ∧ o x) : WRel G m [] W :=
  ⟨fun id b h => by simp at h, fun id b h => by simp at h, fun id b h => by simp at h, fun id b h => by simp at h, fun id id' b b' h => by simp at h, fun g hg => by omega, fun g o q => ⟨ht g o q, fun id b h => by simp at h⟩⟩

/-- A text by its bytes. -/
def S (l : List UInt8) : ByteArray := ⟨l.toArray⟩
theorem S_size (l : List UInt8) : (S l).size = l.length := by simp [S, ByteArray.size]
theorem S_app (a b : List UInt8) : S a ++ S b = S (a ++ b) := by
  apply ByteArray.ext
  simp [S]
theorem S_list (s : ByteArray) : S s.data.toList = s := by simp [S]
theorem S_inj {a b : List UInt8} : S a = S b ↔ a = b := by
  constructor
  · intro h
    have := congrArg (fun s : ByteArray => s.data.toList) h
    simpa [S] using this
  · intro h; rw [h]

theorem itoa_ok (n : Int) (h : Heap) (hn : -9223372036854775808 ≤ n ∧ n ≤ 9223372036854775807) : ACalls Tryd.prog dP 65 #[.int .i64 n] h fun v h' => v = .string (S (Lib.itoa n)) ∧ h' = h := by
  refine acalls_of_tab (by simp [af, af1]) (fun n m => .string _) fun w hw => ?_
  obtain ⟨x, hx, t, z, rfl⟩ := hw 3 _ rfl
  have htab : Lib.TabIs Tryd.prog w "internal/strconv.uint64pow10" .u64 Lib.pow10Tab := by
    unfold Lib.TabIs World.var?
    rw [show Tryd.prog.globalNamed "internal/strconv.uint64pow10" = some 3 by kernel_rfl]
    simp only [Option.bind_some, hx]
  refine (Tryd.strconv_Itoa n hn.1 hn.2 w htab).mono ?_
  rintro e w' ⟨rfl, k, os, rfl⟩
  exact ⟨rfl, Lib.below_grow _ _ (Nat.le_refl _) _ _⟩

theorem rep0_ok (c : Nat) (h : Heap) (hc : c ≤ 1000) : ACalls Tryd.prog dP 83 #[.string ⟨#[48]⟩, .int .i64 (c : Nat)] h fun v h' => v = .string (S (Lib.repeatL [48] c)) ∧ h' = h :=
  acalls_of_calls (by simp [af, af1]) (fun n m => .string _) fun w => Tryd.strings_Repeat ⟨#[48]⟩ c w (by omega) (by simp [ByteArray.size]; omega)

/-- A number by so many digits. -/
def digL (n : Nat) : Nat → List UInt8
  | 0 => []
  | m + 1 => UInt8.ofNat (48 + n / 10 ^ m % 10) :: digL n m
theorem digL_len (n m : Nat) : (digL n m).length = m := by
  induction m with
  | zero => rfl
  | succ m ih => simp [digL, ih]
theorem digL_last (n : Nat) : ∀ m, digL n (m + 1) = digL (n / 10) m ++ [UInt8.ofNat (48 + n % 10)]
  | 0 => by simp [digL]
  | m + 1 => by
      have ih := digL_last n m
      rw [digL, ih, digL]
      have : n / 10 ^ (m + 1) = n / 10 / 10 ^ m := by rw [Nat.div_div_eq_div_mul, Nat.pow_succ, Nat.mul_comm]
      rw [this]; rfl
theorem digL_zero : ∀ m, digL 0 m = Lib.repeatL [48] m
  | 0 => rfl
  | m + 1 => by
      rw [digL, digL_zero m]
      simp [Lib.repeatL]
theorem rep_snoc (m : Nat) : Lib.repeatL [48] m ++ [48] = Lib.repeatL [48] (m + 1) := by
  induction m with
  | zero => rfl
  | succ m ih => rw [Lib.repeatL, List.append_assoc, ih]; rfl
theorem dec_pad : ∀ (d n : Nat), n < 10 ^ (d + 1) → (Lib.decDigits n).length ≤ d + 1 ∧ Lib.repeatL [48] (d + 1 - (Lib.decDigits n).length) ++ Lib.decDigits n = digL n (d + 1)
  | 0, n, h => by
      have h10 : n < 10 := by simpa using h
      rw [Lib.decDigits, dif_pos h10]
      simp [Lib.repeatL, digL, Nat.mod_eq_of_lt h10]
  | d + 1, n, h => by
      rw [Lib.decDigits]
      by_cases h10 : n < 10
      · rw [dif_pos h10]
        refine ⟨by simp, ?_⟩
        rw [digL_last, Nat.div_eq_of_lt h10, digL_zero, Nat.mod_eq_of_lt h10]
        simp
      · rw [dif_neg h10]
        have hlt : n / 10 < 10 ^ (d + 1) := by
          rw [Nat.div_lt_iff_lt_mul (by omega)]
          rw [Nat.pow_succ] at h; exact h
        obtain ⟨i1, i2⟩ := dec_pad d (n / 10) hlt
        refine ⟨by simp; exact i1, ?_⟩
        rw [digL_last, ← i2]
        simp
theorem itoa_nat (n : Nat) : Lib.itoa (n : Int) = Lib.decDigits n := by
  unfold Lib.itoa
  rw [if_neg (by omega)]; simp

theorem padded_ok (n : Nat) (d : Nat) (h : Heap) (hd : d ≤ 9) (hn : n < 10 ^ (d + 1)) : ACalls Tryd.prog dP 75 #[.int .i64 (n : Nat), .int .i64 ((d + 1 : Nat) : Int)] h fun v h' => v = .string (S (digL n (d + 1))) ∧ h' = h := by
  obtain ⟨h1, h2⟩ := dec_pad d n hn
  have hp : 10 ^ (d + 1) ≤ 10 ^ 10 := Nat.pow_le_pow_right (by omega) (by omega)
  have hr : -9223372036854775808 ≤ (n : Int) ∧ (n : Int) ≤ 9223372036854775807 := by omega
  have hi := itoa_nat n
  have hsz : (S (Lib.decDigits n)).size = (Lib.decDigits n).length := S_size _
  have hw : IntKind.i64.wrap (((d + 1 : Nat) : Int) - ((Lib.decDigits n).length : Nat)) = ((d + 1 - (Lib.decDigits n).length : Nat) : Int) := by rw [wrap_id (by omega)]; omega
  have hadd : ∀ xo yo, binV Tryd.prog .add 9 xo yo (.string (S (Lib.repeatL [48] (d + 1 - (Lib.decDigits n).length)))) (.string (S (Lib.decDigits n))) = some (.string (S (digL n (d + 1)))) := fun xo yo => by
    rw [binV_str_add _ _ _ _ _ (by rw [S_size, S_size, Lib.repeatL_length]; simp; omega), S_app, h2]
  refine acalls_fn Tryd.func75 rfl Tryd.ntmps75 (by simp) (by dsimp only [Tryd.f75]) ?_
  repeat' (first
    | ((with_reducible refine eq_go ?_); simp only [stp, ev, put_some, put_none, argT_list, List.getD_cons_zero, List.getD_cons_succ, reduceIte, Nat.reduceEqDiff, Option.map_some, Array.map_empty, List.map_toArray, List.map_cons, List.map_nil, List.append_toArray, Array.append_empty, Array.empty_append, List.nil_append, List.append_nil, and_self, if_true, decide_true, decide_false, Int.toNat_natCast, Int.natCast_nonneg, List.length_map, binV_add, binV_sub, binV_and, binV_shr, binV_shl, binV_str_eql, binV_str_neq, binV_mul, binV_eql, binV_neq, binV_lss, binV_leq, binV_gtr, binV_geq, unV_not, Bool.not_true, Bool.not_false, Bool.cond_true, Bool.cond_false, blt, lenV, List.size_toArray, List.length_cons, List.length_nil, Nat.zero_add, Array.getD_eq_getD_getElem?, List.getElem?_toArray, List.getElem?_cons_zero, List.getElem?_cons_succ, Option.getD_some, Option.isSome_some, Ty.sz3, Ty.zc3, Ty.by3, Ty.sz9, Ty.st9, Ty.zc9, Ty.by9, *]; rfl)
    | (with_reducible refine aw_then ?_) | (with_reducible refine aw_skip ?_) | (with_reducible refine aw_ret ?_) | (with_reducible refine aw_exit ?_) | (with_reducible refine aw_block ?_) | (with_reducible refine xr_reg (by decide +kernel) ?_)
    | (with_reducible refine xr_nil ?_) | (with_reducible refine k_norm ?_) | (with_reducible refine k_ret ?_) | (with_reducible refine k_exit ?_) | (with_reducible refine b_norm ?_) | (with_reducible refine b_ret ?_) | (with_reducible refine b_exit ?_) | (with_reducible refine b_past (by decide) ?_)
    | (refine xr_cl (f := ?_) (fs := ?_) (cs := ?_) (args := ?_) (K := ?_) ?_ ?_ ?_ ?_ ?_
       rotate_left 5
       · simp only [ev]; rfl
       first
       | (· with_reducible exact Ty.ok65
          rotate_left 2
          refine hk_tag 65 ?_
          rotate_right 2)
       | (· with_reducible exact Ty.ok83
          rotate_left 2
          refine hk_tag 83 ?_
          rotate_right 2)
       )
    | (refine xr_do (v := ?_) (h' := ?_) (by exact rfl) ?_ ?_; rotate_left 2)
    | (refine xr_st (v := ?_) (h' := ?_) (by exact rfl) ?_ ?_; rotate_left 2)
    | (refine aw_ift (by decide) ?_ ?_
       · simp only [ev, put_some, reduceIte, Nat.reduceEqDiff, *])
    | (refine aw_iff (by decide) ?_ ?_
       · simp only [ev, put_some, reduceIte, Nat.reduceEqDiff, *])
    | (refine aw_if (b := ?_) (by decide) ?_ (fun hb => ?_) (fun hb => ?_)
       rotate_left 1
       · simp only [ev, put_some, reduceIte, Nat.reduceEqDiff, *]; rfl)
    | (refine r_ret (vs := ?_) ?_ ?_
       rotate_left 1
       · simp only [resV, ev, put_some, reduceIte, Nat.reduceEqDiff, Option.map_some, *]; rfl)
    | (with_reducible refine itoa_ok _ _ ?_
       · first | omega | (simp only [List.length_nil]; omega)
       )
    | (with_reducible refine rep0_ok _ _ ?_
       · first | omega | (simp only [List.length_nil]; omega)
       )
    | ((with_reducible refine HkTag.mk (n := 65) ?_); rintro _ _ ⟨rfl, hh⟩; replace hh := hh.symm; subst hh)
    | ((with_reducible refine HkTag.mk (n := 83) ?_); rintro _ _ ⟨rfl, hh⟩; replace hh := hh.symm; subst hh)
    )
  all_goals exact ⟨rfl, rfl⟩
theorem padded2 (n : Nat) (h : Heap) (hn : n < 100) : ACalls Tryd.prog dP 75 #[.int .i64 (n : Nat), .int .i64 2] h fun v h' => v = .string (S (digL n 2)) ∧ h' = h := padded_ok n 1 h (by omega) hn
theorem padded4 (n : Nat) (h : Heap) (hn : n < 10000) : ACalls Tryd.prog dP 75 #[.int .i64 (n : Nat), .int .i64 4] h fun v h' => v = .string (S (digL n 4)) ∧ h' = h := padded_ok n 3 h (by omega) hn
end Go.Proofs.YtkmenomglhddlaaDoor.Am

