/- Numbers as texts: the library's own, by its contracts; and frames. Conditions: none. -/
import Derived.Test.YtmjhfklmlcnofaaDoorJ3
import Derived.Test.YtmjhfklmlcnofaaDoorJW
import Derived.Test.YtmjhfklmlcnofaaDoorJT
import Derived.Test.YtmjhfklmlcnofaaDoorShelf
import Derived.Lib.AppendIntMem
import Derived.Lib.LaidTab
import Derived.Lib.Join
namespace Go.Proofs.YtmjhfklmlcnofaaDoor.Am
open Go Go.Proofs Go.RowKit
set_option linter.unusedVariables false
set_option linter.unusedSimpArgs false
set_option maxRecDepth 100000
set_option maxHeartbeats 8000000
/-- The library's table of powers of ten. -/
def isPow (o : Obj) : Prop := ∃ t z, o = .cells (Lib.pow10Tab.map fun z => Value.int .u64 z).toArray t z
/-- An error, or none. -/
def isErr (o : Obj) : Prop := ∃ cs t z ev, o = .cells cs t z ∧ cs[0]? = some ev ∧ (ev = .nilIface ∨ ∃ te pe, ev = .iface te pe)
/-- What is known of the program's variables: the table alone; the table and the library's two errors. -/
def dP : Glo := ⟨0, fun g => if g = 3 then some isPow else none⟩
def dE : Glo := ⟨0, fun g => if g = 3 then some isPow else if g = 0 ∨ g = 1 then some isErr else none⟩
/-- A contract that leans on less of the variables holds where more is known. -/
theorem acalls_more {P : Program} {G G' : Glo} {f : FuncId} {args : Array Value} {h : Heap} {K : Value → Heap → Prop} (hn : G'.n = G.n) (ht : ∀ g o, G.tab g = some o → G'.tab g = some o)
    (ha : ACalls P G f args h K) : ACalls P G' f args h K := by
  intro m args' w hs hr r
  have r0 : WRel G m h w := ⟨r.cell, r.room, r.iter, r.live, r.apart, by rw [← hn]; exact r.glob, fun g o q => r.tab g o (ht g o q)⟩
  refine (ha m args' w hs hr r0).mono ?_
  rintro e w' ⟨v, v', m', h', he, hv, r', g, k⟩
  refine ⟨v, v', m', h', he, hv, ⟨r'.cell, r'.room, r'.iter, r'.live, r'.apart, by rw [hn]; exact r'.glob, fun i o q => ?_⟩, g, k⟩
  obtain ⟨⟨x, hx, ox⟩, hown⟩ := r.tab i o q
  have hlt : i < w.heap.size := (Array.getElem?_eq_some_iff.1 hx).1
  refine ⟨⟨x, by rw [g.keeps i hlt hown]; exact hx, ox⟩, fun id b hb ho => ?_⟩
  rcases g.owned id b hb (Blk.own_live ho) with q1 | ⟨id0, b0, q1, q2, q3, q4⟩
  · omega
  · rw [← q4]; exact hown id0 b0 q1 (q3 ho)
theorem upPE {P : Program} {f : FuncId} {args : Array Value} {h : Heap} {K : Value → Heap → Prop} (ha : ACalls P dP f args h K) : ACalls P dE f args h K := by
  refine acalls_more (G := dP) (G' := dE) rfl (fun g o q => ?_) ha
  simp only [dP, dE] at q ⊢
  split at q
  · rename_i hg; rw [if_pos hg]; exact q
  · cases q
/-- The world of a call, before its arguments are opened. -/
theorem wrel_glo {G : Glo} {m : Map} {W : World} (hn : G.n = 0) (ht : ∀ g o, G.tab g = some o → ∃ x, W.heap[g]? = some x ∧ o x) : WRel G m [] W :=
  ⟨fun id b h => by simp at h, fun id b h => by simp at h, fun id b h => by simp at h, fun id b h => by simp at h, fun id id' b b' h => by simp at h, fun g hg => by omega, fun g o q => ⟨ht g o q, fun id b h => by simp at h⟩⟩
/-- A text by its bytes. -/
def S (l : List UInt8) : ByteArray := ⟨l.toArray⟩
theorem S_size (l : List UInt8) : (S l).size = l.length := by simp [S, ByteArray.size]
theorem S_app (a b : List UInt8) : S a ++ S b = S (a ++ b) := by
  apply ByteArray.ext
  simp [S]
theorem S_list (s : ByteArray) : S s.data.toList = s := by simp [S]
theorem S_inj {a b : List UInt8} : S a = S b ↔ a = b := by
  constructor
  · intro h
    have := congrArg (fun s : ByteArray => s.data.toList) h
    simpa [S] using this
  · intro h; rw [h]
theorem itoa_ok (n : Int) (h : Heap) (hn : -9223372036854775808 ≤ n ∧ n ≤ 9223372036854775807) : ACalls Tryd.prog dP 73 #[.int .i64 n] h fun v h' => v = .string (S (Lib.itoa n)) ∧ h' = h := by
  refine acalls_of_tab (by simp [af, af1]) (fun n m => .string _) fun w hw => ?_
  obtain ⟨x, hx, t, z, rfl⟩ := hw 3 _ rfl
  have htab : Lib.TabIs Tryd.prog w "internal/strconv.uint64pow10" .u64 Lib.pow10Tab := by
    unfold Lib.TabIs World.var?
    rw [show Tryd.prog.globalNamed "internal/strconv.uint64pow10" = some 3 by kernel_rfl]
    simp only [Z15, hx]
  refine (Tryd.strconv_Itoa n hn.1 hn.2 w htab).mono ?_
  rintro e w' ⟨rfl, k, os, rfl⟩
  exact ⟨rfl, Lib.below_grow _ _ (Z4 _) _ _⟩
/-- A number by so many digits. -/
def digL (n : Nat) : Nat → List UInt8
  | 0 => []
  | m + 1 => UInt8.ofNat (48 + n / 10 ^ m % 10) :: digL n m
theorem digL_last (n : Nat) : ∀ m, digL n (m + 1) = digL (n / 10) m ++ [UInt8.ofNat (48 + n % 10)]
  | 0 => by simp [digL]
  | m + 1 => by
      have ih := digL_last n m
      rw [digL, ih, digL]
      have : n / 10 ^ (m + 1) = n / 10 / 10 ^ m := by rw [Nat.div_div_eq_div_mul, Nat.pow_succ, Nat.mul_comm]
      rw [this]; rfl
theorem digL_zero : ∀ m, digL 0 m = Lib.repeatL [48] m
  | 0 => rfl
  | m + 1 => by
      rw [digL, digL_zero m]
      simp [Lib.repeatL]
theorem dec_pad : ∀ (d n : Nat), n < 10 ^ (d + 1) → (Lib.decDigits n).length ≤ d + 1 ∧ Lib.repeatL [48] (d + 1 - (Lib.decDigits n).length) ++ Lib.decDigits n = digL n (d + 1)
  | 0, n, h => by
      have h10 : n < 10 := by simpa using h
      rw [Lib.decDigits, dif_pos h10]
      simp [Lib.repeatL, digL, Nat.mod_eq_of_lt h10]
  | d + 1, n, h => by
      rw [Lib.decDigits]
      by_cases h10 : n < 10
      · rw [dif_pos h10]
        refine ⟨by simp, ?_⟩
        rw [digL_last, Nat.div_eq_of_lt h10, digL_zero, Nat.mod_eq_of_lt h10]
        simp
      · rw [dif_neg h10]
        have hlt : n / 10 < 10 ^ (d + 1) := by
          rw [Nat.div_lt_iff_lt_mul (by omega)]
          rw [Nat.pow_succ] at h; exact h
        obtain ⟨i1, i2⟩ := dec_pad d (n / 10) hlt
        refine ⟨by simp; exact i1, ?_⟩
        rw [digL_last, ← i2]
        simp
end Go.Proofs.YtmjhfklmlcnofaaDoor.Am
namespace Go.Proofs.YtmjhfklmlcnofaaDoor.Am
open Go Go.Proofs Go.RowKit
set_option linter.unusedVariables false
set_option linter.unusedSimpArgs false
theorem laid_at {P : Program} {W : World} {n : String} {d : DataW Unit} : ∀ {laid : List (String × DataW Unit)} {ps : List MemPlace}, DataW.LaidVars P W laid ps → (n, d) ∈ laid →
    ∃ g t cs fuel p, P.globalNamed n = some g ∧ (P.globals[g]?).map (·.type) = some t ∧ W.var? P n = some cs ∧ DataW.trod (fun _ => ()) P W 0 (fun _ => true) false fuel t cs.toList = some (d, p)
  | [], _, _, hm => by cases hm
  | (n', d') :: r, ps, ⟨g, t, cs, fuel, p, q, h1, h2, h3, h4, h5, _⟩, hm => by
      rcases List.mem_cons.1 hm with e | e
      · cases e; exact ⟨g, t, cs, fuel, p, h1, h2, h3, h4⟩
      · exact laid_at h5 e
theorem laid_pow {W : World} {laid : List (String × DataW Unit)} (h : laidMet Tryd.prog laid W) (hm : ("internal/strconv.uint64pow10", Lib.tabData .u64 Lib.pow10Tab) ∈ laid) : ∃ x, W.heap[3]? = some x ∧ isPow x := by
  obtain ⟨ps, hv, _⟩ := h
  obtain ⟨g, t, cs, fuel, p, h1, h2, h3, h4⟩ := laid_at hv hm
  have hg : Tryd.prog.globalNamed "internal/strconv.uint64pow10" = some 3 := by kernel_rfl
  obtain rfl := Option.some.inj (hg.symm.trans h1)
  have ht : (Tryd.prog.globals[3]?).map (·.type) = some 141 := by kernel_rfl
  obtain rfl := Option.some.inj (ht.symm.trans h2)
  have hc := Lib.cells_of_tab Tryd.underlying141 (by kernel_rfl) (by kernel_rfl) (by kernel_rfl) h4
  unfold World.var? at h3
  rw [hg] at h3
  simp only [Z15] at h3
  split at h3
  · rename_i cs' t' z' hx
    cases h3
    exact ⟨_, hx, t', z', by rw [← hc]⟩
  · cases h3
theorem iface_cell {P : Program} {w : World} {fuel : Nat} {t : TypeId} {cs : List Value} {d : DataW Unit} {p : List MemPlace} {ms : Array (String × TypeId)} (hu : P.underlying t = some (.interface ms))
    (h : DataW.trod (fun _ => ()) P w 0 (fun _ => true) false fuel t cs = some (d, p)) : ∃ ev, cs = [ev] ∧ (ev = .nilIface ∨ ∃ a b, ev = .iface a b) := by
  cases fuel with
  | zero => simp [DataW.trod] at h
  | succ fuel =>
    simp only [DataW.trod, hu] at h
    split at h
    all_goals first
      | exact ⟨_, rfl, .inl rfl⟩
      | exact ⟨_, rfl, .inr ⟨_, _, rfl⟩⟩
      | (exfalso; simp_all; done)
theorem laid_err {W : World} {laid : List (String × DataW Unit)} (h : laidMet Tryd.prog laid W) {n : String} {g : Nat} {d : DataW Unit} (hg : Tryd.prog.globalNamed n = some g) (ht : (Tryd.prog.globals[g]?).map (·.type) = some 78)
    (hm : (n, d) ∈ laid) : ∃ x, W.heap[g]? = some x ∧ isErr x := by
  obtain ⟨ps, hv, _⟩ := h
  obtain ⟨g', t, cs, fuel, p, h1, h2, h3, h4⟩ := laid_at hv hm
  obtain rfl := Option.some.inj (hg.symm.trans h1)
  obtain rfl := Option.some.inj (ht.symm.trans h2)
  obtain ⟨ev, e1, e2⟩ := iface_cell Tryd.underlying78 h4
  unfold World.var? at h3
  rw [hg] at h3
  simp only [Z15] at h3
  split at h3
  · rename_i cs' t' z' hx
    cases h3
    refine ⟨_, hx, _, t', z', ev, rfl, ?_, e2⟩
    have := congrArg (·[0]?) e1
    simpa using this
  · cases h3
theorem wrel_dE {m : Map} {W : World} {laid : List (String × DataW Unit)} (h : laidMet Tryd.prog laid W) (hm : ("internal/strconv.uint64pow10", Lib.tabData .u64 Lib.pow10Tab) ∈ laid) {d1 d2 : DataW Unit}
    (hm1 : ("strconv.ErrSyntax", d1) ∈ laid) (hm2 : ("strconv.ErrRange", d2) ∈ laid) : WRel dE m [] W := by
  refine wrel_glo rfl fun g o q => ?_
  simp only [dE] at q
  split at q
  · rename_i hg; subst hg; cases q; exact laid_pow h hm
  · split at q
    · rename_i hg
      cases q
      rcases hg with rfl | rfl
      · exact laid_err h (by kernel_rfl) (by kernel_rfl) hm1
      · exact laid_err h (by kernel_rfl) (by kernel_rfl) hm2
    · cases q
end Go.Proofs.YtmjhfklmlcnofaaDoor.Am
namespace Go.Proofs.YtmjhfklmlcnofaaDoor.Am
open Go Go.Proofs Go.RowKit
set_option linter.unusedVariables false
set_option linter.unusedSimpArgs false
set_option maxRecDepth 100000
set_option maxHeartbeats 8000000
theorem bstr_one (n : Nat) : bstr [(n : Int)] = S [UInt8.ofNat n] := by
  apply ByteArray.ext
  simp [bstr, S, ByteArray.push]
/-- A byte of a text as a number. -/
def bt (s : ByteArray) (i : Nat) : Int := match s[i]? with | some b => (b.toNat : Int) | none => 0
theorem bt_idx {P : Program} {t : TypeId} (ht : stT P t = true) (s : ByteArray) {i : Nat} (h : i < s.size) (k : IntKind) : idxV P t (.string s) (.int k (i : Nat)) = some (.int .u8 (bt s i)) := by
  have e : s[i]? = some (s[i]) := by simp [h]
  simp only [idxV, bt, ht, Zq, e]
  simp
/-- The sum of a text's bytes by their places, of the first k of them. -/
def sm (s : ByteArray) : Nat → Int
  | 0 => 0
  | k + 1 => sm s k + ((k : Int) + 1) * bt s k
/-- A frame: room, length, text, and the sum of these. -/
def headT (r : Nat) (s : ByteArray) : ByteArray := S (digL r 2) ++ S (digL s.size 2) ++ s
def frameT (r : Nat) (s : ByteArray) : ByteArray := headT r s ++ S (digL (sm (headT r s) (headT r s).size % 9973).toNat 4)
theorem within_ok (n lo hi : Int) (h : Heap) : ACalls Tryd.prog dP 40 #[.int .i64 n, .int .i64 lo, .int .i64 hi] h
    fun v h' => v = .bool (decide (lo ≤ n ∧ n ≤ hi)) ∧ h' = h := by
  refine Z36 Tryd.func40 rfl Tryd.ntmps40 (by simp) (by dsimp only [Tryd.f40]) ?_
  repeat' (first | refine wS ?_ | refine wD ?_ | refine wT ?_ | refine wL ?_ | refine wB ?_ | refine wG ?_ | refine gw_if (fun hb => ?_) (fun hb => ?_) | refine wC ?_ | refine cw_if (fun hb => ?_) (fun hb => ?_) | refine wR ?_)
  all_goals refine ⟨?_, rfl⟩
  all_goals simp_all [oneOf]
  all_goals omega
theorem l1In_ok (n lo hi : Int) (h : Heap) : ACalls Tryd.prog dP 41 #[.int .i64 n, .int .i64 lo, .int .i64 hi] h
    fun v h' => v = .bool (decide (lo ≤ n ∧ n ≤ hi)) ∧ h' = h := by
  refine Z36 Tryd.func41 rfl Tryd.ntmps41 (by simp) (by dsimp only [Tryd.f41]) ?_
  repeat' (first | refine wS ?_ | refine wD ?_ | refine wT ?_ | refine wL ?_ | refine wB ?_ | refine wG ?_ | refine gw_if (fun hb => ?_) (fun hb => ?_) | refine wC ?_ | refine cw_if (fun hb => ?_) (fun hb => ?_) | refine wR ?_)
  all_goals refine ⟨?_, rfl⟩
  all_goals simp_all [oneOf]
  all_goals omega
end Go.Proofs.YtmjhfklmlcnofaaDoor.Am
namespace Go.Proofs.YtmjhfklmlcnofaaDoor.Am
open Go Go.Proofs Go.RowKit
set_option linter.unusedVariables false
set_option linter.unusedSimpArgs false
set_option maxRecDepth 100000
set_option maxHeartbeats 8000000
/-- A slice of given elements, in a region whose order is open. -/
theorem xd_bs {P : Program} {G : Glo} {Q : Exit → Tmps → Heap → Prop} {ops : Array Oper} {ms : List Nat} {T : Tmps} {h h' : Heap} {rest : List Oper} {j : Nat} {al : List Bool} {t n d ty : Nat} {xs : Array (Nat × Operand)} {pos : String} {aft : Array Edge} {v : Value} {L : Heap}
    (ho : ordAll ms al j = true) (hs : stp P h (ev T) (.buildSlice t n xs) = some (v, h')) (he : h' = h ++ L)
    (hk : XD P G ops ms Q rest (j + 1) (put T (some d) v) (h ++ L) (al ++ [true])) : XD P G ops ms Q (⟨some d, .buildSlice t n xs, ty, pos, aft, none⟩ :: rest) j T h al := xd_mk rfl L ho hs he hk
theorem dec_small {n : Nat} (h : n < 10) : Lib.decDigits n = [UInt8.ofNat (48 + n)] := by rw [Lib.decDigits, dif_pos h]
theorem dec_big {n : Nat} (h : ¬ n < 10) : Lib.decDigits n = Lib.decDigits (n / 10) ++ [UInt8.ofNat (48 + n % 10)] := by rw [Lib.decDigits, dif_neg h]
theorem dec_len {n : Nat} (d : Nat) (h : n < 10 ^ (d + 1)) : (Lib.decDigits n).length ≤ d + 1 := (dec_pad d n h).1
theorem l1Num_ok (n : Nat) : ∀ (h : Heap), n ≤ 999999999 → ACalls Tryd.prog dP 75 #[.int .i64 (n : Nat)] h fun v h' => v = .string (S (Lib.decDigits n)) ∧ h' = h := by
  induction n using Nat.strongRecOn with
  | _ n ih =>
  intro h hn
  refine acalls_pure (.inl rfl) ?_
  by_cases h10 : n < 10
  · have hlt : (n : Int) < 10 := by omega
    have hw1 : IntKind.i64.wrap (48 + (n : Int)) = ((48 + n : Nat) : Int) := by rw [wrap_id (by omega)]; omega
    have hw2 : IntKind.u8.wrap ((48 + n : Nat) : Int) = ((48 + n : Nat) : Int) := by simp [IntKind.wrap, IntKind.signed, IntKind.bits]; omega
    have hb := bstr_one (48 + n)
    rw [dec_small h10]
    refine Z36 Tryd.func75 rfl Tryd.ntmps75 (by simp) (by dsimp only [Tryd.f75]) ?_
    repeat' (first | refine wS ?_ | refine wD ?_ | refine wT ?_ | refine wL ?_ | refine wB ?_ | refine wC ?_ | refine cw_if (fun hb => ?_) (fun hb => ?_) | refine wR ?_ | refine wV (ms := [0, 1, 3, 0, 8, 24, 56, 120, 248, 511, 1023]) ?_ | refine wX ?_ | (refine wK (K := ?_) ?_ ?_; rotate_left 1) | (refine wM (v := ?_) ?_ ?_; rotate_left 1) | (refine xd_bs (v := ?_) (h' := ?_) (L := ?_) (by decide +kernel) ?_ ?_ ?_; rotate_left 3; (· exact eqA); (· exact rfl)) | (with_reducible exact ih' _) | refine hkp ?_)
    exact ⟨rfl, _, rfl⟩
  · have hlt : ¬ (n : Int) < 10 := by omega
    have ih' : ∀ (h : Heap), ACalls Tryd.prog dP 75 #[.int .i64 ((n / 10 : Nat) : Int)] h fun v h' => v = .string (S (Lib.decDigits (n / 10))) ∧ h' = h := fun h => ih (n / 10) (by omega) h (by omega)
    have hdv : (n : Int).tdiv 10 = ((n / 10 : Nat) : Int) := by rw [Int.tdiv_eq_ediv_of_nonneg (by omega)]; omega
    have hm : (n : Int).tmod 10 = ((n % 10 : Nat) : Int) := by rw [Int.tmod_eq_emod_of_nonneg (by omega)]; omega
    have hw0 : IntKind.i64.wrap ((n / 10 : Nat) : Int) = ((n / 10 : Nat) : Int) := wrap_id (by omega)
    have hw1 : IntKind.i64.wrap (48 + ((n % 10 : Nat) : Int)) = ((48 + n % 10 : Nat) : Int) := by rw [wrap_id (by omega)]; omega
    have hw2 : IntKind.u8.wrap ((48 + n % 10 : Nat) : Int) = ((48 + n % 10 : Nat) : Int) := by simp [IntKind.wrap, IntKind.signed, IntKind.bits]; omega
    have hlen := dec_len (n := n / 10) 9 (by omega)
    have hadd : ∀ xo yo, binV Tryd.prog .add 9 xo yo (.string (S (Lib.decDigits (n / 10)))) (.string (bstr [((48 + n % 10 : Nat) : Int)])) = some (.string (S (Lib.decDigits n))) := fun xo yo => by
      rw [bstr_one, binV_str_add _ _ _ _ _ (by rw [S_size, S_size]; simp; omega), S_app, ← dec_big h10]
    generalize hc : ((48 + n % 10 : Nat) : Int) = c at *
    refine Z36 Tryd.func75 rfl Tryd.ntmps75 (by simp) (by dsimp only [Tryd.f75]) ?_
    repeat' (first | refine wS ?_ | refine wD ?_ | refine wT ?_ | refine wL ?_ | refine wB ?_ | refine wC ?_ | refine cw_if (fun hb => ?_) (fun hb => ?_) | refine wR ?_ | refine wV (ms := [0, 1, 3, 0, 8, 24, 56, 120, 248, 511, 1023]) ?_ | refine wX ?_ | (refine wK (K := ?_) ?_ ?_; rotate_left 1) | (refine wM (v := ?_) ?_ ?_; rotate_left 1) | (refine xd_bs (v := ?_) (h' := ?_) (L := ?_) (by decide +kernel) ?_ ?_ ?_; rotate_left 3; (· exact eqA); (· exact rfl)) | (with_reducible exact ih' _) | refine hkp ?_)
    exact ⟨rfl, _, rfl⟩
/-! ### a work act -/
structure Act where
  k : Int
  c : Int
  i : Int
  w : Int
  t : Int
  p : Int
  m : Int
deriving DecidableEq
def Act.cells (x : Act) : List Value := [.int .i64 x.k, .int .i64 x.c, .int .i64 x.i, .int .i64 x.w, .int .i64 x.t, .int .i64 x.p, .int .i64 x.m]
def Act.zero : Act := ⟨0, 0, 0, 0, 0, 0, 0⟩
theorem Act.cells_length (x : Act) : x.cells.length = 7 := rfl
theorem Act.cells_flat (x : Act) : x.cells.all flat = true := rfl
theorem Act.cells_take (x : Act) : x.cells.take 7 = x.cells := rfl
theorem Act.cells_splice (x : Act) (q0 q1 q2 q3 q4 q5 q6 : Value) : splice [q0, q1, q2, q3, q4, q5, q6] 0 x.cells = x.cells := rfl
theorem Act.get0 (x : Act) : x.cells[0]? = some (.int .i64 x.k) := rfl
theorem Act.get1 (x : Act) : x.cells[1]? = some (.int .i64 x.c) := rfl
theorem Act.get2 (x : Act) : x.cells[2]? = some (.int .i64 x.i) := rfl
theorem Act.get3 (x : Act) : x.cells[3]? = some (.int .i64 x.w) := rfl
theorem Act.get4 (x : Act) : x.cells[4]? = some (.int .i64 x.t) := rfl
theorem Act.get5 (x : Act) : x.cells[5]? = some (.int .i64 x.p) := rfl
theorem Act.get6 (x : Act) : x.cells[6]? = some (.int .i64 x.m) := rfl
theorem Act.af (x : Act) : Am.af (.agg x.cells.toArray) = true := by simp [Am.af, af1, Act.cells]
theorem Act.plain (x : Act) : x.cells.length = 7 ∧ ∀ u ∈ x.cells, Am.af u = true ∧ flat u = true := by
  refine ⟨rfl, fun u hu => ?_⟩
  simp only [Act.cells, List.mem_cons, Z38, or_false] at hu
  rcases hu with rfl | rfl | rfl | rfl | rfl | rfl | rfl <;> exact ⟨rfl, rfl⟩
theorem Act.rv (n : Nat) (L : Heap) (ks : List Nat) (x : Act) : RV n L ks (.agg x.cells.toArray) (.agg x.cells.toArray) :=
  RVl.agg (l := x.cells) (l' := x.cells) ⟨.plain _ rfl, .plain _ rfl, .plain _ rfl, .plain _ rfl, .plain _ rfl, .plain _ rfl, .plain _ rfl, trivial⟩
theorem Act.fields (a b : Act) : ∃ fs, Program.underlying Tryd.prog 52 = some (.struct fs) ∧ pureRun Tryd.prog (Op.eqFields (9998 + 1) a.cells.toArray b.cells.toArray fs.toList) =
    some ((a.k == b.k) && ((a.c == b.c) && ((a.i == b.i) && ((a.w == b.w) && ((a.t == b.t) && ((a.p == b.p) && ((a.m == b.m) && true))))))) := by
  have i3 : pureRun Tryd.prog (isAgg 3) = some false := by kernel_rfl
  refine ⟨_, Tryd.underlying52, ?_⟩
  refine pr_field (by decide) (pr_part i3 _ _ rfl) (pr_part i3 _ _ rfl) (pr_int Tryd.underlying3 _ _ _) ?_
  refine pr_field (by decide) (pr_part i3 _ _ rfl) (pr_part i3 _ _ rfl) (pr_int Tryd.underlying3 _ _ _) ?_
  refine pr_field (by decide) (pr_part i3 _ _ rfl) (pr_part i3 _ _ rfl) (pr_int Tryd.underlying3 _ _ _) ?_
  refine pr_field (by decide) (pr_part i3 _ _ rfl) (pr_part i3 _ _ rfl) (pr_int Tryd.underlying3 _ _ _) ?_
  refine pr_field (by decide) (pr_part i3 _ _ rfl) (pr_part i3 _ _ rfl) (pr_int Tryd.underlying3 _ _ _) ?_
  refine pr_field (by decide) (pr_part i3 _ _ rfl) (pr_part i3 _ _ rfl) (pr_int Tryd.underlying3 _ _ _) ?_
  refine pr_field (by decide) (pr_part i3 _ _ rfl) (pr_part i3 _ _ rfl) (pr_int Tryd.underlying3 _ _ _) ?_
  rfl
theorem Act.beq (a b : Act) : ((a.k == b.k) && ((a.c == b.c) && ((a.i == b.i) && ((a.w == b.w) && ((a.t == b.t) && ((a.p == b.p) && ((a.m == b.m) && true))))))) = decide (a = b) := by
  rw [Bool.eq_iff_iff]
  obtain ⟨a0, a1, a2, a3, a4, a5, a6⟩ := a
  obtain ⟨b0, b1, b2, b3, b4, b5, b6⟩ := b
  simp
theorem Act.cmp (a b : Act) (xo yo : Operand) : binV Tryd.prog .eql 52 xo yo (.agg a.cells.toArray) (.agg b.cells.toArray) = some (.bool (decide (a = b))) ∧
    binV Tryd.prog .neq 52 xo yo (.agg a.cells.toArray) (.agg b.cells.toArray) = some (.bool (!decide (a = b))) := by
  obtain ⟨fs, hu, hf⟩ := Act.fields a b
  rw [Act.beq] at hf
  exact agg_cmp hu (by kernel_rfl) (by kernel_rfl) (by simp [Act.cells, af1]) hf
theorem Act.eql (a b : Act) (xo yo : Operand) : binV Tryd.prog .eql 52 xo yo (.agg a.cells.toArray) (.agg b.cells.toArray) = some (.bool (decide (a = b))) := (Act.cmp a b xo yo).1
theorem Act.neq (a b : Act) (xo yo : Operand) : binV Tryd.prog .neq 52 xo yo (.agg a.cells.toArray) (.agg b.cells.toArray) = some (.bool (!decide (a = b))) := (Act.cmp a b xo yo).2
def Act.ints (x : Act) : List Int := [x.k, x.c, x.i, x.w, x.t, x.p, x.m]
def ints (l : List Int) : List (List Value) := l.map fun n => [.int .i64 n]
theorem ints_len (l : List Int) : ∀ r ∈ ints l, r.length = 1 := fun r hr => by
  obtain ⟨a, _, rfl⟩ := List.mem_map.1 hr
  rfl
def inR (lo hi : Int) (n : Int) : Bool := decide (lo ≤ n ∧ n ≤ hi)
theorem fields_ok (x : Act) (h : Heap) : ACalls Tryd.prog dP 66 #[.agg x.cells.toArray] h fun v h' => ∃ L, h' = h ++ L ∧ Sl (h ++ L) v 1 (ints x.ints) := by
  have hx : x.cells = [.int .i64 x.k, .int .i64 x.c, .int .i64 x.i, .int .i64 x.w, .int .i64 x.t, .int .i64 x.p, .int .i64 x.m] := rfl
  rw [hx]
  refine Z36 Tryd.func66 rfl Tryd.ntmps66 (by simp) (by dsimp only [Tryd.f66]) ?_
  repeat' (first | refine wS ?_ | refine wD ?_ | refine wT ?_ | refine wL ?_ | refine wB ?_ | refine wC ?_ | refine cw_if (fun hb => ?_) (fun hb => ?_) | refine wR ?_)
  exact ⟨_, rfl, Sl.at (k := 1) (rows := ints x.ints) rfl (ints_len _) rfl⟩
theorem l1All_ok (l : List Int) (lo hi : Int) (h : Heap) (v : Value) (hb : l.length ≤ 1000) (hs : Sl h v 1 (ints l)) :
    ACalls Tryd.prog dP 65 #[v, .int .i64 lo, .int .i64 hi] h fun v h' => v = .bool (l.all (inR lo hi)) ∧ h' = h := by
  obtain ⟨b, c, rfl, hc, hrow⟩ := hs
  simp only [ints, Zv] at hc ⊢
  refine Z36 Tryd.func65 rfl Tryd.ntmps65 (by simp) (by dsimp only [Tryd.f65]) ?_
  repeat' (first | refine wS ?_ | refine wD ?_ | refine wT ?_ | refine wL ?_ | refine wB ?_ | refine wC ?_ | refine cw_if (fun hb => ?_) (fun hb => ?_) | refine wR ?_ | (refine wK (K := ?_) ?_ ?_; rotate_left 1) | (with_reducible exact l1In_ok _ _ _ _) | refine hkp ?_)
  refine aw_for [1, 2, 9, 10] (fun k T h' => h' = h ∧ T 11 = .int .i64 k ∧ (l.take k).all (inR lo hi) = true) l.length (k0 := 0) (Nat.zero_le _) ⟨rfl, rfl, rfl⟩ ?_
  rintro k T h' hk hR ⟨rfl, h11, hall⟩
  simp only [Z37, Z38, Z39, implies_true, and_true, stp, ev, ZB, reduceIte, Nat.reduceEqDiff, Z2x, Z13, Zy] at hR
  rcases Nat.lt_or_ge k l.length with hkn | hkn
  · have h1 : (k : Int) < l.length := by omega
    obtain ⟨a, rfl, hl⟩ := Sl.row hrow (k := k) (by simpa [ints] using hkn)
    simp only [ints, List.getElem_map] at hl
    have hg := getC_of_load hl
    cases hi2 : (decide (lo ≤ l[k] ∧ l[k] ≤ hi)) with
    | false =>
      repeat' (first | refine wS ?_ | refine wD ?_ | refine wT ?_ | refine wL ?_ | refine wB ?_ | refine wC ?_ | refine cw_if (fun hb => ?_) (fun hb => ?_) | refine wR ?_ | (refine wK (K := ?_) ?_ ?_; rotate_left 1) | (with_reducible exact l1In_ok _ _ _ _) | refine hkp ?_)
      have : (l.all (inR lo hi)) = false := List.all_eq_false.2 ⟨l[k], List.getElem_mem _, by simp only [inR, hi2]; decide⟩
      rw [this]; exact ⟨rfl, rfl⟩
    | true =>
      repeat' (first | refine wS ?_ | refine wD ?_ | refine wT ?_ | refine wL ?_ | refine wB ?_ | refine wC ?_ | refine cw_if (fun hb => ?_) (fun hb => ?_) | refine wR ?_ | (refine wK (K := ?_) ?_ ?_; rotate_left 1) | (with_reducible exact l1In_ok _ _ _ _) | refine hkp ?_)
      refine ⟨by first | assumption | omega, ?_, ?_⟩
      · simp only [Z37, Z38, Z39, implies_true, and_true, ZB, stp, ev, reduceIte, Nat.reduceEqDiff, Z2x, Z13, Zy, *]
      refine ⟨rfl, ?_, ?_⟩
      · simp only [Zb, reduceIte, Nat.reduceEqDiff]
        rw [wrap_id (by omega)]; rfl
      · rw [← List.take_append_getElem hkn, List.all_append, hall]
        simp only [Z1f, Z1p, Z1d, Bool.true_and]; exact hi2
  · have h1 : ¬ (k : Int) < l.length := by omega
    repeat' (first | refine wS ?_ | refine wD ?_ | refine wT ?_ | refine wL ?_ | refine wB ?_ | refine wC ?_ | refine cw_if (fun hb => ?_) (fun hb => ?_) | refine wR ?_ | (refine wK (K := ?_) ?_ ?_; rotate_left 1) | (with_reducible exact l1In_ok _ _ _ _) | refine hkp ?_)
    rw [List.take_of_length_le hkn] at hall
    rw [hall]; exact ⟨rfl, rfl⟩
theorem allWithin_ok (l : List Int) (lo hi : Int) (h : Heap) (v : Value) (hb : l.length ≤ 1000) (hs : Sl h v 1 (ints l)) :
    ACalls Tryd.prog dP 70 #[v, .int .i64 lo, .int .i64 hi] h fun v h' => v = .bool (l.all (inR lo hi)) ∧ h' = h := by
  obtain ⟨b, c, rfl, hc, hrow⟩ := hs
  simp only [ints, Zv] at hc ⊢
  refine Z36 Tryd.func70 rfl Tryd.ntmps70 (by simp) (by dsimp only [Tryd.f70]) ?_
  repeat' (first | refine wS ?_ | refine wD ?_ | refine wT ?_ | refine wL ?_ | refine wB ?_ | refine wC ?_ | refine cw_if (fun hb => ?_) (fun hb => ?_) | refine wR ?_ | (refine wK (K := ?_) ?_ ?_; rotate_left 1) | (with_reducible exact within_ok _ _ _ _) | refine hkp ?_)
  refine aw_for [1, 2, 9, 10] (fun k T h' => h' = h ∧ T 11 = .int .i64 k ∧ (l.take k).all (inR lo hi) = true) l.length (k0 := 0) (Nat.zero_le _) ⟨rfl, rfl, rfl⟩ ?_
  rintro k T h' hk hR ⟨rfl, h11, hall⟩
  simp only [Z37, Z38, Z39, implies_true, and_true, stp, ev, ZB, reduceIte, Nat.reduceEqDiff, Z2x, Z13, Zy] at hR
  rcases Nat.lt_or_ge k l.length with hkn | hkn
  · have h1 : (k : Int) < l.length := by omega
    obtain ⟨a, rfl, hl⟩ := Sl.row hrow (k := k) (by simpa [ints] using hkn)
    simp only [ints, List.getElem_map] at hl
    have hg := getC_of_load hl
    cases hi2 : (decide (lo ≤ l[k] ∧ l[k] ≤ hi)) with
    | false =>
      repeat' (first | refine wS ?_ | refine wD ?_ | refine wT ?_ | refine wL ?_ | refine wB ?_ | refine wC ?_ | refine cw_if (fun hb => ?_) (fun hb => ?_) | refine wR ?_ | (refine wK (K := ?_) ?_ ?_; rotate_left 1) | (with_reducible exact within_ok _ _ _ _) | refine hkp ?_)
      have : (l.all (inR lo hi)) = false := List.all_eq_false.2 ⟨l[k], List.getElem_mem _, by simp only [inR, hi2]; decide⟩
      rw [this]; exact ⟨rfl, rfl⟩
    | true =>
      repeat' (first | refine wS ?_ | refine wD ?_ | refine wT ?_ | refine wL ?_ | refine wB ?_ | refine wC ?_ | refine cw_if (fun hb => ?_) (fun hb => ?_) | refine wR ?_ | (refine wK (K := ?_) ?_ ?_; rotate_left 1) | (with_reducible exact within_ok _ _ _ _) | refine hkp ?_)
      refine ⟨by first | assumption | omega, ?_, ?_⟩
      · simp only [Z37, Z38, Z39, implies_true, and_true, ZB, stp, ev, reduceIte, Nat.reduceEqDiff, Z2x, Z13, Zy, *]
      refine ⟨rfl, ?_, ?_⟩
      · simp only [Zb, reduceIte, Nat.reduceEqDiff]
        rw [wrap_id (by omega)]; rfl
      · rw [← List.take_append_getElem hkn, List.all_append, hall]
        simp only [Z1f, Z1p, Z1d, Bool.true_and]; exact hi2
  · have h1 : ¬ (k : Int) < l.length := by omega
    repeat' (first | refine wS ?_ | refine wD ?_ | refine wT ?_ | refine wL ?_ | refine wB ?_ | refine wC ?_ | refine cw_if (fun hb => ?_) (fun hb => ?_) | refine wR ?_ | (refine wK (K := ?_) ?_ ?_; rotate_left 1) | (with_reducible exact within_ok _ _ _ _) | refine hkp ?_)
    rw [List.take_of_length_le hkn] at hall
    rw [hall]; exact ⟨rfl, rfl⟩
/-- The acts' texts. -/
def decs (l : List Int) : List (List UInt8) := l.map fun n => Lib.decDigits n.toNat
theorem join_snoc (sep : List UInt8) : ∀ (xs : List (List UInt8)) (y : List UInt8), xs ≠ [] → Lib.join (xs ++ [y]) sep = Lib.join xs sep ++ sep ++ y
  | [], _, h => absurd rfl h
  | x :: r, y, _ => by
      rw [Zc, Lib.join_cons, Lib.join_cons]
      simp [Lib.joinTail, Z7]
theorem decs_le {l : List Int} (h : l.all (inR 0 999) = true) : ∀ x ∈ decs l, x.length ≤ 3 := fun x hx => by
  obtain ⟨n, hn, rfl⟩ := List.mem_map.1 hx
  have := List.all_eq_true.1 h n hn
  simp only [inR, decide_eq_true_eq] at this
  exact dec_len 2 (by omega)
theorem joinTail_len (r : List (List UInt8)) (h : ∀ x ∈ r, x.length ≤ 3) : (Lib.joinTail [32] r).length ≤ 4 * r.length := by
  induction r with
  | nil => simp [Lib.joinTail]
  | cons x r ih =>
    have i := ih fun y hy => h y (List.mem_cons_of_mem _ hy)
    have b := h x List.mem_cons_self
    simp only [Lib.joinTail, Z16, List.flatten_cons, Z6, Z3, Z2] at i ⊢
    omega
theorem join_len : ∀ (xs : List (List UInt8)), (∀ x ∈ xs, x.length ≤ 3) → (Lib.join xs [32]).length ≤ 4 * xs.length
  | [], _ => by rw [Lib.join_nil]; simp
  | x :: r, h => by
      have i := joinTail_len r fun y hy => h y (List.mem_cons_of_mem _ hy)
      have b := h x List.mem_cons_self
      rw [Lib.join_cons, Z6, Z3]
      omega
end Go.Proofs.YtmjhfklmlcnofaaDoor.Am
namespace Go.Proofs.YtmjhfklmlcnofaaDoor.Am
open Go Go.Proofs Go.RowKit
set_option linter.unusedVariables false
set_option linter.unusedSimpArgs false
set_option maxRecDepth 100000
set_option maxHeartbeats 8000000
theorem l1NumZ_ok (n : Int) (h : Heap) (hn : 0 ≤ n ∧ n ≤ 999) : ACalls Tryd.prog dP 75 #[.int .i64 n] h fun v h' => v = .string (S (Lib.decDigits n.toNat)) ∧ h' = h := by
  have := l1Num_ok n.toNat h (by omega)
  rw [show ((n.toNat : Nat) : Int) = n by omega] at this
  exact this
theorem l1Text_ok (l : List Int) (v : Value) (h : Heap) (hb : l.length ≤ 1000) (hall : l.all (inR 0 999) = true) (hs : Sl h v 1 (ints l)) :
    ACalls Tryd.prog dP 67 #[v] h fun v h' => v = .string (S (Lib.join (decs l) [32])) ∧ h' = h := by
  refine acalls_pure (.inl rfl) ?_
  obtain ⟨b, c, rfl, hc, hrow⟩ := hs
  simp only [ints, Zv] at hc ⊢
  have hlen : (decs l).length = l.length := by simp [decs]
  refine Z36 Tryd.func67 rfl Tryd.ntmps67 (by simp) (by dsimp only [Tryd.f67]) ?_
  repeat' (first | refine wS ?_ | refine wD ?_ | refine wT ?_ | refine wL ?_ | refine wB ?_ | refine wC ?_ | refine cw_if (fun hb => ?_) (fun hb => ?_) | refine wR ?_ | (refine wK (K := ?_) ?_ ?_; rotate_left 1) | ((with_reducible refine l1NumZ_ok _ _ ?_); (· assumption)) | refine hkp ?_)
  refine aw_for [6, 7] (fun k T h' => h' = h ∧ T 8 = .int .i64 k ∧ T 3 = .string (S (Lib.join ((decs l).take k) [32]))) l.length (k0 := 0) (Nat.zero_le _) ⟨rfl, rfl, rfl⟩ ?_
  rintro k T h' hk hR ⟨rfl, h8, h3⟩
  simp only [Z37, Z38, Z39, implies_true, and_true, stp, ev, ZB, reduceIte, Nat.reduceEqDiff, Z2x, Z13, Zy] at hR
  rcases Nat.lt_or_ge k l.length with hkn | hkn
  · have h1 : (k : Int) < l.length := by omega
    obtain ⟨a, rfl, hl⟩ := Sl.row hrow (k := k) (by simpa [ints] using hkn)
    simp only [ints, List.getElem_map] at hl
    have hg := getC_of_load hl
    have hin : 0 ≤ l[k] ∧ l[k] ≤ 999 := by
      have := List.all_eq_true.1 hall l[k] (List.getElem_mem _)
      simpa only [inR, decide_eq_true_eq] using this
    have hd3 := dec_len (n := l[k].toNat) 2 (by omega)
    have hJl := join_len ((decs l).take k) fun x hx => decs_le hall x (List.mem_of_mem_take hx)
    have hJl2 : (Lib.join ((decs l).take k) [32]).length ≤ 4 * k := by rw [List.length_take] at hJl; omega
    have htk : (decs l).take (k + 1) = (decs l).take k ++ [Lib.decDigits l[k].toNat] := by
      rw [List.take_succ_eq_append_getElem (by omega)]; simp [decs]
    by_cases hk0 : k = 0
    · have hgt : ¬ (0 : Int) < ((k : Nat) : Int) := by omega
      have hadd : ∀ xo yo, binV Tryd.prog .add 9 xo yo (.string (S (Lib.join ((decs l).take k) [32]))) (.string (S (Lib.decDigits l[k].toNat))) = some (.string (S (Lib.join ((decs l).take (k + 1)) [32]))) := fun xo yo => by
        rw [binV_str_add _ _ _ _ _ (by rw [S_size, S_size]; simp; omega), S_app, htk, show (decs l).take k = [] by rw [hk0]; rfl]
        simp only [Lib.join_nil, Zd, Lib.join_one]
      clear htk hd3 hJl hJl2 hk0
      repeat' (first | refine wS ?_ | refine wD ?_ | refine wT ?_ | refine wL ?_ | refine wB ?_ | refine wC ?_ | refine cw_if (fun hb => ?_) (fun hb => ?_) | refine wR ?_ | (refine wK (K := ?_) ?_ ?_; rotate_left 1) | ((with_reducible refine l1NumZ_ok _ _ ?_); (· assumption)) | refine hkp ?_)
      refine ⟨by first | assumption | omega, ?_, ?_⟩
      · simp only [Z37, Z38, Z39, implies_true, and_true, ZB, stp, ev, reduceIte, Nat.reduceEqDiff, Z2x, Z13, Zy, *]
      refine ⟨rfl, ?_, rfl⟩
      simp only [Zb, reduceIte, Nat.reduceEqDiff]
      rw [wrap_id (by omega)]; rfl
    · have hgt : (0 : Int) < ((k : Nat) : Int) := by omega
      have hadd1 : ∀ xo yo, binV Tryd.prog .add 9 xo yo (.string (S (Lib.join ((decs l).take k) [32]))) (.string ⟨#[32]⟩) = some (.string (S (Lib.join ((decs l).take k) [32] ++ [32]))) := fun xo yo => by
        rw [show (⟨#[32]⟩ : ByteArray) = S [32] from rfl, binV_str_add _ _ _ _ _ (by rw [S_size, S_size]; simp; omega), S_app]
      have hadd2 : ∀ xo yo, binV Tryd.prog .add 9 xo yo (.string (S (Lib.join ((decs l).take k) [32] ++ [32]))) (.string (S (Lib.decDigits l[k].toNat))) = some (.string (S (Lib.join ((decs l).take (k + 1)) [32]))) := fun xo yo => by
        rw [binV_str_add _ _ _ _ _ (by rw [S_size, S_size]; simp; omega), S_app, htk, join_snoc _ _ _ (by intro q; have := congrArg List.length q; rw [List.length_take, hlen] at this; simp only [Z2] at this; omega)]
      clear htk hd3 hJl hJl2 hk0
      repeat' (first | refine wS ?_ | refine wD ?_ | refine wT ?_ | refine wL ?_ | refine wB ?_ | refine wC ?_ | refine cw_if (fun hb => ?_) (fun hb => ?_) | refine wR ?_ | (refine wK (K := ?_) ?_ ?_; rotate_left 1) | ((with_reducible refine l1NumZ_ok _ _ ?_); (· assumption)) | refine hkp ?_)
      refine ⟨by first | assumption | omega, ?_, ?_⟩
      · simp only [Z37, Z38, Z39, implies_true, and_true, ZB, stp, ev, reduceIte, Nat.reduceEqDiff, Z2x, Z13, Zy, *]
      refine ⟨rfl, ?_, rfl⟩
      simp only [Zb, reduceIte, Nat.reduceEqDiff]
      rw [wrap_id (by omega)]; rfl
  · have h1 : ¬ (k : Int) < l.length := by omega
    rw [List.take_of_length_le (by omega)] at h3
    repeat' (first | refine wS ?_ | refine wD ?_ | refine wT ?_ | refine wL ?_ | refine wB ?_ | refine wC ?_ | refine cw_if (fun hb => ?_) (fun hb => ?_) | refine wR ?_ | (refine wK (K := ?_) ?_ ?_; rotate_left 1) | ((with_reducible refine l1NumZ_ok _ _ ?_); (· assumption)) | refine hkp ?_)
    exact ⟨rfl, [], (Zx _).symm⟩
/-- What ActText gives. -/
def actV (x : Act) : Value := if x.ints.all (inR 0 999) = true then .tuple #[.string (S (Lib.join (decs x.ints) [32])), .bool true] else .tuple #[.string ⟨#[]⟩, .bool false]
theorem actV_str (x : Act) : ∃ t b, actV x = .tuple #[.string t, .bool b] := by
  unfold actV
  split
  · exact ⟨_, _, rfl⟩
  · exact ⟨_, _, rfl⟩
theorem actV_af (x : Act) : ∃ vs : Array Value, actV x = .tuple vs ∧ ∀ v, v ∈ vs → af v = true := by
  obtain ⟨t, b, h⟩ := actV_str x
  exact ⟨_, h, by simp [af, af1]⟩
theorem specActText_ok (x : Act) (h : Heap) : ACalls Tryd.prog dP 54 #[.agg x.cells.toArray] h fun v h' => v = actV x ∧ h' = h := by
  refine acalls_pure (.inr (actV_af x)) ?_
  cases hall : x.ints.all (inR 0 999) with
  | false =>
    have e1 : actV x = .tuple #[.string ⟨#[]⟩, .bool false] := by simp only [actV, hall]; rfl
    rw [e1]
    refine Z36 Tryd.func54 rfl Tryd.ntmps54 (by simp) (by dsimp only [Tryd.f54]) ?_
    have zq0 := @Act.cells_length
    have zq1 := @Act.cells_flat
    have zq2 := @Act.cells_take
    have zq3 := @Act.cells_splice
    repeat' (first | refine wS ?_ | refine wD ?_ | refine wT ?_ | refine wL ?_ | refine wB ?_ | refine wC ?_ | refine cw_if (fun hb => ?_) (fun hb => ?_) | refine wR ?_ | (refine wK (K := ?_) ?_ ?_; rotate_left 1) | ((with_reducible refine l1All_ok x.ints _ _ _ _ ?_ ?_); (· simp [Act.ints]); (· assumption)) | (with_reducible exact fields_ok _ _) | ((with_reducible refine l1Text_ok x.ints _ _ ?_ ?_ ?_); (· simp [Act.ints]); (· assumption); (· first | assumption | (simp only [Z7, Zc, Zd] at hsl ⊢; assumption))) | ((with_reducible refine Z2w (n := 66) ?_); rintro _ _ ⟨L, rfl, hsl⟩) | refine hkp ?_)
    exact ⟨rfl, _, rfl⟩
  | true =>
    have e1 : actV x = .tuple #[.string (S (Lib.join (decs x.ints) [32])), .bool true] := by simp only [actV, hall]; rfl
    rw [e1]
    refine Z36 Tryd.func54 rfl Tryd.ntmps54 (by simp) (by dsimp only [Tryd.f54]) ?_
    have zq0 := @Act.cells_length
    have zq1 := @Act.cells_flat
    have zq2 := @Act.cells_take
    have zq3 := @Act.cells_splice
    repeat' (first | refine wS ?_ | refine wD ?_ | refine wT ?_ | refine wL ?_ | refine wB ?_ | refine wC ?_ | refine cw_if (fun hb => ?_) (fun hb => ?_) | refine wR ?_ | (refine wK (K := ?_) ?_ ?_; rotate_left 1) | ((with_reducible refine l1All_ok x.ints _ _ _ _ ?_ ?_); (· simp [Act.ints]); (· assumption)) | (with_reducible exact fields_ok _ _) | ((with_reducible refine l1Text_ok x.ints _ _ ?_ ?_ ?_); (· simp [Act.ints]); (· assumption); (· first | assumption | (simp only [Z7, Zc, Zd] at hsl ⊢; assumption))) | ((with_reducible refine Z2w (n := 66) ?_); rintro _ _ ⟨L, rfl, hsl⟩) | refine hkp ?_)
    exact ⟨rfl, _, rfl⟩
end Go.Proofs.YtmjhfklmlcnofaaDoor.Am
