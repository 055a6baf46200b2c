/- Numbers as texts: the library's own, by its contracts; and frames. Conditions: none. -/
import Derived.Test.YtdldekkojjfllaaDoorJ3
import Derived.Test.YtdldekkojjfllaaDoorJW
import Derived.Test.YtdldekkojjfllaaDoorJT
import Derived.Test.YtdldekkojjfllaaDoorShelf
import Derived.Lib.AppendIntMem
import Derived.Lib.LaidTab
import Derived.Lib.Join
namespace Go.Proofs.YtdldekkojjfllaaDoor.Am
open Go Go.Proofs Go.RowKit
set_option linter.unusedVariables false
set_option linter.unusedSimpArgs false
set_option maxRecDepth 100000
set_option maxHeartbeats 8000000
/-- The library's table of powers of ten. -/
def isPow (o : Obj) : Prop := ∃ t z, o = .cells (Lib.pow10Tab.map fun z => Value.int .u64 z).toArray t z
/-- An error, or none. -/
def isErr (o : Obj) : Prop := ∃ cs t z ev, o = .cells cs t z ∧ cs[0]? = some ev ∧ (ev = .nilIface ∨ ∃ te pe, ev = .iface te pe)
/-- What is known of the program's variables: the table alone; the table and the library's two errors. -/
def dP : Glo := ⟨0, fun g => if g = 1 then some isPow else none⟩
def dE : Glo := ⟨0, fun g => if g = 1 then some isPow else if g = 2 ∨ g = 3 then some isErr else none⟩
/-- A contract that leans on less of the variables holds where more is known. -/
theorem acalls_more {P : Program} {G G' : Glo} {f : FuncId} {args : Array Value} {h : Heap} {K : Value → Heap → Prop} (hn : G'.n = G.n) (ht : ∀ g o, G.tab g = some o → G'.tab g = some o)
    (ha : ACalls P G f args h K) : ACalls P G' f args h K := by
  intro m args' w hs hr r
  have r0 : WRel G m h w := ⟨r.cell, r.room, r.iter, r.live, r.apart, by rw [← hn]; exact r.glob, fun g o q => r.tab g o (ht g o q)⟩
  refine (ha m args' w hs hr r0).mono ?_
  rintro e w' ⟨v, v', m', h', he, hv, r', g, k⟩
  refine ⟨v, v', m', h', he, hv, ⟨r'.cell, r'.room, r'.iter, r'.live, r'.apart, by rw [hn]; exact r'.glob, fun i o q => ?_⟩, g, k⟩
  obtain ⟨⟨x, hx, ox⟩, hown⟩ := r.tab i o q
  have hlt : i < w.heap.size := (Array.getElem?_eq_some_iff.1 hx).1
  refine ⟨⟨x, by rw [g.keeps i hlt hown]; exact hx, ox⟩, fun id b hb ho => ?_⟩
  rcases g.owned id b hb (Blk.own_live ho) with q1 | ⟨id0, b0, q1, q2, q3, q4⟩
  · omega
  · rw [← q4]; exact hown id0 b0 q1 (q3 ho)
theorem upPE {P : Program} {f : FuncId} {args : Array Value} {h : Heap} {K : Value → Heap → Prop} (ha : ACalls P dP f args h K) : ACalls P dE f args h K := by
  refine acalls_more (G := dP) (G' := dE) rfl (fun g o q => ?_) ha
  simp only [dP, dE] at q ⊢
  split at q
  · rename_i hg; rw [if_pos hg]; exact q
  · cases q
/-- The world of a call, before its arguments are opened. -/
theorem wrel_glo {G : Glo} {m : Map} {W : World} (hn : G.n = 0) (ht : ∀ g o, G.tab g = some o → ∃ x, W.heap[g]? = some x ∧ o x) : WRel G m [] W :=
  ⟨fun id b h => by simp at h, fun id b h => by simp at h, fun id b h => by simp at h, fun id b h => by simp at h, fun id id' b b' h => by simp at h, fun g hg => by omega, fun g o q => ⟨ht g o q, fun id b h => by simp at h⟩⟩
/-- A text by its bytes. -/
def S (l : List UInt8) : ByteArray := ⟨l.toArray⟩
theorem S_size (l : List UInt8) : (S l).size = l.length := by simp [S, ByteArray.size]
theorem S_app (a b : List UInt8) : S a ++ S b = S (a ++ b) := by
  apply ByteArray.ext
  simp [S]
theorem itoa_ok (n : Int) (h : Heap) (hn : -9223372036854775808 ≤ n ∧ n ≤ 9223372036854775807) : ACalls Tryd.prog dP 34 #[.int .i64 n] h fun v h' => v = .string (S (Lib.itoa n)) ∧ h' = h := by
  refine acalls_of_tab (by simp [af, af1]) (fun n m => .string _) fun w hw => ?_
  obtain ⟨x, hx, t, z, rfl⟩ := hw 1 _ rfl
  have htab : Lib.TabIs Tryd.prog w "internal/strconv.uint64pow10" .u64 Lib.pow10Tab := by
    unfold Lib.TabIs World.var?
    rw [show Tryd.prog.globalNamed "internal/strconv.uint64pow10" = some 1 by kernel_rfl]
    simp only [Z15, hx]
  refine (Tryd.strconv_Itoa n hn.1 hn.2 w htab).mono ?_
  rintro e w' ⟨rfl, k, os, rfl⟩
  exact ⟨rfl, Lib.below_grow _ _ (Z4 _) _ _⟩
theorem rep0_ok (c : Nat) (h : Heap) (hc : c ≤ 1000) : ACalls Tryd.prog dP 60 #[.string ⟨#[48]⟩, .int .i64 (c : Nat)] h fun v h' => v = .string (S (Lib.repeatL [48] c)) ∧ h' = h :=
  acalls_of_calls (by simp [af, af1]) (fun n m => .string _) fun w => Tryd.strings_Repeat ⟨#[48]⟩ c w (by omega) (by simp [ByteArray.size]; omega)
/-- A number by so many digits. -/
def digL (n : Nat) : Nat → List UInt8
  | 0 => []
  | m + 1 => UInt8.ofNat (48 + n / 10 ^ m % 10) :: digL n m
theorem digL_len (n m : Nat) : (digL n m).length = m := by
  induction m with
  | zero => rfl
  | succ m ih => simp [digL, ih]
theorem digL_last (n : Nat) : ∀ m, digL n (m + 1) = digL (n / 10) m ++ [UInt8.ofNat (48 + n % 10)]
  | 0 => by simp [digL]
  | m + 1 => by
      have ih := digL_last n m
      rw [digL, ih, digL]
      have : n / 10 ^ (m + 1) = n / 10 / 10 ^ m := by rw [Nat.div_div_eq_div_mul, Nat.pow_succ, Nat.mul_comm]
      rw [this]; rfl
theorem digL_zero : ∀ m, digL 0 m = Lib.repeatL [48] m
  | 0 => rfl
  | m + 1 => by
      rw [digL, digL_zero m]
      simp [Lib.repeatL]
theorem dec_pad : ∀ (d n : Nat), n < 10 ^ (d + 1) → (Lib.decDigits n).length ≤ d + 1 ∧ Lib.repeatL [48] (d + 1 - (Lib.decDigits n).length) ++ Lib.decDigits n = digL n (d + 1)
  | 0, n, h => by
      have h10 : n < 10 := by simpa using h
      rw [Lib.decDigits, dif_pos h10]
      simp [Lib.repeatL, digL, Nat.mod_eq_of_lt h10]
  | d + 1, n, h => by
      rw [Lib.decDigits]
      by_cases h10 : n < 10
      · rw [dif_pos h10]
        refine ⟨by simp, ?_⟩
        rw [digL_last, Nat.div_eq_of_lt h10, digL_zero, Nat.mod_eq_of_lt h10]
        simp
      · rw [dif_neg h10]
        have hlt : n / 10 < 10 ^ (d + 1) := by
          rw [Nat.div_lt_iff_lt_mul (by omega)]
          rw [Nat.pow_succ] at h; exact h
        obtain ⟨i1, i2⟩ := dec_pad d (n / 10) hlt
        refine ⟨by simp; exact i1, ?_⟩
        rw [digL_last, ← i2]
        simp
theorem itoa_nat (n : Nat) : Lib.itoa (n : Int) = Lib.decDigits n := by
  unfold Lib.itoa
  rw [if_neg (by omega)]; simp
theorem padded_ok (n : Nat) (d : Nat) (h : Heap) (hd : d ≤ 9) (hn : n < 10 ^ (d + 1)) : ACalls Tryd.prog dP 55 #[.int .i64 (n : Nat), .int .i64 ((d + 1 : Nat) : Int)] h fun v h' => v = .string (S (digL n (d + 1))) ∧ h' = h := by
  obtain ⟨h1, h2⟩ := dec_pad d n hn
  have hp : 10 ^ (d + 1) ≤ 10 ^ 10 := Nat.pow_le_pow_right (by omega) (by omega)
  have hr : -9223372036854775808 ≤ (n : Int) ∧ (n : Int) ≤ 9223372036854775807 := by omega
  have hi := itoa_nat n
  have hsz : (S (Lib.decDigits n)).size = (Lib.decDigits n).length := S_size _
  have hw : IntKind.i64.wrap (((d + 1 : Nat) : Int) - ((Lib.decDigits n).length : Nat)) = ((d + 1 - (Lib.decDigits n).length : Nat) : Int) := by rw [wrap_id (by omega)]; omega
  have hadd : ∀ xo yo, binV Tryd.prog .add 9 xo yo (.string (S (Lib.repeatL [48] (d + 1 - (Lib.decDigits n).length)))) (.string (S (Lib.decDigits n))) = some (.string (S (digL n (d + 1)))) := fun xo yo => by
    rw [binV_str_add _ _ _ _ _ (by rw [S_size, S_size, Lib.repeatL_length]; simp; omega), S_app, h2]
  refine Z36 Tryd.func55 rfl Tryd.ntmps55 (by simp) (by dsimp only [Tryd.f55]) ?_
  repeat' (first | refine wS ?_ | refine wD ?_ | refine wT ?_ | refine wL ?_ | refine wB ?_ | refine wC ?_ | refine cw_if (fun hb => ?_) (fun hb => ?_) | refine wR ?_ | (refine wK (K := ?_) ?_ ?_; rotate_left 1) | ((with_reducible refine itoa_ok _ _ ?_); (· exact pO)) | ((with_reducible refine rep0_ok _ _ ?_); (· exact pO)) | refine hkp ?_)
  all_goals exact ⟨rfl, rfl⟩
theorem padded2 (n : Nat) (h : Heap) (hn : n < 100) : ACalls Tryd.prog dP 55 #[.int .i64 (n : Nat), .int .i64 2] h fun v h' => v = .string (S (digL n 2)) ∧ h' = h := padded_ok n 1 h (by omega) hn
theorem padded4 (n : Nat) (h : Heap) (hn : n < 10000) : ACalls Tryd.prog dP 55 #[.int .i64 (n : Nat), .int .i64 4] h fun v h' => v = .string (S (digL n 4)) ∧ h' = h := padded_ok n 3 h (by omega) hn
end Go.Proofs.YtdldekkojjfllaaDoor.Am
namespace Go.Proofs.YtdldekkojjfllaaDoor.Am
open Go Go.Proofs Go.RowKit
set_option linter.unusedVariables false
set_option linter.unusedSimpArgs false
theorem laid_at {P : Program} {W : World} {n : String} {d : DataW Unit} : ∀ {laid : List (String × DataW Unit)} {ps : List MemPlace}, DataW.LaidVars P W laid ps → (n, d) ∈ laid →
    ∃ g t cs fuel p, P.globalNamed n = some g ∧ (P.globals[g]?).map (·.type) = some t ∧ W.var? P n = some cs ∧ DataW.trod (fun _ => ()) P W 0 (fun _ => true) false fuel t cs.toList = some (d, p)
  | [], _, _, hm => by cases hm
  | (n', d') :: r, ps, ⟨g, t, cs, fuel, p, q, h1, h2, h3, h4, h5, _⟩, hm => by
      rcases List.mem_cons.1 hm with e | e
      · cases e; exact ⟨g, t, cs, fuel, p, h1, h2, h3, h4⟩
      · exact laid_at h5 e
theorem laid_pow {W : World} {laid : List (String × DataW Unit)} (h : laidMet Tryd.prog laid W) (hm : ("internal/strconv.uint64pow10", Lib.tabData .u64 Lib.pow10Tab) ∈ laid) : ∃ x, W.heap[1]? = some x ∧ isPow x := by
  obtain ⟨ps, hv, _⟩ := h
  obtain ⟨g, t, cs, fuel, p, h1, h2, h3, h4⟩ := laid_at hv hm
  have hg : Tryd.prog.globalNamed "internal/strconv.uint64pow10" = some 1 := by kernel_rfl
  obtain rfl := Option.some.inj (hg.symm.trans h1)
  have ht : (Tryd.prog.globals[1]?).map (·.type) = some 110 := by kernel_rfl
  obtain rfl := Option.some.inj (ht.symm.trans h2)
  have hc := Lib.cells_of_tab Tryd.underlying110 (by kernel_rfl) (by kernel_rfl) (by kernel_rfl) h4
  unfold World.var? at h3
  rw [hg] at h3
  simp only [Z15] at h3
  split at h3
  · rename_i cs' t' z' hx
    cases h3
    exact ⟨_, hx, t', z', by rw [← hc]⟩
  · cases h3
theorem iface_cell {P : Program} {w : World} {fuel : Nat} {t : TypeId} {cs : List Value} {d : DataW Unit} {p : List MemPlace} {ms : Array (String × TypeId)} (hu : P.underlying t = some (.interface ms))
    (h : DataW.trod (fun _ => ()) P w 0 (fun _ => true) false fuel t cs = some (d, p)) : ∃ ev, cs = [ev] ∧ (ev = .nilIface ∨ ∃ a b, ev = .iface a b) := by
  cases fuel with
  | zero => simp [DataW.trod] at h
  | succ fuel =>
    simp only [DataW.trod, hu] at h
    split at h
    all_goals first
      | exact ⟨_, rfl, .inl rfl⟩
      | exact ⟨_, rfl, .inr ⟨_, _, rfl⟩⟩
      | (exfalso; simp_all; done)
theorem laid_err {W : World} {laid : List (String × DataW Unit)} (h : laidMet Tryd.prog laid W) {n : String} {g : Nat} {d : DataW Unit} (hg : Tryd.prog.globalNamed n = some g) (ht : (Tryd.prog.globals[g]?).map (·.type) = some 83)
    (hm : (n, d) ∈ laid) : ∃ x, W.heap[g]? = some x ∧ isErr x := by
  obtain ⟨ps, hv, _⟩ := h
  obtain ⟨g', t, cs, fuel, p, h1, h2, h3, h4⟩ := laid_at hv hm
  obtain rfl := Option.some.inj (hg.symm.trans h1)
  obtain rfl := Option.some.inj (ht.symm.trans h2)
  obtain ⟨ev, e1, e2⟩ := iface_cell Tryd.underlying83 h4
  unfold World.var? at h3
  rw [hg] at h3
  simp only [Z15] at h3
  split at h3
  · rename_i cs' t' z' hx
    cases h3
    refine ⟨_, hx, _, t', z', ev, rfl, ?_, e2⟩
    have := congrArg (·[0]?) e1
    simpa using this
  · cases h3
theorem wrel_dE {m : Map} {W : World} {laid : List (String × DataW Unit)} (h : laidMet Tryd.prog laid W) (hm : ("internal/strconv.uint64pow10", Lib.tabData .u64 Lib.pow10Tab) ∈ laid) {d1 d2 : DataW Unit}
    (hm1 : ("strconv.ErrSyntax", d1) ∈ laid) (hm2 : ("strconv.ErrRange", d2) ∈ laid) : WRel dE m [] W := by
  refine wrel_glo rfl fun g o q => ?_
  simp only [dE] at q
  split at q
  · rename_i hg; subst hg; cases q; exact laid_pow h hm
  · split at q
    · rename_i hg
      cases q
      rcases hg with rfl | rfl
      · exact laid_err h (by kernel_rfl) (by kernel_rfl) hm1
      · exact laid_err h (by kernel_rfl) (by kernel_rfl) hm2
    · cases q
end Go.Proofs.YtdldekkojjfllaaDoor.Am
namespace Go.Proofs.YtdldekkojjfllaaDoor.Am
open Go Go.Proofs Go.RowKit
set_option linter.unusedVariables false
set_option linter.unusedSimpArgs false
set_option maxRecDepth 100000
set_option maxHeartbeats 8000000
theorem bstr_one (n : Nat) : bstr [(n : Int)] = S [UInt8.ofNat n] := by
  apply ByteArray.ext
  simp [bstr, S, ByteArray.push]
theorem digits_ok (n d : Nat) (h : Heap) (hd : d ≤ 9) (hn : n < 9223372036854775807) : ACalls Tryd.prog dP 52 #[.int .i64 (n : Nat), .int .i64 (d : Nat)] h fun v h' => v = .string (S (digL n d)) ∧ h' = h := by
  refine acalls_pure (.inl rfl) ?_
  refine Z36 Tryd.func52 rfl Tryd.ntmps52 (by simp) (by dsimp only [Tryd.f52]) ?_
  repeat' (first | refine wS ?_ | refine wD ?_ | refine wT ?_ | refine wL ?_ | refine wB ?_ | refine wC ?_ | refine cw_if (fun hb => ?_) (fun hb => ?_) | refine wR ?_)
  refine aw_loop (n := d) (fun m T h' => ∃ j L, m = d - j ∧ j ≤ d ∧ h' = h ++ L ∧ T 1 = .int .i64 ((d - j : Nat) : Int) ∧ T 0 = .int .i64 ((n / 10 ^ j : Nat) : Int) ∧ T 5 = .string (S (digL n j)))
    ⟨0, [], rfl, by omega, (Zx h).symm, rfl, congrArg (Value.int .i64) (by simp), rfl⟩ ?_
  rintro m T h' ⟨j, L, rfl, hj, rfl, h1, h0, h5⟩
  by_cases hp : j < d
  · have hlen := digL_len n j
    have hdg : digL n (j + 1) = UInt8.ofNat (48 + n / 10 ^ j % 10) :: digL n j := rfl
    have hq : n / 10 ^ j / 10 = n / 10 ^ (j + 1) := by rw [Nat.div_div_eq_div_mul, Nat.pow_succ]
    have hql : n / 10 ^ j ≤ n := Nat.div_le_self _ _
    generalize n / 10 ^ j = q at *
    have hgt : (0 : Int) < ((d - j : Nat) : Int) := by omega
    have hm : ((q : Nat) : Int).tmod 10 = ((q % 10 : Nat) : Int) := by rw [Int.tmod_eq_emod_of_nonneg (by omega)]; omega
    have hdv : ((q : Nat) : Int).tdiv 10 = ((n / 10 ^ (j + 1) : Nat) : Int) := by rw [Int.tdiv_eq_ediv_of_nonneg (by omega), ← hq]; omega
    have hlt : q % 10 < 10 := Nat.mod_lt _ (by omega)
    have hw1 : IntKind.i64.wrap (48 + ((q % 10 : Nat) : Int)) = ((48 + q % 10 : Nat) : Int) := by rw [wrap_id (by omega)]; omega
    have hw2 : IntKind.u8.wrap ((48 + q % 10 : Nat) : Int) = ((48 + q % 10 : Nat) : Int) := by simp [IntKind.wrap, IntKind.signed, IntKind.bits]; omega
    have hw3 : IntKind.i64.wrap (((d - j : Nat) : Int) - 1) = ((d - (j + 1) : Nat) : Int) := by rw [wrap_id (by omega)]; omega
    have hadd : ∀ xo yo, binV Tryd.prog .add 9 xo yo (.string (bstr [((48 + q % 10 : Nat) : Int)])) (.string (S (digL n j))) = some (.string (S (digL n (j + 1)))) := fun xo yo => by
      rw [hdg, show bstr [((48 + q % 10 : Nat) : Int)] = S [UInt8.ofNat (48 + q % 10)] from bstr_one _, binV_str_add _ _ _ _ _ (by rw [S_size, S_size, hlen]; simp; omega), S_app]; rfl
    have hw4 : IntKind.i64.wrap ((n / 10 ^ (j + 1) : Nat) : Int) = ((n / 10 ^ (j + 1) : Nat) : Int) := wrap_id (by omega)
    repeat' (first | refine wS ?_ | refine wD ?_ | refine wT ?_ | refine wL ?_ | refine wB ?_ | refine wC ?_ | refine cw_if (fun hb => ?_) (fun hb => ?_) | refine wR ?_)
    refine ⟨d - (j + 1), by omega, j + 1, _, rfl, by omega, rfl, rfl, ?_, ?_⟩
    · simp only [Zb, reduceIte, Nat.reduceEqDiff, hw4]
    · rw [hdg]
      rfl
  · obtain rfl : j = d := by omega
    have hgt : ¬ (0 : Int) < ((j - j : Nat) : Int) := by omega
    repeat' (first | refine wS ?_ | refine wD ?_ | refine wT ?_ | refine wL ?_ | refine wB ?_ | refine wC ?_ | refine cw_if (fun hb => ?_) (fun hb => ?_) | refine wR ?_)
    exact ⟨rfl, _, rfl⟩
theorem digits2 (n : Nat) (h : Heap) (hn : n < 100) : ACalls Tryd.prog dP 52 #[.int .i64 (n : Nat), .int .i64 2] h fun v h' => v = .string (S (digL n 2)) ∧ h' = h := digits_ok n 2 h (by omega) (by omega)
theorem digits4 (n : Nat) (h : Heap) (hn : n < 10000) : ACalls Tryd.prog dP 52 #[.int .i64 (n : Nat), .int .i64 4] h fun v h' => v = .string (S (digL n 4)) ∧ h' = h := digits_ok n 4 h (by omega) (by omega)
/-- A byte of a text as a number. -/
def bt (s : ByteArray) (i : Nat) : Int := match s[i]? with | some b => (b.toNat : Int) | none => 0
theorem bt_idx {P : Program} {t : TypeId} (ht : stT P t = true) (s : ByteArray) {i : Nat} (h : i < s.size) (k : IntKind) : idxV P t (.string s) (.int k (i : Nat)) = some (.int .u8 (bt s i)) := by
  have e : s[i]? = some (s[i]) := by simp [h]
  simp only [idxV, bt, ht, Zq, e]
  simp
theorem bt_range (s : ByteArray) (i : Nat) : 0 ≤ bt s i ∧ bt s i ≤ 255 := by
  unfold bt
  split
  · rename_i b _
    have := b.toNat_lt
    omega
  · omega
/-- The sum of a text's bytes by their places, of the first k of them. -/
def sm (s : ByteArray) : Nat → Int
  | 0 => 0
  | k + 1 => sm s k + ((k : Int) + 1) * bt s k
theorem sm_range (s : ByteArray) : ∀ k, k ≤ 1000 → 0 ≤ sm s k ∧ sm s k ≤ 255000 * (k : Int)
  | 0, _ => by simp [sm]
  | k + 1, h => by
      have i := sm_range s k (by omega)
      have b := bt_range s k
      have m : ((k : Int) + 1) * bt s k ≤ 1000 * 255 := Int.mul_le_mul (by omega) b.2 b.1 (by omega)
      have m0 : 0 ≤ ((k : Int) + 1) * bt s k := Int.mul_nonneg (by omega) b.1
      simp only [sm]
      omega
theorem sum_ok (s : ByteArray) (h : Heap) (hs : s.size ≤ 1000) : ACalls Tryd.prog dP 53 #[.string s] h fun v h' => v = .int .i64 (sm s s.size % 9973) ∧ h' = h := by
  refine acalls_pure (.inl rfl) ?_
  refine Z36 Tryd.func53 rfl Tryd.ntmps53 (by simp) (by dsimp only [Tryd.f53]) ?_
  repeat' (first | refine wS ?_ | refine wD ?_ | refine wT ?_ | refine wL ?_ | refine wB ?_ | refine wC ?_ | refine cw_if (fun hb => ?_) (fun hb => ?_) | refine wR ?_)
  refine aw_for [0] (fun k T h' => h' = h ∧ T 3 = .int .i64 (sm s k % 9973) ∧ T 4 = .int .i64 (k : Nat)) s.size (k0 := 0) (Nat.zero_le _) ⟨rfl, rfl, rfl⟩ ?_
  rintro k T h' hk hR ⟨rfl, h3, h4⟩
  simp only [Z37, Z38, Z39, implies_true, and_true, stp, ev, ZB, reduceIte, Nat.reduceEqDiff, Z2x, Z13, Zy] at hR
  rcases Nat.lt_or_ge k s.size with hkn | hkn
  · have hix := bt_idx (P := Tryd.prog) Ty.st9 s hkn .i64
    have hlt : (k : Int) < (s.size : Int) := by omega
    have b := bt_range s k
    have m : ((k : Int) + 1) * bt s k ≤ 1000 * 255 := Int.mul_le_mul (by omega) b.2 b.1 (by omega)
    have m0 : 0 ≤ ((k : Int) + 1) * bt s k := Int.mul_nonneg (by omega) b.1
    have hst : sm s (k + 1) = sm s k + ((k : Int) + 1) * bt s k := rfl
    have hw1 : IntKind.i64.wrap ((k : Int) + 1) = ((k : Int) + 1) := wrap_id (by omega)
    have hw2 : IntKind.i64.wrap (bt s k) = bt s k := wrap_id (by omega)
    have hw3 : IntKind.i64.wrap (((k : Int) + 1) * bt s k) = ((k : Int) + 1) * bt s k := wrap_id (by omega)
    have hw4 : IntKind.i64.wrap (sm s k % 9973 + ((k : Int) + 1) * bt s k) = sm s k % 9973 + ((k : Int) + 1) * bt s k := wrap_id (by omega)
    have hw5 : (sm s k % 9973 + ((k : Int) + 1) * bt s k).tmod 9973 = sm s (k + 1) % 9973 := by rw [Int.tmod_eq_emod_of_nonneg (by omega), hst]; omega
    repeat' (first | refine wS ?_ | refine wD ?_ | refine wT ?_ | refine wL ?_ | refine wB ?_ | refine wC ?_ | refine cw_if (fun hb => ?_) (fun hb => ?_) | refine wR ?_)
    all_goals refine ⟨by first | assumption | omega, ?_, ?_⟩
    all_goals first | (simp only [Z37, Z38, Z39, implies_true, and_true, ZB, stp, ev, reduceIte, Nat.reduceEqDiff, Z2x, Z13, Zy, *]; done) | skip
    exact ⟨rfl, by simp only [Zb, reduceIte, Nat.reduceEqDiff]; rw [hst], by simp only [Zb, reduceIte, Nat.reduceEqDiff]; rfl⟩
  · obtain rfl : k = s.size := by omega
    have hlt : ¬ (s.size : Int) < (s.size : Int) := by omega
    repeat' (first | refine wS ?_ | refine wD ?_ | refine wT ?_ | refine wL ?_ | refine wB ?_ | refine wC ?_ | refine cw_if (fun hb => ?_) (fun hb => ?_) | refine wR ?_)
    exact ⟨rfl, [], (Zx _).symm⟩
/-- A frame: room, length, text, and the sum of these. -/
def headT (r : Nat) (s : ByteArray) : ByteArray := S (digL r 2) ++ S (digL s.size 2) ++ s
def frameT (r : Nat) (s : ByteArray) : ByteArray := headT r s ++ S (digL (sm (headT r s) (headT r s).size % 9973).toNat 4)
theorem headT_size (r : Nat) (s : ByteArray) : (headT r s).size = s.size + 4 := by
  simp [headT, ByteArray.size_append, S_size, digL_len]; omega
theorem head_parts {r : Nat} {s : ByteArray} (hs : s.size ≤ 60) {P : Program} {t : TypeId} (ht : stT P t = true) :
    (∀ xo yo, binV P .add t xo yo (.string (S (digL r 2))) (.string (S (digL s.size 2))) = some (.string (S (digL r 2) ++ S (digL s.size 2)))) ∧
    (∀ xo yo, binV P .add t xo yo (.string (S (digL r 2) ++ S (digL s.size 2))) (.string s) = some (.string (headT r s))) ∧
    (∀ xo yo m, binV P .add t xo yo (.string (headT r s)) (.string (S (digL m 4))) = some (.string (headT r s ++ S (digL m 4)))) := by
  refine ⟨fun xo yo => ?_, fun xo yo => ?_, fun xo yo m => ?_⟩
  · rw [binV_str_add _ _ _ _ _ (by simp [S_size, digL_len])]
  · rw [binV_str_add _ _ _ _ _ (by simp [S_size, digL_len]; omega)]; rfl
  · rw [binV_str_add _ _ _ _ _ (by rw [headT_size, S_size, digL_len]; simp; omega)]
theorem frame_q (r : Nat) (s : ByteArray) (hs : s.size ≤ 60) : ∃ q : Nat, q < 10000 ∧ sm (headT r s) (s.size + 4) % 9973 = (q : Int) ∧ frameT r s = headT r s ++ S (digL q 4) := by
  have hz := headT_size r s
  have hsm := sm_range (headT r s) (headT r s).size (by omega)
  refine ⟨(sm (headT r s) (headT r s).size % 9973).toNat, by omega, by rw [hz]; omega, rfl⟩
theorem l17Frame_ok (r : Nat) (s : ByteArray) (h : Heap) (hr : r ≤ 99) (hs : s.size ≤ 60) : ACalls Tryd.prog dP 44 #[.int .i64 (r : Nat), .string s] h fun v h' => v = .string (frameT r s) ∧ h' = h := by
  obtain ⟨a1, a2, a3⟩ := head_parts (r := r) hs (P := Tryd.prog) Ty.st9
  have hz := headT_size r s
  obtain ⟨q, hq0, hq, hf⟩ := frame_q r s hs
  rw [hf]
  refine Z36 Tryd.func44 rfl Tryd.ntmps44 (by simp) (by dsimp only [Tryd.f44]) ?_
  repeat' (first | refine wS ?_ | refine wD ?_ | refine wT ?_ | refine wL ?_ | refine wB ?_ | refine wC ?_ | refine cw_if (fun hb => ?_) (fun hb => ?_) | refine wR ?_ | (refine wK (K := ?_) ?_ ?_; rotate_left 1) | ((with_reducible refine digits2 _ _ ?_); (· exact pO)) | ((with_reducible refine digits4 _ _ ?_); (· exact pO)) | ((with_reducible refine sum_ok _ _ ?_); (· exact pO)) | refine hkp ?_)
  all_goals exact ⟨rfl, rfl⟩
theorem frameOf_ok (r : Nat) (s : ByteArray) (h : Heap) (hr : r ≤ 99) (hs : s.size ≤ 60) : ACalls Tryd.prog dP 47 #[.int .i64 (r : Nat), .string s] h fun v h' => v = .string (frameT r s) ∧ h' = h := by
  refine acalls_pure (.inl rfl) ?_
  obtain ⟨a1, a2, a3⟩ := head_parts (r := r) hs (P := Tryd.prog) Ty.st9
  have hz := headT_size r s
  obtain ⟨q, hq0, hq, hf⟩ := frame_q r s hs
  rw [hf]
  refine Z36 Tryd.func47 rfl Tryd.ntmps47 (by simp) (by dsimp only [Tryd.f47]) ?_
  repeat' (first | refine wS ?_ | refine wD ?_ | refine wT ?_ | refine wL ?_ | refine wB ?_ | refine wC ?_ | refine cw_if (fun hb => ?_) (fun hb => ?_) | refine wR ?_ | (refine wK (K := ?_) ?_ ?_; rotate_left 1) | ((with_reducible refine padded2 _ _ ?_); (· exact pO)) | ((with_reducible refine padded4 _ _ ?_); (· exact pO)) | refine hkp ?_)
  generalize hu : headT r s = u at *
  refine aw_for [5, 17] (fun k T h' => h' = h ∧ T 6 = .int .i64 (sm u k) ∧ T 18 = .int .i64 (k : Nat)) u.size (k0 := 0) (Nat.zero_le _) ⟨rfl, rfl, rfl⟩ ?_
  rintro k T h' hk hR ⟨rfl, h6, h18⟩
  simp only [Z37, Z38, Z39, implies_true, and_true, stp, ev, ZB, reduceIte, Nat.reduceEqDiff, Z2x, Z13, Zy] at hR
  rcases Nat.lt_or_ge k u.size with hkn | hkn
  · have hix := bt_idx (P := Tryd.prog) Ty.st9 u hkn .i64
    have hlt : (k : Int) < ((s.size + 4 : Nat) : Int) := by omega
    have b := bt_range u k
    have m : bt u k * ((k : Int) + 1) ≤ 255 * 1000 := Int.mul_le_mul b.2 (by omega) (by omega) (by omega)
    have m0 : 0 ≤ bt u k * ((k : Int) + 1) := Int.mul_nonneg b.1 (by omega)
    have hsm := sm_range u k (by omega)
    have hst : sm u (k + 1) = sm u k + bt u k * ((k : Int) + 1) := by rw [Int.mul_comm]; rfl
    have hw1 : IntKind.i64.wrap ((k : Int) + 1) = ((k : Int) + 1) := wrap_id (by omega)
    have hw2 : IntKind.i64.wrap (bt u k) = bt u k := wrap_id (by omega)
    have hw3 : IntKind.i64.wrap (bt u k * ((k : Int) + 1)) = bt u k * ((k : Int) + 1) := wrap_id (by omega)
    have hw4 : IntKind.i64.wrap (sm u k + bt u k * ((k : Int) + 1)) = sm u k + bt u k * ((k : Int) + 1) := wrap_id (by omega)
    repeat' (first | refine wS ?_ | refine wD ?_ | refine wT ?_ | refine wL ?_ | refine wB ?_ | refine wC ?_ | refine cw_if (fun hb => ?_) (fun hb => ?_) | refine wR ?_ | (refine wK (K := ?_) ?_ ?_; rotate_left 1) | ((with_reducible refine padded2 _ _ ?_); (· exact pO)) | ((with_reducible refine padded4 _ _ ?_); (· exact pO)) | refine hkp ?_)
    all_goals refine ⟨by first | assumption | omega, ?_, ?_⟩
    all_goals first | (simp only [Z37, Z38, Z39, implies_true, and_true, ZB, stp, ev, reduceIte, Nat.reduceEqDiff, Z2x, Z13, Zy, *]; done) | skip
    exact ⟨rfl, by simp only [Zb, reduceIte, Nat.reduceEqDiff]; rw [hst], by simp only [Zb, reduceIte, Nat.reduceEqDiff]; rfl⟩
  · obtain rfl : k = s.size + 4 := by omega
    have hlt : ¬ ((s.size + 4 : Nat) : Int) < ((s.size + 4 : Nat) : Int) := by omega
    have hsm := sm_range u (s.size + 4) (by omega)
    have hm : (sm u (s.size + 4)).tmod 9973 = q := by rw [Int.tmod_eq_emod_of_nonneg hsm.1, hq]
    repeat' (first | refine wS ?_ | refine wD ?_ | refine wT ?_ | refine wL ?_ | refine wB ?_ | refine wC ?_ | refine cw_if (fun hb => ?_) (fun hb => ?_) | refine wR ?_ | (refine wK (K := ?_) ?_ ?_; rotate_left 1) | ((with_reducible refine padded2 _ _ ?_); (· exact pO)) | ((with_reducible refine padded4 _ _ ?_); (· exact pO)) | refine hkp ?_)
    exact ⟨rfl, [], (Zx _).symm⟩
theorem within_ok (n lo hi : Int) (h : Heap) : ACalls Tryd.prog dP 33 #[.int .i64 n, .int .i64 lo, .int .i64 hi] h
    fun v h' => v = .bool (decide (lo ≤ n ∧ n ≤ hi)) ∧ h' = h := by
  refine Z36 Tryd.func33 rfl Tryd.ntmps33 (by simp) (by dsimp only [Tryd.f33]) ?_
  repeat' (first | refine wS ?_ | refine wD ?_ | refine wT ?_ | refine wL ?_ | refine wB ?_ | refine wG ?_ | refine gw_if (fun hb => ?_) (fun hb => ?_) | refine wC ?_ | refine cw_if (fun hb => ?_) (fun hb => ?_) | refine wR ?_)
  all_goals refine ⟨?_, rfl⟩
  all_goals simp_all [oneOf]
  all_goals omega
theorem l1In_ok (n lo hi : Int) (h : Heap) : ACalls Tryd.prog dP 35 #[.int .i64 n, .int .i64 lo, .int .i64 hi] h
    fun v h' => v = .bool (decide (lo ≤ n ∧ n ≤ hi)) ∧ h' = h := by
  refine Z36 Tryd.func35 rfl Tryd.ntmps35 (by simp) (by dsimp only [Tryd.f35]) ?_
  repeat' (first | refine wS ?_ | refine wD ?_ | refine wT ?_ | refine wL ?_ | refine wB ?_ | refine wG ?_ | refine gw_if (fun hb => ?_) (fun hb => ?_) | refine wC ?_ | refine cw_if (fun hb => ?_) (fun hb => ?_) | refine wR ?_)
  all_goals refine ⟨?_, rfl⟩
  all_goals simp_all [oneOf]
  all_goals omega
end Go.Proofs.YtdldekkojjfllaaDoor.Am
namespace Go.Proofs.YtdldekkojjfllaaDoor.Am
open Go Go.Proofs Go.RowKit
set_option linter.unusedVariables false
set_option linter.unusedSimpArgs false
set_option maxRecDepth 100000
set_option maxHeartbeats 8000000
/-- A slice of given elements, in a region whose order is open. -/
theorem xd_bs {P : Program} {G : Glo} {Q : Exit → Tmps → Heap → Prop} {ops : Array Oper} {ms : List Nat} {T : Tmps} {h h' : Heap} {rest : List Oper} {j : Nat} {al : List Bool} {t n d ty : Nat} {xs : Array (Nat × Operand)} {pos : String} {aft : Array Edge} {v : Value} {L : Heap}
    (ho : ordAll ms al j = true) (hs : stp P h (ev T) (.buildSlice t n xs) = some (v, h')) (he : h' = h ++ L)
    (hk : XD P G ops ms Q rest (j + 1) (put T (some d) v) (h ++ L) (al ++ [true])) : XD P G ops ms Q (⟨some d, .buildSlice t n xs, ty, pos, aft, none⟩ :: rest) j T h al := xd_mk rfl L ho hs he hk
/-! ### a work act -/
structure Act where
  k : Int
  c : Int
  i : Int
  w : Int
  t : Int
  p : Int
  m : Int
deriving DecidableEq
def Act.cells (x : Act) : List Value := [.int .i64 x.k, .int .i64 x.c, .int .i64 x.i, .int .i64 x.w, .int .i64 x.t, .int .i64 x.p, .int .i64 x.m]
def Act.zero : Act := ⟨0, 0, 0, 0, 0, 0, 0⟩
theorem Act.cells_length (x : Act) : x.cells.length = 7 := rfl
theorem Act.cells_flat (x : Act) : x.cells.all flat = true := rfl
theorem Act.cells_take (x : Act) : x.cells.take 7 = x.cells := rfl
theorem Act.cells_splice (x : Act) (q0 q1 q2 q3 q4 q5 q6 : Value) : splice [q0, q1, q2, q3, q4, q5, q6] 0 x.cells = x.cells := rfl
theorem Act.cells_splice2 (x y : Act) : splice x.cells 0 y.cells = y.cells := rfl
theorem Act.get0 (x : Act) : x.cells[0]? = some (.int .i64 x.k) := rfl
theorem Act.get1 (x : Act) : x.cells[1]? = some (.int .i64 x.c) := rfl
theorem Act.get2 (x : Act) : x.cells[2]? = some (.int .i64 x.i) := rfl
theorem Act.af (x : Act) : Am.af (.agg x.cells.toArray) = true := by simp [Am.af, af1, Act.cells]
theorem Act.plain (x : Act) : x.cells.length = 7 ∧ ∀ u ∈ x.cells, Am.af u = true ∧ flat u = true := by
  refine ⟨rfl, fun u hu => ?_⟩
  simp only [Act.cells, List.mem_cons, Z38, or_false] at hu
  rcases hu with rfl | rfl | rfl | rfl | rfl | rfl | rfl <;> exact ⟨rfl, rfl⟩
theorem Act.rv (n : Nat) (L : Heap) (ks : List Nat) (x : Act) : RV n L ks (.agg x.cells.toArray) (.agg x.cells.toArray) :=
  RVl.agg (l := x.cells) (l' := x.cells) ⟨.plain _ rfl, .plain _ rfl, .plain _ rfl, .plain _ rfl, .plain _ rfl, .plain _ rfl, .plain _ rfl, trivial⟩
theorem Act.beq (a b : Act) : ((a.k == b.k) && ((a.c == b.c) && ((a.i == b.i) && ((a.w == b.w) && ((a.t == b.t) && ((a.p == b.p) && ((a.m == b.m) && true))))))) = decide (a = b) := by
  rw [Bool.eq_iff_iff]
  obtain ⟨a0, a1, a2, a3, a4, a5, a6⟩ := a
  obtain ⟨b0, b1, b2, b3, b4, b5, b6⟩ := b
  simp
def Act.wf (x : Act) : Prop := (Lit.int .i64 x.k).wf = true ∧ (Lit.int .i64 x.c).wf = true ∧ (Lit.int .i64 x.i).wf = true ∧ (Lit.int .i64 x.w).wf = true ∧ (Lit.int .i64 x.t).wf = true ∧ (Lit.int .i64 x.p).wf = true ∧ (Lit.int .i64 x.m).wf = true
end Go.Proofs.YtdldekkojjfllaaDoor.Am
