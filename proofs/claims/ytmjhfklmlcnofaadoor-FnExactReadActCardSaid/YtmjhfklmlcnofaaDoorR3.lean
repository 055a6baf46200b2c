/- strings.Split at one byte, over the abstract memory; words of a text. Conditions: none. -/
import Derived.Test.YtmjhfklmlcnofaaDoorJ3
import Derived.Test.YtmjhfklmlcnofaaDoorJW
import Derived.Test.YtmjhfklmlcnofaaDoorR2
import Derived.Lib.SplitLaws
import Derived.Lib.IndexLaws
import Derived.Lib.IndexBytes
import Derived.Test.YtmjhfklmlcnofaaDoorR1
namespace Go.Proofs.YtmjhfklmlcnofaaDoor.Am
open Go Go.Proofs Go.RowKit
set_option linter.unusedVariables false
set_option linter.unusedSimpArgs false
set_option maxRecDepth 100000
set_option maxHeartbeats 8000000
/-- A variable that holds a whole number. -/
def isLen (o : Obj) : Prop := ∃ cs t z, o = .cells cs t z ∧ ∃ m, cs[0]? = some (.int .i64 m)
def dR : Glo := ⟨0, fun g => if g = 2 then some isLen else dE.tab g⟩
theorem upER {P : Program} {f : FuncId} {args : Array Value} {h : Heap} {K : Value → Heap → Prop} (ha : ACalls P dE f args h K) : ACalls P dR f args h K := by
  refine acalls_more (G := dE) (G' := dR) rfl (fun g o q => ?_) ha
  have hne : g ≠ 2 := by
    rintro rfl
    simp only [dE] at q
    split at q
    · rename_i hg; cases hg
    · split at q
      · rename_i hg; rcases hg with hg | hg <;> cases hg
      · cases q
  simp only [dR]
  rw [if_neg hne]; exact q
theorem upPR {P : Program} {f : FuncId} {args : Array Value} {h : Heap} {K : Value → Heap → Prop} (ha : ACalls P dP f args h K) : ACalls P dR f args h K := upER (upPE ha)
/-- The words of a text, cut at each of a byte. -/
def spl (c : UInt8) : List UInt8 → List (List UInt8)
  | [] => [[]]
  | x :: xs => if x = c then [] :: spl c xs else match spl c xs with
    | [] => [[x]]
    | w :: ws => (x :: w) :: ws
theorem spl_ne (c : UInt8) : ∀ l, spl c l ≠ []
  | [] => by simp [spl]
  | x :: xs => by
      unfold spl
      split
      · simp
      · split <;> simp
theorem spl_none (c : UInt8) : ∀ l : List UInt8, c ∉ l → spl c l = [l]
  | [], _ => rfl
  | x :: xs, h => by
      have hx : x ≠ c := fun q => h (by simp [q])
      rw [spl, if_neg hx, spl_none c xs (fun q => h (by simp [q]))]
theorem spl_hit (c : UInt8) : ∀ (i : Nat) (l : List UInt8), l[i]? = some c → (∀ j, j < i → l[j]? ≠ some c) → spl c l = l.take i :: spl c (l.drop (i + 1))
  | _, [], h, _ => by simp at h
  | 0, x :: xs, h, _ => by
      simp only [Z1, Option.some.injEq] at h
      subst h
      simp [spl]
  | i + 1, x :: xs, h, hn => by
      have hx : x ≠ c := fun q => hn 0 (by omega) (by simp [q])
      rw [spl, if_neg hx, spl_hit c i xs (by simpa using h) (fun j hj => by have := hn (j + 1) (by omega); simpa using this)]
      simp
/-- The library's cut is that. -/
theorem splitK_spl (c : UInt8) : ∀ (k : Nat) (l : List UInt8), l.count c = k → Lib.splitK [c] 0 k l = spl c l
  | 0, l, hk => by rw [spl_none c l (List.count_eq_zero.1 hk)]; rfl
  | k + 1, l, hk => by
      have hm : c ∈ l := List.count_pos_iff.1 (by omega)
      have hne : Lib.indexByte l c ≠ -1 := fun q => by
        obtain ⟨j, hj⟩ := List.getElem?_of_mem hm
        exact Lib.indexByte_none q j hj
      have hge := Lib.indexByte_ge l c
      obtain ⟨i, hi⟩ : ∃ i : Nat, Lib.indexByte l c = i := ⟨(Lib.indexByte l c).toNat, by omega⟩
      obtain ⟨h1, h2⟩ := Lib.indexByte_some hi
      rw [spl_hit c i l h1 h2]
      have hlt : i < l.length := by
        rcases Nat.lt_or_ge i l.length with q | q
        · exact q
        · rw [List.getElem?_eq_none q] at h1; cases h1
      have hget : l[i] = c := by rw [List.getElem?_eq_getElem hlt] at h1; exact Option.some.inj h1
      have hd : l.drop i = c :: l.drop (i + 1) := by rw [List.drop_eq_getElem_cons hlt, hget]
      have hc : (l.drop (i + 1)).count c = k := by
        have e : l.count c = (l.take i).count c + (l.drop i).count c := by rw [← List.count_append, List.take_append_drop]
        have z : (l.take i).count c = 0 := by
          rw [List.count_eq_zero]
          intro q
          obtain ⟨j, hj⟩ := List.getElem?_of_mem q
          rw [List.getElem?_take] at hj
          split at hj
          · exact h2 j (by assumption) hj
          · cases hj
        rw [hd, List.count_cons_self] at e
        omega
      have hidx : Lib.index l [c] = i := (Lib.index_one l c).trans hi
      have e2 : (Lib.index l [c] == -1) = false := by rw [hidx]; rw [beq_eq_false_iff_ne]; omega
      rw [Lib.splitK, e2, hidx]
      simp only [Bool.false_eq_true, if_false, Zq, Zi, Z3, Z2, Zf]
      rw [splitK_spl c k _ hc]
theorem splitB_spl (c : UInt8) (s : ByteArray) : (Lib.splitB ⟨#[c]⟩ 0 (Lib.countB s ⟨#[c]⟩) s).map (·.data.toList) = spl c s.data.toList := by
  rw [Lib.splitB_data]
  exact splitK_spl c _ _ (Lib.count_one c _).symm
def splW (s : ByteArray) : List ByteArray := Lib.splitB ⟨#[32]⟩ 0 (Lib.countB s ⟨#[32]⟩) s
theorem splW_spl (s : ByteArray) : (splW s).map (·.data.toList) = spl 32 s.data.toList := splitB_spl 32 s
theorem split_ok (s : ByteArray) (h : Heap) (hs : s.size ≤ 1048576) : ACalls Tryd.prog dR 69 #[.string s, .string ⟨#[32]⟩] h
    fun v h' => v = .slice (some ⟨h.length, 0, none⟩) (splW s).length (splW s).length ∧ h' = h ++ [⟨2, 1, (splW s).map Value.string⟩] := by
  unfold splW
  intro m args' w hsz hr r
  have he : args' = #[.string s, .string ⟨#[32]⟩] := by
    apply Array.ext hsz.symm
    intro i h1 h2
    refine (hr i h2 h1).eq_af ?_
    have : i < 2 := h2
    rcases i with _ | _ | i
    · rfl
    · rfl
    · omega
  subst he
  obtain ⟨⟨x, hx, cs, t, z, rfl, mm, hm⟩, _⟩ := r.tab 2 isLen (by simp [dR])
  have hcell : w.cell? ⟨2, 0, none⟩ = some (.int .i64 mm) := by
    simp only [World.cell?, hx]
    simpa using hm
  have hlen := Lib.splitB_all ⟨#[32]⟩ (by decide) 0 _ s rfl
  refine (Tryd.strings_Split s ⟨#[32]⟩ mm w (by omega) hcell (by decide)).mono ?_
  rintro e w' ⟨rfl, rfl⟩
  refine ⟨_, _, m.put h.length ⟨w.heap.size, 0, 1, ((Lib.splitB ⟨#[32]⟩ 0 (Lib.countB s ⟨#[32]⟩) s).map Value.string).toArray.size⟩, h ++ [⟨2, 1, (Lib.splitB ⟨#[32]⟩ 0 (Lib.countB s ⟨#[32]⟩) s).map Value.string⟩], rfl, ?_, r.alloc _ 1 _ _ (by simp) (fun j v hj => ⟨v, by simpa using hj, ?_, ?_⟩), Grow.alloc _ _ _ _ _ _ rfl, by rw [hlen], rfl⟩
  · have := VRel.slice (n := (h ++ [(⟨2, 1, (Lib.splitB ⟨#[32]⟩ 0 (Lib.countB s ⟨#[32]⟩) s).map Value.string⟩ : Blk)]).length) (m := m.put h.length ⟨w.heap.size, 0, 1, ((Lib.splitB ⟨#[32]⟩ 0 (Lib.countB s ⟨#[32]⟩) s).map Value.string).toArray.size⟩) ⟨h.length, 0, none⟩ (Lib.countB s ⟨#[32]⟩ + 1) (Lib.countB s ⟨#[32]⟩ + 1) rfl (by simp)
    have e : place (m.put h.length ⟨w.heap.size, 0, 1, ((Lib.splitB ⟨#[32]⟩ 0 (Lib.countB s ⟨#[32]⟩) s).map Value.string).toArray.size⟩) ⟨h.length, 0, none⟩ = ⟨w.heap.size, 0, none⟩ := by simp [place, Map.put_same]
    rw [e] at this
    exact this
  · have := hj
    rw [List.getElem?_map] at this
    cases hq : (Lib.splitB ⟨#[32]⟩ 0 (Lib.countB s ⟨#[32]⟩) s)[j]? with
    | none => rw [hq] at this; cases this
    | some y => rw [hq] at this; cases this; exact .string _
  · have := hj
    rw [List.getElem?_map] at this
    cases hq : (Lib.splitB ⟨#[32]⟩ 0 (Lib.countB s ⟨#[32]⟩) s)[j]? with
    | none => rw [hq] at this; cases this
    | some y => rw [hq] at this; cases this; rfl
end Go.Proofs.YtmjhfklmlcnofaaDoor.Am
namespace Go.Proofs.YtmjhfklmlcnofaaDoor.Am
open Go Go.Proofs Go.RowKit
set_option linter.unusedVariables false
set_option linter.unusedSimpArgs false
set_option maxRecDepth 100000
set_option maxHeartbeats 8000000
theorem aw_forget {P : Program} {G : Glo} {N : Nat} {Q : Exit → Tmps → Heap → Prop} {c : Code} {T : Tmps} {h : Heap} (R : List Nat) (hk : ∀ T', (∀ t ∈ R, T' t = T t) → AW P G N c Q T' h) : AW P G N c Q T h := hk T fun _ _ => rfl
theorem l1InR (n lo hi : Int) (h : Heap) : ACalls Tryd.prog dR 41 #[.int .i64 n, .int .i64 lo, .int .i64 hi] h fun v h' => v = .bool (decide (lo ≤ n ∧ n ≤ hi)) ∧ h' = h := upPR (l1In_ok n lo hi h)
/-- What the reference reads of a word. -/
def rdGo : List UInt8 → Nat → Int
  | [], acc => acc
  | c :: r, acc => if c.toNat < 48 ∨ 57 < c.toNat then -1 else rdGo r (10 * acc + (c.toNat - 48))
def rdN (l : List UInt8) : Int := if 1 ≤ l.length ∧ l.length ≤ 6 ∧ ¬ (l.head? = some 48 ∧ 1 < l.length) then rdGo l 0 else -1
theorem bt_list (s : ByteArray) {i : Nat} (h : i < s.size) : ∃ b : UInt8, s.data.toList[i]? = some b ∧ bt s i = (b.toNat : Int) := by
  have h2 : i < s.data.toList.length := by rw [Array.length_toList]; exact h
  refine ⟨s.data.toList[i], List.getElem?_eq_getElem h2, ?_⟩
  have e : s[i]? = some (s[i]) := by simp [h]
  simp only [bt, e]
  rfl
theorem l1Read_ok (s : ByteArray) (h : Heap) (hs : s.size ≤ 1048576) : ACalls Tryd.prog dR 53 #[.string s] h fun v h' => v = .int .i64 (rdN s.data.toList) ∧ h' = h := by
  have hsl : s.data.toList.length = s.size := by rw [Array.length_toList]; rfl
  have hs6 : ∀ m : Nat, 10 ^ m ≤ 10 ^ 6 ∨ 6 < m := fun m => by
    rcases Nat.lt_or_ge 6 m with q | q
    · exact .inr q
    · exact .inl (Nat.pow_le_pow_right (by omega) q)
  by_cases h1 : 1 ≤ s.size ∧ s.size ≤ 6
  · have d1 : decide ((1 : Int) ≤ (s.size : Int) ∧ (s.size : Int) ≤ 6) = true := decide_eq_true (by omega)
    obtain ⟨b0, hb0, hbt0⟩ := bt_list s (i := 0) (by omega)
    have hix0 := bt_idx (P := Tryd.prog) Ty.st9 s (i := 0) (by omega) .i64
    rw [hbt0] at hix0
    replace hix0 : idxV Tryd.prog 9 (.string s) (.int .i64 0) = some (.int .u8 (b0.toNat : Nat)) := hix0
    have hh : s.data.toList.head? = some b0 := by rw [List.head?_eq_getElem?]; exact hb0
    by_cases h2 : b0 = 48 ∧ 1 < s.size
    · have e : rdN s.data.toList = -1 := by rw [rdN, if_neg]; rintro ⟨_, _, q⟩; exact q ⟨by rw [hh, h2.1], by omega⟩
      have d2 : decide ((b0.toNat : Int) = 48) = true := by rw [h2.1]; rfl
      have d3 : decide ((1 : Int) < (s.size : Int)) = true := decide_eq_true (by omega)
      rw [e]
      clear e h2
      refine Z36 Tryd.func53 rfl Tryd.ntmps53 (by simp) (by dsimp only [Tryd.f53]) ?_
      repeat' (first | refine wS ?_ | refine wD ?_ | refine wT ?_ | refine wL ?_ | refine wB ?_ | refine wG ?_ | refine gw_if (fun hb => ?_) (fun hb => ?_) | refine wC ?_ | refine cw_if (fun hb => ?_) (fun hb => ?_) | refine wR ?_ | (refine wK (K := ?_) ?_ ?_; rotate_left 1) | (with_reducible exact l1InR _ _ _ _) | refine hkp ?_)
      exact ⟨rfl, rfl⟩
    · have e : rdN s.data.toList = rdGo s.data.toList 0 := by rw [rdN, if_pos]; exact ⟨by omega, by omega, fun q => h2 ⟨by rw [hh] at q; exact Option.some.inj q.1, by omega⟩⟩
      have d2 : decide ((b0.toNat : Int) = 48) = false ∨ decide ((1 : Int) < (s.size : Int)) = false := by
        by_cases q : 1 < s.size
        · refine .inl (decide_eq_false fun z => h2 ⟨?_, q⟩)
          have : b0.toNat = 48 := by omega
          exact UInt8.toNat_inj.1 this
        · exact .inr (decide_eq_false (by omega))
      rw [e]
      generalize hR : rdGo s.data.toList 0 = R
      clear e h2
      refine Z36 Tryd.func53 rfl Tryd.ntmps53 (by simp) (by dsimp only [Tryd.f53]) ?_
      rcases d2 with d2 | d2
      all_goals
        repeat' (first | refine wS ?_ | refine wD ?_ | refine wT ?_ | refine wL ?_ | refine wB ?_ | refine wG ?_ | refine gw_if (fun hb => ?_) (fun hb => ?_) | refine wC ?_ | refine cw_if (fun hb => ?_) (fun hb => ?_) | refine wR ?_ | (refine wK (K := ?_) ?_ ?_; rotate_left 1) | (with_reducible exact l1InR _ _ _ _) | refine hkp ?_)
        all_goals
          refine aw_forget [0, 3, 4] ?_
          intro T hT
          simp only [Z37, Z38, Z39, implies_true, and_true, Zb, reduceIte, Nat.reduceEqDiff] at hT
          obtain ⟨h0, h3, h4⟩ := hT
          refine aw_loop (n := s.size) (fun m T' h' => ∃ (i acc : Nat), m = s.size - i ∧ i ≤ s.size ∧ h' = h ∧ T' 0 = .string s ∧ T' 3 = .int .i64 (acc : Nat) ∧ T' 4 = .int .i64 (i : Nat) ∧ acc < 10 ^ i ∧ rdGo (s.data.toList.drop i) acc = R)
            ⟨0, 0, rfl, Nat.zero_le _, rfl, h0, h3, h4, by decide, hR⟩ ?_
          clear h0 h3 h4 hR
          rintro m T' h' ⟨i, acc, rfl, hi, rfl, h0, h3, h4, hacc, hR⟩
          rcases Nat.lt_or_ge i s.size with hlt | hge
          · have hl : (i : Int) < (s.size : Int) := by omega
            obtain ⟨b, hb, hbt⟩ := bt_list s hlt
            have hix := bt_idx (P := Tryd.prog) Ty.st9 s hlt .i64
            rw [hbt] at hix
            have hdr : s.data.toList.drop i = b :: s.data.toList.drop (i + 1) := by
              obtain ⟨q1, q2⟩ := List.getElem?_eq_some_iff.1 hb
              rw [List.drop_eq_getElem_cons q1, q2]
            rw [hdr, rdGo] at hR
            have hpw : acc < 1000000 := by
              have : 10 ^ i ≤ 10 ^ 6 := Nat.pow_le_pow_right (by omega) (by omega)
              omega
            have hps : 10 ^ (i + 1) = 10 * 10 ^ i := by rw [Nat.pow_succ, Nat.mul_comm]
            have hb8 := b.toNat_lt
            by_cases c1 : b.toNat < 48
            · have e1 : decide ((b.toNat : Int) < 48) = true := decide_eq_true (by omega)
              rw [if_pos (.inl c1)] at hR
              subst hR
              clear hdr hbt hb hps
              repeat' (first | refine wS ?_ | refine wD ?_ | refine wT ?_ | refine wL ?_ | refine wB ?_ | refine wG ?_ | refine gw_if (fun hb => ?_) (fun hb => ?_) | refine wC ?_ | refine cw_if (fun hb => ?_) (fun hb => ?_) | refine wR ?_ | (refine wK (K := ?_) ?_ ?_; rotate_left 1) | (with_reducible exact l1InR _ _ _ _) | refine hkp ?_)
              exact ⟨rfl, rfl⟩
            · have e1 : decide ((b.toNat : Int) < 48) = false := decide_eq_false (by omega)
              by_cases c2 : 57 < b.toNat
              · have e2 : decide (57 < (b.toNat : Int)) = true := decide_eq_true (by omega)
                rw [if_pos (.inr c2)] at hR
                subst hR
                clear hdr hbt hb hps
                repeat' (first | refine wS ?_ | refine wD ?_ | refine wT ?_ | refine wL ?_ | refine wB ?_ | refine wG ?_ | refine gw_if (fun hb => ?_) (fun hb => ?_) | refine wC ?_ | refine cw_if (fun hb => ?_) (fun hb => ?_) | refine wR ?_ | (refine wK (K := ?_) ?_ ?_; rotate_left 1) | (with_reducible exact l1InR _ _ _ _) | refine hkp ?_)
                exact ⟨rfl, rfl⟩
              · have e2 : decide (57 < (b.toNat : Int)) = false := decide_eq_false (by omega)
                rw [if_neg (by omega)] at hR
                have w1 : IntKind.i64.wrap (10 * (acc : Int)) = ((10 * acc : Nat) : Int) := by rw [wrap_id (by omega)]; omega
                have w2 : IntKind.u8.wrap ((b.toNat : Int) - 48) = ((b.toNat - 48 : Nat) : Int) := by simp [IntKind.wrap, IntKind.signed, IntKind.bits]; omega
                have w3 : IntKind.i64.wrap ((b.toNat - 48 : Nat) : Int) = ((b.toNat - 48 : Nat) : Int) := wrap_id (by omega)
                have w4 : IntKind.i64.wrap (((10 * acc : Nat) : Int) + ((b.toNat - 48 : Nat) : Int)) = ((10 * acc + (b.toNat - 48) : Nat) : Int) := by rw [wrap_id (by omega)]; omega
                have w5 : IntKind.i64.wrap ((i : Int) + 1) = ((i + 1 : Nat) : Int) := by rw [wrap_id (by omega)]; omega
                clear hdr hbt hb
                repeat' (first | refine wS ?_ | refine wD ?_ | refine wT ?_ | refine wL ?_ | refine wB ?_ | refine wG ?_ | refine gw_if (fun hb => ?_) (fun hb => ?_) | refine wC ?_ | refine cw_if (fun hb => ?_) (fun hb => ?_) | refine wR ?_ | (refine wK (K := ?_) ?_ ?_; rotate_left 1) | (with_reducible exact l1InR _ _ _ _) | refine hkp ?_)
                refine ⟨s.size - (i + 1), by omega, i + 1, _, rfl, by omega, rfl, ?_, ?_, ?_, ?_, hR⟩
                · simp only [Zb, reduceIte, Nat.reduceEqDiff]; exact h0
                · simp only [Zb, reduceIte, Nat.reduceEqDiff]
                · simp only [Zb, reduceIte, Nat.reduceEqDiff, w5]
                · omega
          · have hl : ¬ (i : Int) < (s.size : Int) := by omega
            rw [List.drop_eq_nil_of_le (by omega), rdGo] at hR
            repeat' (first | refine wS ?_ | refine wD ?_ | refine wT ?_ | refine wL ?_ | refine wB ?_ | refine wG ?_ | refine gw_if (fun hb => ?_) (fun hb => ?_) | refine wC ?_ | refine cw_if (fun hb => ?_) (fun hb => ?_) | refine wR ?_ | (refine wK (K := ?_) ?_ ?_; rotate_left 1) | (with_reducible exact l1InR _ _ _ _) | refine hkp ?_)
            exact ⟨by simp only [oneOf, hR], rfl⟩
  · have d1 : decide ((1 : Int) ≤ (s.size : Int) ∧ (s.size : Int) ≤ 6) = false := decide_eq_false (by omega)
    have e : rdN s.data.toList = -1 := by rw [rdN, if_neg]; rintro ⟨q1, q2, _⟩; exact h1 ⟨by omega, by omega⟩
    rw [e]
    clear e h1
    refine Z36 Tryd.func53 rfl Tryd.ntmps53 (by simp) (by dsimp only [Tryd.f53]) ?_
    repeat' (first | refine wS ?_ | refine wD ?_ | refine wT ?_ | refine wL ?_ | refine wB ?_ | refine wG ?_ | refine gw_if (fun hb => ?_) (fun hb => ?_) | refine wC ?_ | refine cw_if (fun hb => ?_) (fun hb => ?_) | refine wR ?_ | (refine wK (K := ?_) ?_ ?_; rotate_left 1) | (with_reducible exact l1InR _ _ _ _) | refine hkp ?_)
    exact ⟨rfl, rfl⟩
end Go.Proofs.YtmjhfklmlcnofaaDoor.Am
namespace Go.Proofs.YtmjhfklmlcnofaaDoor.Am
open Go Go.Proofs Go.RowKit
set_option linter.unusedVariables false
set_option linter.unusedSimpArgs false
set_option maxRecDepth 100000
set_option maxHeartbeats 8000000
/-- What the program reads of a word. -/
def riV (l : List UInt8) : Int × Bool := match Lib.atoiAll l with
  | .ok n => if Lib.itoa n = l then (n, true) else (0, false)
  | _ => (0, false)
theorem atoi_range (l : List UInt8) (n : Int) (h : Lib.atoiAll l = .ok n) : -9223372036854775808 ≤ n ∧ n ≤ 9223372036854775807 := by
  unfold Lib.atoiAll at h
  split at h
  · cases h
  · simp only at h
    split at h
    · cases h
    · cases h
    · split at h
      · cases h
      · split at h
        · cases h
        · rename_i q1 q2
          injection h with h
          subst h
          rw [not_and] at q1 q2
          split
          · rename_i q3
            have := q2 q3
            omega
          · rename_i q3
            have := q1 q3
            omega
theorem nil_nil3 : binV Tryd.prog .neq 78 (.tmp 11) (.const .nilIface) .nilIface .nilIface = some (.bool false) := by kernel_rfl
theorem err_nil3 (xo yo : Operand) (t : TypeId) (p : Value) : binV Tryd.prog .neq 78 xo yo (.iface t p) .nilIface = some (.bool true) := by
  simp only [binV, Tryd.underlying78]
theorem itoaR (n : Int) (h : Heap) (hn : -9223372036854775808 ≤ n ∧ n ≤ 9223372036854775807) : ACalls Tryd.prog dR 73 #[.int .i64 n] h fun v h' => v = .string (S (Lib.itoa n)) ∧ h' = h := upPR (itoa_ok n h hn)
theorem atoiR_yes (s : ByteArray) (n : Int) (h : Heap) (hs : s.size ≤ 1048576) (ha : Lib.atoiAll s.data.toList = .ok n) :
    ACalls Tryd.prog dR 59 #[.string s] h fun v h' => v = .tuple #[.int .i64 n, .nilIface] ∧ h' = h := upER (atoi_yes s n h hs ha)
theorem readInt_ok (s : ByteArray) (h : Heap) (hs : s.size ≤ 1048576) : ACalls Tryd.prog dR 76 #[.string s] h fun v h' => v = .tuple #[.int .i64 (riV s.data.toList).1, .bool (riV s.data.toList).2] ∧ h' = h := by
  refine acalls_pure (.inr ⟨_, rfl, by simp [af, af1]⟩) ?_
  have hnn := nil_nil3
  have hen := err_nil3
  have hne : (∀ n, Lib.atoiAll s.data.toList ≠ .ok n) → riV s.data.toList = (0, false) := fun q => by
    unfold riV
    split
    · rename_i n hq; exact absurd hq (q n)
    · rfl
  by_cases ha : ∃ n, Lib.atoiAll s.data.toList = .ok n
  · obtain ⟨n, ha⟩ := ha
    have hrg := atoi_range _ n ha
    have e : riV s.data.toList = if Lib.itoa n = s.data.toList then (n, true) else (0, false) := by unfold riV; rw [ha]
    clear hne hen
    by_cases hq : Lib.itoa n = s.data.toList
    · have d1 : decide (S (Lib.itoa n) = s) = true := by rw [hq, S_list]; exact decide_eq_true rfl
      rw [e, if_pos hq]
      clear e hq
      refine Z36 Tryd.func76 rfl Tryd.ntmps76 (by simp) (by dsimp only [Tryd.f76]) ?_
      repeat' (first | refine wS ?_ | refine wD ?_ | refine wT ?_ | refine wL ?_ | refine wB ?_ | refine wG ?_ | refine gw_if (fun hb => ?_) (fun hb => ?_) | refine wC ?_ | refine cw_if (fun hb => ?_) (fun hb => ?_) | refine wR ?_ | (refine wK (K := ?_) ?_ ?_; rotate_left 1) | ((with_reducible refine atoiR_yes _ ?_ _ ?_ ?_); rotate_left 1; (· exact pO); (· assumption)) | (with_reducible exact hno _) | ((with_reducible refine itoaR _ _ ?_); (· assumption)) | refine hkp ?_)
      exact ⟨rfl, [], (Zx _).symm⟩
    · have d1 : decide (S (Lib.itoa n) = s) = false := decide_eq_false fun z => hq (by rw [← S_list s] at z; exact S_inj.1 z)
      rw [e, if_neg hq]
      clear e hq
      refine Z36 Tryd.func76 rfl Tryd.ntmps76 (by simp) (by dsimp only [Tryd.f76]) ?_
      repeat' (first | refine wS ?_ | refine wD ?_ | refine wT ?_ | refine wL ?_ | refine wB ?_ | refine wG ?_ | refine gw_if (fun hb => ?_) (fun hb => ?_) | refine wC ?_ | refine cw_if (fun hb => ?_) (fun hb => ?_) | refine wR ?_ | (refine wK (K := ?_) ?_ ?_; rotate_left 1) | ((with_reducible refine atoiR_yes _ ?_ _ ?_ ?_); rotate_left 1; (· exact pO); (· assumption)) | (with_reducible exact hno _) | ((with_reducible refine itoaR _ _ ?_); (· assumption)) | refine hkp ?_)
      exact ⟨rfl, [], (Zx _).symm⟩
  · have ha' : ∀ n, Lib.atoiAll s.data.toList ≠ .ok n := fun n q => ha ⟨n, q⟩
    rw [hne ha']
    obtain ⟨q, hno0⟩ := atoi_no s hs ha'
    have hno := fun h => upER (hno0 h)
    clear hno0 hne hnn ha ha'
    refine Z36 Tryd.func76 rfl Tryd.ntmps76 (by simp) (by dsimp only [Tryd.f76]) ?_
    repeat' (first | refine wS ?_ | refine wD ?_ | refine wT ?_ | refine wL ?_ | refine wB ?_ | refine wG ?_ | refine gw_if (fun hb => ?_) (fun hb => ?_) | refine wC ?_ | refine cw_if (fun hb => ?_) (fun hb => ?_) | refine wR ?_ | (refine wK (K := ?_) ?_ ?_; rotate_left 1) | ((with_reducible refine atoiR_yes _ ?_ _ ?_ ?_); rotate_left 1; (· exact pO); (· assumption)) | (with_reducible exact hno _) | ((with_reducible refine itoaR _ _ ?_); (· assumption)) | refine hkp ?_)
    exact ⟨rfl, _, rfl⟩
end Go.Proofs.YtmjhfklmlcnofaaDoor.Am
namespace Go.Proofs.YtmjhfklmlcnofaaDoor.Am
open Go Go.Proofs Go.RowKit
set_option linter.unusedVariables false
set_option linter.unusedSimpArgs false
set_option maxRecDepth 100000
set_option maxHeartbeats 8000000
def riL (l : List ByteArray) : List Int := l.map fun s => (riV s.data.toList).1
def riOk (l : List ByteArray) : Bool := l.all fun s => (riV s.data.toList).2
theorem readInts_y (l : List ByteArray) (v : Value) (h : Heap) (hs : Sl h v 1 (trs l)) (hl : l.length ≤ 1048577) (hz : ∀ s ∈ l, s.size ≤ 1048576) (hok : riOk l = true) : ACalls Tryd.prog dR 68 #[v] h
    fun v h' => ∃ (b : Option Addr) (F : Heap), v = .tuple #[.slice b l.length l.length, .bool true] ∧ h' = h ++ F ∧ Sl (h ++ F) (.slice b l.length l.length) 1 (ints (riL l)) := by
  obtain ⟨b, c, rfl, hc, hrow⟩ := hs
  simp only [trs, Zv] at hc ⊢
  have hlen : (ints (riL l)).length = l.length := by simp [ints, riL]
  have hmk : mkS Tryd.prog 69 h (.int .i64 l.length) (.int .i64 l.length) = _ := mkS_eq Ty.sl69 Ty.zc3 Ty.by3 (n := l.length) (by omega) (by omega)
  refine Z36 Tryd.func68 rfl Tryd.ntmps68 (by simp) (by dsimp only [Tryd.f68]) ?_
  repeat' (first | refine wS ?_ | refine wD ?_ | refine wT ?_ | refine wL ?_ | refine wB ?_ | refine wC ?_ | refine cw_if (fun hb => ?_) (fun hb => ?_) | refine wR ?_ | (refine wK (K := ?_) ?_ ?_; rotate_left 1) | ((with_reducible refine readInt_ok _ _ ?_); (· (first | assumption | omega))) | refine hkp ?_)
  refine aw_for [4, 12, 13] (fun k T h' => h' = h ++ [⟨2, 1, fill [.int .i64 0] (ints (riL l)) k⟩] ∧ T 14 = .int .i64 k) l.length (k0 := 0) (Nat.zero_le _) ⟨?_, rfl⟩ ?_
  · rw [fill_zero, hlen]; try rfl
  rintro k T h' hk hR ⟨rfl, h14⟩
  simp only [Z37, Z38, Z39, implies_true, and_true, stp, ev, ZB, reduceIte, Nat.reduceEqDiff, Z2x, Z13, Zy] at hR
  rcases Nat.lt_or_ge k l.length with hkn | hkn
  · have h1 : (k : Int) < l.length := by omega
    obtain ⟨a, rfl, hld⟩ := Sl.row hrow (k := k) (by simpa [trs] using hkn)
    simp only [trs, List.getElem_map] at hld
    have hg := getC_old (getC_of_load hld)
    have hzk := hz l[k] (List.getElem_mem _)
    have hokk : (riV l[k].data.toList).2 = true := List.all_eq_true.1 hok l[k] (List.getElem_mem _)
    have hset := fill_set (z := [.int .i64 0]) (h := []) (ints_len (riL l)) rfl (k := k) (by omega)
    have hrk : (ints (riL l))[k]'(by omega) = [.int .i64 (riV l[k].data.toList).1] := by simp [ints, riL]
    rw [hrk] at hset
    repeat' (first | refine wS ?_ | refine wD ?_ | refine wT ?_ | refine wL ?_ | refine wB ?_ | refine wC ?_ | refine cw_if (fun hb => ?_) (fun hb => ?_) | refine wR ?_ | (refine wK (K := ?_) ?_ ?_; rotate_left 1) | ((with_reducible refine readInt_ok _ _ ?_); (· (first | assumption | omega))) | refine hkp ?_)
    refine ⟨by first | assumption | omega, ?_, ?_⟩
    · simp only [Z37, Z38, Z39, implies_true, and_true, ZB, stp, ev, reduceIte, Nat.reduceEqDiff, Z2x, Z13, Zy, *]
    refine ⟨rfl, ?_⟩
    simp only [Zb, reduceIte, Nat.reduceEqDiff]
    rw [wrap_id (by omega)]; rfl
  · have h1 : ¬ (k : Int) < l.length := by omega
    have hfa : fill [.int .i64 0] (ints (riL l)) k = (ints (riL l)).flatten := fill_all _ _ (by omega)
    rw [hfa]
    repeat' (first | refine wS ?_ | refine wD ?_ | refine wT ?_ | refine wL ?_ | refine wB ?_ | refine wC ?_ | refine cw_if (fun hb => ?_) (fun hb => ?_) | refine wR ?_ | (refine wK (K := ?_) ?_ ?_; rotate_left 1) | ((with_reducible refine readInt_ok _ _ ?_); (· (first | assumption | omega))) | refine hkp ?_)
    exact ⟨_, _, rfl, rfl, sl_at (k := 0) (rows := ints (riL l)) rfl (ints_len _) (by rw [hlen]) (Z4 _)⟩
theorem readInts_n (l : List ByteArray) (v : Value) (h : Heap) (hs : Sl h v 1 (trs l)) (hl : l.length ≤ 1048577) (hz : ∀ s ∈ l, s.size ≤ 1048576) (hok : riOk l = false) : ACalls Tryd.prog dR 68 #[v] h
    fun v h' => ∃ (F : Heap), v = .tuple #[.slice none 0 0, .bool false] ∧ h' = h ++ F := by
  obtain ⟨b, c, rfl, hc, hrow⟩ := hs
  simp only [trs, Zv] at hc ⊢
  have hlen : (ints (riL l)).length = l.length := by simp [ints, riL]
  have hmk : mkS Tryd.prog 69 h (.int .i64 l.length) (.int .i64 l.length) = _ := mkS_eq Ty.sl69 Ty.zc3 Ty.by3 (n := l.length) (by omega) (by omega)
  refine Z36 Tryd.func68 rfl Tryd.ntmps68 (by simp) (by dsimp only [Tryd.f68]) ?_
  repeat' (first | refine wS ?_ | refine wD ?_ | refine wT ?_ | refine wL ?_ | refine wB ?_ | refine wC ?_ | refine cw_if (fun hb => ?_) (fun hb => ?_) | refine wR ?_ | (refine wK (K := ?_) ?_ ?_; rotate_left 1) | ((with_reducible refine readInt_ok _ _ ?_); (· (first | assumption | omega))) | refine hkp ?_)
  refine aw_for [4, 12, 13] (fun k T h' => h' = h ++ [⟨2, 1, fill [.int .i64 0] (ints (riL l)) k⟩] ∧ T 14 = .int .i64 k ∧ ∀ s ∈ l.take k, (riV s.data.toList).2 = true) l.length (k0 := 0) (Nat.zero_le _) ⟨?_, rfl, by simp⟩ ?_
  · rw [fill_zero, hlen]; try rfl
  rintro k T h' hk hR ⟨rfl, h14, hall⟩
  simp only [Z37, Z38, Z39, implies_true, and_true, stp, ev, ZB, reduceIte, Nat.reduceEqDiff, Z2x, Z13, Zy] at hR
  rcases Nat.lt_or_ge k l.length with hkn | hkn
  · have h1 : (k : Int) < l.length := by omega
    obtain ⟨a, rfl, hld⟩ := Sl.row hrow (k := k) (by simpa [trs] using hkn)
    simp only [trs, List.getElem_map] at hld
    have hg := getC_old (getC_of_load hld)
    have hzk := hz l[k] (List.getElem_mem _)
    have hset := fill_set (z := [.int .i64 0]) (h := []) (ints_len (riL l)) rfl (k := k) (by omega)
    have hrk : (ints (riL l))[k]'(by omega) = [.int .i64 (riV l[k].data.toList).1] := by simp [ints, riL]
    rw [hrk] at hset
    rcases Bool.eq_false_or_eq_true (riV l[k].data.toList).2 with hokk | hokk
    · repeat' (first | refine wS ?_ | refine wD ?_ | refine wT ?_ | refine wL ?_ | refine wB ?_ | refine wC ?_ | refine cw_if (fun hb => ?_) (fun hb => ?_) | refine wR ?_ | (refine wK (K := ?_) ?_ ?_; rotate_left 1) | ((with_reducible refine readInt_ok _ _ ?_); (· (first | assumption | omega))) | refine hkp ?_)
      refine ⟨by first | assumption | omega, ?_, ?_⟩
      · simp only [Z37, Z38, Z39, implies_true, and_true, ZB, stp, ev, reduceIte, Nat.reduceEqDiff, Z2x, Z13, Zy, *]
      refine ⟨rfl, ?_, fun s hs => ?_⟩
      · simp only [Zb, reduceIte, Nat.reduceEqDiff]
        rw [wrap_id (by omega)]; rfl
      · rw [List.take_succ_eq_append_getElem hkn] at hs
        rcases List.mem_append.1 hs with q | q
        · exact hall s q
        · rw [List.mem_singleton] at q; rw [q]; exact hokk
    · repeat' (first | refine wS ?_ | refine wD ?_ | refine wT ?_ | refine wL ?_ | refine wB ?_ | refine wC ?_ | refine cw_if (fun hb => ?_) (fun hb => ?_) | refine wR ?_ | (refine wK (K := ?_) ?_ ?_; rotate_left 1) | ((with_reducible refine readInt_ok _ _ ?_); (· (first | assumption | omega))) | refine hkp ?_)
      exact ⟨_, rfl, rfl⟩
  · exfalso
    rw [List.take_of_length_le hkn] at hall
    rw [show riOk l = true from List.all_eq_true.2 hall] at hok
    cases hok
end Go.Proofs.YtmjhfklmlcnofaaDoor.Am
namespace Go.Proofs.YtmjhfklmlcnofaaDoor.Am
open Go Go.Proofs Go.RowKit
set_option linter.unusedVariables false
set_option linter.unusedSimpArgs false
set_option maxRecDepth 100000
set_option maxHeartbeats 8000000
theorem split_step {D : List UInt8} {fr i : Nat} (hfi : fr ≤ i) (hb : D[i]? = some 32) (hn : ∀ j, fr ≤ j → j < i → D[j]? ≠ some 32) : spl 32 (D.drop fr) = (D.take i).drop fr :: spl 32 (D.drop (i + 1)) := by
  rw [spl_hit 32 (i - fr) (D.drop fr) (by rw [List.getElem?_drop, show fr + (i - fr) = i by omega]; exact hb) (fun j hj => by rw [List.getElem?_drop]; exact hn (fr + j) (by omega) (by omega))]
  rw [List.drop_drop, show fr + (i - fr + 1) = i + 1 by omega, List.drop_take]
theorem split_end {D : List UInt8} {fr : Nat} (hn : ∀ j, fr ≤ j → j < D.length → D[j]? ≠ some 32) : spl 32 (D.drop fr) = [D.drop fr] := by
  refine spl_none 32 _ fun q => ?_
  obtain ⟨j, hj⟩ := List.getElem?_of_mem q
  rw [List.getElem?_drop] at hj
  have hlt : fr + j < D.length := by
    rcases Nat.lt_or_ge (fr + j) D.length with q | q
    · exact q
    · rw [List.getElem?_eq_none q] at hj; cases hj
  exact hn (fr + j) (by omega) hlt hj
theorem l1Split_ok (s : ByteArray) (h : Heap) (hs : s.size ≤ 1048576) : ACalls Tryd.prog dR 52 #[.string s, .int .u8 32] h
    fun v h' => ∃ (l : List ByteArray) (L : Heap), l.map (·.data.toList) = spl 32 s.data.toList ∧ h' = h ++ L ∧ App h.length L v 1 (txs l) l.length ∧ l.length ≤ s.size + 1 := by
  have hsl : s.data.toList.length = s.size := by rw [Array.length_toList]; rfl
  refine Z36 Tryd.func52 rfl Tryd.ntmps52 (by simp) (by dsimp only [Tryd.f52]) ?_
  repeat' (first | refine wS ?_ | refine wD ?_ | refine wT ?_ | refine wL ?_ | refine wB ?_ | refine wC ?_ | refine cw_if (fun hb => ?_) (fun hb => ?_) | refine wR ?_)
  refine aw_forget [0, 1, 5, 6, 7] ?_
  intro T hR
  simp only [Z37, Z38, Z39, implies_true, and_true, stp, ev, ZB, reduceIte, Nat.reduceEqDiff, Z2x, Z13, Zy] at hR
  obtain ⟨h0, h1, h5, h6, h7⟩ := hR
  refine aw_loop (n := s.size) (fun m T' h' => ∃ (L : Heap) (acc : List ByteArray) (fr i : Nat), m = s.size - i ∧ i ≤ s.size ∧ fr ≤ i ∧ h' = h ++ L ∧ T' 0 = .string s ∧ T' 1 = .int .u8 32 ∧ T' 6 = .int .i64 (fr : Nat) ∧ T' 7 = .int .i64 (i : Nat) ∧
    App h.length L (T' 5) 1 (txs acc) acc.length ∧ acc.length ≤ fr ∧ spl 32 s.data.toList = acc.map (·.data.toList) ++ spl 32 (s.data.toList.drop fr) ∧ ∀ j, fr ≤ j → j < i → s.data.toList[j]? ≠ some 32)
    ⟨[], [], 0, 0, rfl, Nat.zero_le _, Z4 _, (Zx h).symm, h0, h1, h6, h7, by rw [h5]; exact App.nil _ _ _, Z4 _, rfl, fun j a b => by omega⟩ ?_
  clear h0 h1 h5 h6 h7
  rintro m T' h' ⟨L, acc, fr, i, rfl, hi, hfi, rfl, h0, h1, h6, h7, hap, hal, hspl, hno⟩
  obtain ⟨b5, h5⟩ := app_slice hap
  have hfl := hap.flat
  rw [h5] at hap hfl
  have hw5 : IntKind.i64.wrap ((i : Int) + 1) = ((i + 1 : Nat) : Int) := by rw [wrap_id (by omega)]; omega
  rcases Nat.lt_or_ge i s.size with hlt | hge
  · have hl : (i : Int) < (s.size : Int) := by omega
    obtain ⟨b, hb, hbt⟩ := bt_list s hlt
    have hix := bt_idx (P := Tryd.prog) Ty.st9 s hlt .i64
    rw [hbt] at hix
    by_cases c1 : b = 32
    · have e1 : decide ((b.toNat : Int) = 32) = true := by rw [c1]; rfl
      have hst := split_step hfi (by rw [hb, c1]) hno
      have hcut := fun h => cut_str (P := Tryd.prog) (h := h) Ty.st9 s (fr : Int) (i : Int) (by omega) (by omega) (by omega) .i64 .i64
      simp only [Zq] at hcut
      have hx : (s.extract fr i).data.toList = (s.data.toList.take i).drop fr := ext_list _ _ _
      generalize s.extract fr i = x at hcut hx
      have hbs := bsl_one (h := h ++ L) (x := .string x) Ty.sl31 Ty.zc9 rfl rfl
      obtain ⟨v', L', hap', happ⟩ := app_step (h2 := h) (L := L) (E := [⟨2, 1, [.string x]⟩]) (j := 0) (ix := h.length + L.length)
        Ty.sl31 Ty.zc9 Ty.by9 hap rfl rfl (by omega) (by omega) (by omega)
      simp only [Z7, Zc, Zd, Z6, Z3, Z2, Zf, Zh, Nat.reduceAdd] at hbs hap' happ
      clear c1 hbt hb
      repeat' (first | refine wS ?_ | refine wD ?_ | refine wT ?_ | refine wL ?_ | refine wB ?_ | refine wC ?_ | refine cw_if (fun hb => ?_) (fun hb => ?_) | refine wR ?_)
      refine ⟨s.size - (i + 1), by omega, L', acc ++ [x], i + 1, i + 1, rfl, by omega, Z4 _, rfl, ?_, ?_, ?_, ?_, ?_, by rw [Z6]; simp only [Z3, Z2]; omega, ?_, fun j a b => by omega⟩
      · simp only [Zb, reduceIte, Nat.reduceEqDiff]; exact h0
      · simp only [Zb, reduceIte, Nat.reduceEqDiff]; exact h1
      · simp only [Zb, reduceIte, Nat.reduceEqDiff, hw5]
      · simp only [Zb, reduceIte, Nat.reduceEqDiff, hw5]
      · simp only [Zb, reduceIte, Nat.reduceEqDiff]
        exact happ.cast rfl rfl rfl (by simp [txs]) (by simp)
      · rw [hspl, hst, List.map_append, Z7, ← hx]; rfl
    · have e1 : decide ((b.toNat : Int) = 32) = false := decide_eq_false fun q => c1 (UInt8.toNat_inj.1 (by rw [show b.toNat = 32 by omega]; rfl))
      clear hbt
      repeat' (first | refine wS ?_ | refine wD ?_ | refine wT ?_ | refine wL ?_ | refine wB ?_ | refine wC ?_ | refine cw_if (fun hb => ?_) (fun hb => ?_) | refine wR ?_)
      refine ⟨s.size - (i + 1), by omega, L, acc, fr, i + 1, rfl, by omega, by omega, rfl, ?_, ?_, ?_, ?_, ?_, hal, hspl, fun j a q => ?_⟩
      · simp only [Zb, reduceIte, Nat.reduceEqDiff]; exact h0
      · simp only [Zb, reduceIte, Nat.reduceEqDiff]; exact h1
      · simp only [Zb, reduceIte, Nat.reduceEqDiff]; exact h6
      · simp only [Zb, reduceIte, Nat.reduceEqDiff, hw5]
      · simp only [Zb, reduceIte, Nat.reduceEqDiff]; rw [h5]; exact hap
      · by_cases hj : j = i
        · rw [hj, hb]; intro z; exact c1 (Option.some.inj z)
        · exact hno j a (by omega)
  · obtain rfl : i = s.size := by omega
    have hl : ¬ ((s.size : Nat) : Int) < (s.size : Int) := by omega
    have hst := split_end (D := s.data.toList) (fr := fr) (fun j a b => hno j a (by omega))
    have hcut := fun h => cut_str_lo (P := Tryd.prog) (h := h) Ty.st9 s (fr : Int) (by omega) (by omega) .i64
    simp only [Zq] at hcut
    have hx : (s.extract fr s.size).data.toList = s.data.toList.drop fr := by rw [ext_list, List.take_of_length_le (Nat.le_of_eq hsl)]
    generalize s.extract fr s.size = x at hcut hx
    have hbs := bsl_one (h := h ++ L) (x := .string x) Ty.sl31 Ty.zc9 rfl rfl
    obtain ⟨v', L', hap', happ⟩ := app_step (h2 := h) (L := L) (E := [⟨2, 1, [.string x]⟩]) (j := 0) (ix := h.length + L.length)
      Ty.sl31 Ty.zc9 Ty.by9 hap rfl rfl (by omega) (by omega) (by omega)
    simp only [Z7, Zc, Zd, Z6, Z3, Z2, Zf, Zh, Nat.reduceAdd] at hbs hap' happ
    repeat' (first | refine wS ?_ | refine wD ?_ | refine wT ?_ | refine wL ?_ | refine wB ?_ | refine wC ?_ | refine cw_if (fun hb => ?_) (fun hb => ?_) | refine wR ?_)
    refine ⟨acc ++ [x], L', ?_, rfl, ?_, by rw [Z6]; simp only [Z3, Z2]; omega⟩
    · rw [hspl, hst, List.map_append, ← hx]; rfl
    · exact happ.cast rfl rfl (by simp only [oneOf]) (by simp [txs]) (by simp)
end Go.Proofs.YtmjhfklmlcnofaaDoor.Am
namespace Go.Proofs.YtmjhfklmlcnofaaDoor.Am
open Go Go.Proofs Go.RowKit
set_option linter.unusedVariables false
set_option linter.unusedSimpArgs false
set_option maxRecDepth 100000
set_option maxHeartbeats 8000000
/-- The digits of a number below a thousand. -/
def dF (n : Nat) : List UInt8 := if n < 10 then [UInt8.ofNat (48 + n)] else if n < 100 then [UInt8.ofNat (48 + n / 10), UInt8.ofNat (48 + n % 10)] else [UInt8.ofNat (48 + n / 10 / 10), UInt8.ofNat (48 + n / 10 % 10), UInt8.ofNat (48 + n % 10)]
theorem dF_eq (n : Nat) (h : n < 1000) : Lib.decDigits n = dF n := by
  have h1 : ∀ m, m < 10 → Lib.decDigits m = [UInt8.ofNat (48 + m)] := fun m hm => by rw [Lib.decDigits, dif_pos hm]
  have h2 : ∀ m, ¬ m < 10 → Lib.decDigits m = Lib.decDigits (m / 10) ++ [UInt8.ofNat (48 + m % 10)] := fun m hm => by rw [Lib.decDigits, dif_neg hm]
  unfold dF
  split
  · exact h1 n (by assumption)
  · rw [h2 n (by assumption)]
    split
    · rw [h1 (n / 10) (by omega)]; rfl
    · rw [h2 (n / 10) (by omega), h1 (n / 10 / 10) (by omega)]; rfl
theorem dF_facts : ∀ n : Nat, n < 1000 → Lib.atoiAll (dF n) = .ok (n : Int) ∧ rdN (dF n) = (n : Int) ∧ ¬ (32 : UInt8) ∈ dF n := by decide +kernel
theorem dec_atoi (n : Nat) (h : n < 1000) : Lib.atoiAll (Lib.decDigits n) = .ok (n : Int) := by rw [dF_eq n h]; exact (dF_facts n h).1
theorem dec_rd (n : Nat) (h : n < 1000) : rdN (Lib.decDigits n) = (n : Int) := by rw [dF_eq n h]; exact (dF_facts n h).2.1
theorem dec_no (n : Nat) (h : n < 1000) : ¬ (32 : UInt8) ∈ Lib.decDigits n := by rw [dF_eq n h]; exact (dF_facts n h).2.2
theorem join_two (x y : List UInt8) (r : List (List UInt8)) : Lib.join (x :: y :: r) [32] = x ++ 32 :: Lib.join (y :: r) [32] := by
  rw [Lib.join_cons, Lib.join_cons]
  simp [Lib.joinTail]
theorem spl_app (x l : List UInt8) (hx : ¬ (32 : UInt8) ∈ x) : spl 32 (x ++ 32 :: l) = x :: spl 32 l := by
  rw [spl_hit 32 x.length (x ++ 32 :: l) (by simp) (fun j hj => by
    rw [List.getElem?_append_left hj]
    intro q
    exact hx (List.mem_of_getElem? q))]
  simp
theorem spl_join : ∀ (ws : List (List UInt8)), ws ≠ [] → (∀ w ∈ ws, ¬ (32 : UInt8) ∈ w) → spl 32 (Lib.join ws [32]) = ws
  | [], h, _ => absurd rfl h
  | [x], _, hn => by rw [Lib.join_one]; exact spl_none 32 x (hn x (by simp))
  | x :: y :: r, _, hn => by
      rw [join_two, spl_app x _ (hn x (by simp)), spl_join (y :: r) (by simp) (fun w hw => hn w (by simp at hw ⊢; exact .inr hw))]
theorem join_spl : ∀ l : List UInt8, Lib.join (spl 32 l) [32] = l
  | [] => rfl
  | x :: xs => by
      have ih := join_spl xs
      by_cases h : x = 32
      · subst h
        have hne := spl_ne 32 xs
        rw [spl, if_pos rfl]
        cases hq : spl 32 xs with
        | nil => exact absurd hq hne
        | cons w ws =>
          rw [join_two, ← hq, ih]; rfl
      · rw [spl, if_neg h]
        cases hq : spl 32 xs with
        | nil => exact absurd hq (spl_ne 32 xs)
        | cons w ws =>
          rw [hq] at ih
          simp only
          rw [Lib.join_cons] at ih ⊢
          rw [Zc, ih]
/-- A word that both readers take. -/
def wOk (w : List UInt8) : Bool := (riV w).2 && decide (0 ≤ (riV w).1 ∧ (riV w).1 ≤ 999)
theorem wOk_dec {w : List UInt8} (h : wOk w = true) : ∃ n : Nat, n < 1000 ∧ w = Lib.decDigits n ∧ (riV w).1 = n ∧ rdN w = n := by
  simp only [wOk, Bool.and_eq_true] at h
  obtain ⟨h1, h2⟩ := h
  have h3 := of_decide_eq_true h2
  cases hn : Lib.atoiAll w with
  | ok n =>
    have e : riV w = if Lib.itoa n = w then (n, true) else (0, false) := by unfold riV; rw [hn]
    by_cases hq : Lib.itoa n = w
    · rw [if_pos hq] at e
      rw [e] at h3 ⊢
      simp only at h3 ⊢
      have hd : w = Lib.decDigits n.toNat := by rw [← hq, Lib.itoa, if_neg (by omega)]
      refine ⟨n.toNat, by omega, hd, by omega, ?_⟩
      rw [hd]; exact dec_rd _ (by omega)
    · rw [if_neg hq] at e
      rw [e] at h1; cases h1
  | _ =>
    have e : riV w = (0, false) := by unfold riV; rw [hn]
    rw [e] at h1; cases h1
theorem dec_wOk (n : Nat) (h : n < 1000) : wOk (Lib.decDigits n) = true ∧ riV (Lib.decDigits n) = ((n : Int), true) := by
  have e : riV (Lib.decDigits n) = ((n : Int), true) := by
    unfold riV
    rw [dec_atoi n h]
    simp only
    rw [if_pos (by rw [Lib.itoa, if_neg (by omega)]; simp)]
  refine ⟨?_, e⟩
  simp only [wOk, e, Bool.true_and]
  exact decide_eq_true (by omega)
/-- The words make an act. -/
def raOk (D : List UInt8) : Bool := decide ((spl 32 D).length = 7) && (spl 32 D).all wOk
def raL (D : List UInt8) : List Int := (spl 32 D).map rdN
theorem raL_eq {D : List UInt8} (h : raOk D = true) : (spl 32 D).map (fun w => (riV w).1) = raL D ∧ (raL D).all (inR 0 999) = true ∧ D = Lib.join (decs (raL D)) [32] ∧ D.length ≤ 28 := by
  simp only [raOk, Bool.and_eq_true] at h
  obtain ⟨h1, h2⟩ := h
  have h1 := of_decide_eq_true h1
  have hw := List.all_eq_true.1 h2
  have e1 : (spl 32 D).map (fun w => (riV w).1) = raL D := List.map_congr_left fun w hww => by
    obtain ⟨n, _, _, q1, q2⟩ := wOk_dec (hw w hww)
    rw [q1, q2]
  have e2 : decs (raL D) = spl 32 D := by
    unfold decs raL
    rw [List.map_map]
    conv => rhs; rw [← List.map_id (spl 32 D)]
    refine List.map_congr_left fun w hww => ?_
    obtain ⟨n, _, q0, _, q2⟩ := wOk_dec (hw w hww)
    simp only [Function.comp_apply, q2, Zq, id]
    exact q0.symm
  have e3 : (raL D).all (inR 0 999) = true := by
    rw [List.all_eq_true]
    intro n hn
    obtain ⟨w, hww, rfl⟩ := List.mem_map.1 hn
    obtain ⟨n, hn, _, _, q2⟩ := wOk_dec (hw w hww)
    rw [q2, inR]
    exact decide_eq_true (by omega)
  refine ⟨e1, e3, by rw [e2]; exact (join_spl D).symm, ?_⟩
  have hj := join_len (spl 32 D) fun x hx => by rw [← e2] at hx; exact decs_le e3 x hx
  rw [join_spl, h1] at hj
  exact hj
theorem raOk_of {D : List UInt8} (h1 : (spl 32 D).length = 7) (h2 : (raL D).all (inR 0 999) = true) (h3 : Lib.join (decs (raL D)) [32] = D) : raOk D = true := by
  have hlen : (decs (raL D)).length = 7 := by simp [decs, raL, h1]
  have hin : ∀ n ∈ raL D, 0 ≤ n ∧ n ≤ 999 := fun n hn => by
    have := List.all_eq_true.1 h2 n hn
    exact of_decide_eq_true this
  have hs : spl 32 D = decs (raL D) := by
    have := spl_join (decs (raL D)) (fun q => by rw [q] at hlen; simp at hlen) (fun w hw => by
      obtain ⟨n, hn, rfl⟩ := List.mem_map.1 hw
      exact dec_no _ (by have := hin n hn; omega))
    rw [h3] at this
    exact this
  simp only [raOk, Bool.and_eq_true]
  refine ⟨decide_eq_true h1, ?_⟩
  rw [List.all_eq_true, hs]
  intro w hw
  obtain ⟨n, hn, rfl⟩ := List.mem_map.1 hw
  exact (dec_wOk _ (by have := hin n hn; omega)).1
end Go.Proofs.YtmjhfklmlcnofaaDoor.Am
