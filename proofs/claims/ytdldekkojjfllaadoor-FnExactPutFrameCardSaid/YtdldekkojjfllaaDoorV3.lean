/- The laws' helpers over slices of texts; the law ReadFrames. Conditions: none. -/
import Derived.Test.YtdldekkojjfllaaDoorJ3
import Derived.Test.YtdldekkojjfllaaDoorJW
import Derived.Test.YtdldekkojjfllaaDoorV2
import Derived.Test.YtdldekkojjfllaaDoorV1
namespace Go.Proofs.YtdldekkojjfllaaDoor.Am
open Go Go.Proofs Go.RowKit
set_option linter.unusedVariables false
set_option linter.unusedSimpArgs false
set_option maxRecDepth 100000
set_option maxHeartbeats 8000000
theorem l1InE (n lo hi : Int) (h : Heap) : ACalls Tryd.prog dE 35 #[.int .i64 n, .int .i64 lo, .int .i64 hi] h fun v h' => v = .bool (decide (lo ≤ n ∧ n ≤ hi)) ∧ h' = h := upPE (l1In_ok n lo hi h)
structure Store where
  room : Int
  sure : ByteArray
  later : ByteArray
deriving DecidableEq
def Store.cells (x : Store) : List Value := [.int .i64 x.room, .string x.sure, .string x.later]
def Store.zero : Store := ⟨0, ByteArray.empty, ByteArray.empty⟩
theorem Store.cells_length (x : Store) : x.cells.length = 3 := rfl
theorem Store.cells_flat (x : Store) : x.cells.all flat = true := rfl
theorem Store.cells_take (x : Store) : x.cells.take 3 = x.cells := rfl
theorem Store.cells_splice (x : Store) (q0 q1 q2 : Value) : splice [q0, q1, q2] 0 x.cells = x.cells := rfl
theorem Store.cells_splice2 (x y : Store) : splice x.cells 0 y.cells = y.cells := rfl
theorem Store.get0 (x : Store) : x.cells[0]? = some (.int .i64 x.room) := rfl
theorem Store.get1 (x : Store) : x.cells[1]? = some (.string x.sure) := rfl
theorem Store.get2 (x : Store) : x.cells[2]? = some (.string x.later) := rfl
theorem Store.af (x : Store) : Am.af (.agg x.cells.toArray) = true := by simp [Am.af, af1, Store.cells]
theorem Store.plain (x : Store) : x.cells.length = 3 ∧ ∀ u ∈ x.cells, Am.af u = true ∧ flat u = true := by
  refine ⟨rfl, fun u hu => ?_⟩
  simp only [Store.cells, List.mem_cons, Z38, or_false] at hu
  rcases hu with rfl | rfl | rfl <;> exact ⟨rfl, rfl⟩
theorem Store.rv (n : Nat) (L : Heap) (ks : List Nat) (x : Store) : RV n L ks (.agg x.cells.toArray) (.agg x.cells.toArray) :=
  RVl.agg (l := x.cells) (l' := x.cells) ⟨.plain _ rfl, .plain _ rfl, .plain _ rfl, trivial⟩
theorem Store.fields (a b : Store) : ∃ fs, Program.underlying Tryd.prog 35 = some (.struct fs) ∧ pureRun Tryd.prog (Op.eqFields (9998 + 1) a.cells.toArray b.cells.toArray fs.toList) =
    some ((a.room == b.room) && (decide (a.sure = b.sure) && (decide (a.later = b.later) && true))) := by
  have i3 : pureRun Tryd.prog (isAgg 3) = some false := by kernel_rfl
  have i5 : pureRun Tryd.prog (isAgg 9) = some false := by kernel_rfl
  refine ⟨_, Tryd.underlying35, ?_⟩
  refine pr_field (by decide) (pr_part i3 _ _ rfl) (pr_part i3 _ _ rfl) (pr_int Tryd.underlying3 _ _ _) ?_
  refine pr_field (by decide) (pr_part i5 _ _ rfl) (pr_part i5 _ _ rfl) (pr_str Tryd.underlying9 _ _ _) ?_
  refine pr_field (by decide) (pr_part i5 _ _ rfl) (pr_part i5 _ _ rfl) (pr_str Tryd.underlying9 _ _ _) ?_
  rfl
theorem Store.beq (a b : Store) : ((a.room == b.room) && (decide (a.sure = b.sure) && (decide (a.later = b.later) && true))) = decide (a = b) := by
  rw [Bool.eq_iff_iff]
  obtain ⟨a0, a1, a2⟩ := a
  obtain ⟨b0, b1, b2⟩ := b
  simp
theorem Store.cmp (a b : Store) (xo yo : Operand) : binV Tryd.prog .eql 35 xo yo (.agg a.cells.toArray) (.agg b.cells.toArray) = some (.bool (decide (a = b))) ∧
    binV Tryd.prog .neq 35 xo yo (.agg a.cells.toArray) (.agg b.cells.toArray) = some (.bool (!decide (a = b))) := by
  obtain ⟨fs, hu, hf⟩ := Store.fields a b
  rw [Store.beq] at hf
  exact agg_cmp hu (by kernel_rfl) (by kernel_rfl) (by simp [Store.cells, af1]) hf
theorem Store.eql (a b : Store) (xo yo : Operand) : binV Tryd.prog .eql 35 xo yo (.agg a.cells.toArray) (.agg b.cells.toArray) = some (.bool (decide (a = b))) := (Store.cmp a b xo yo).1
theorem Store.neq (a b : Store) (xo yo : Operand) : binV Tryd.prog .neq 35 xo yo (.agg a.cells.toArray) (.agg b.cells.toArray) = some (.bool (!decide (a = b))) := (Store.cmp a b xo yo).2
def Store.wf (x : Store) : Prop := (Lit.int .i64 x.room).wf = true
theorem open_Store {H : Type} {enc : TypeId × Value → H} {W : World} {base : Nat} {v : Value} {d : DataW H} {ps : List MemPlace} {spare : Nat → Bool}
    (hval : Value.okWide Tryd.prog W .any base 33 v) (ht : DataW.Trod enc Tryd.prog W 0 spare true 33 v d ps) : ∃ x : Store, v = .agg x.cells.toArray ∧ x.wf ∧ x.sure.size ≤ maxLen ∧ x.later.size ≤ maxLen := by
  obtain ⟨cs, rfl, hl, n, hf⟩ := open_parts Tryd.underlying33 hval ht
  rw [show Tryd.prog.cellsOf 33 = 3 by kernel_rfl] at hl
  obtain ⟨x0, x1, x2, rfl⟩ := len3 hl
  obtain ⟨a0, e0, w0⟩ := part_int Tryd.underlying3 (by kernel_rfl) (hf 0 _ rfl)
  obtain rfl := Option.some.inj e0
  obtain ⟨a1, e1, w1⟩ := part_str Tryd.underlying9 (by kernel_rfl) (hf 1 _ rfl)
  obtain rfl := Option.some.inj e1
  obtain ⟨a2, e2, w2⟩ := part_str Tryd.underlying9 (by kernel_rfl) (hf 2 _ rfl)
  obtain rfl := Option.some.inj e2
  exact ⟨⟨a0, a1, a2⟩, rfl, w0, w1, w2⟩
def storeOk (s : Store) : Bool := decide (0 ≤ s.room ∧ s.room ≤ 4000) && decide ((s.sure.size : Int) + s.later.size ≤ s.room)
def Store.small (s : Store) : Prop := s.sure.size ≤ 1048576 ∧ s.later.size ≤ 1048576
theorem isRoom_ok (n : Int) (h : Heap) : ACalls Tryd.prog dE 45 #[.int .i64 n] h fun v h' => v = .bool (decide (0 ≤ n ∧ n ≤ 4000)) ∧ h' = h := by
  refine Z36 Tryd.func45 rfl Tryd.ntmps45 (by simp) (by dsimp only [Tryd.f45]) ?_
  repeat' (first | refine wS ?_ | refine wD ?_ | refine wT ?_ | refine wL ?_ | refine wB ?_ | refine wC ?_ | refine cw_if (fun hb => ?_) (fun hb => ?_) | refine wR ?_ | (refine wK (K := ?_) ?_ ?_; rotate_left 1) | (with_reducible exact withinE _ _ _ _) | refine hkp ?_)
  exact ⟨rfl, rfl⟩
theorem isStore_ok (s : Store) (h : Heap) (hs : s.small) : ACalls Tryd.prog dE 31 #[.agg s.cells.toArray] h fun v h' => v = .bool (storeOk s) ∧ h' = h := by
  refine acalls_pure (.inl rfl) ?_
  obtain ⟨room, sure, later⟩ := s
  obtain ⟨h1, h2⟩ := hs
  simp only [Store.cells, storeOk] at *
  have hw : IntKind.i64.wrap ((sure.size : Int) + later.size) = sure.size + later.size := wrap_id (by omega)
  refine Z36 Tryd.func31 rfl Tryd.ntmps31 (by simp) (by dsimp only [Tryd.f31]) ?_
  repeat' (first | refine wS ?_ | refine wD ?_ | refine wT ?_ | refine wL ?_ | refine wB ?_ | refine wG ?_ | refine gw_if (fun hb => ?_) (fun hb => ?_) | refine wC ?_ | refine cw_if (fun hb => ?_) (fun hb => ?_) | refine wR ?_ | (refine wK (K := ?_) ?_ ?_; rotate_left 1) | (with_reducible exact isRoom_ok _ _) | refine hkp ?_)
  all_goals refine ⟨?_, _, rfl⟩
  all_goals first | (simp_all [oneOf]; done) | (simp_all [oneOf]; intros; omega)
theorem specGoodStore_ok (s : Store) (h : Heap) (hs : s.small) : ACalls Tryd.prog dE 29 #[.agg s.cells.toArray] h fun v h' => v = .bool (storeOk s) ∧ h' = h := by
  refine acalls_pure (.inl rfl) ?_
  obtain ⟨room, sure, later⟩ := s
  obtain ⟨h1, h2⟩ := hs
  simp only [Store.cells, storeOk] at *
  have hw : 0 ≤ room → room ≤ 4000 → IntKind.i64.wrap (room - (sure.size : Int)) = room - sure.size := fun q1 q2 => wrap_id (by omega)
  refine Z36 Tryd.func29 rfl Tryd.ntmps29 (by simp) (by dsimp only [Tryd.f29]) ?_
  repeat' (first | refine wS ?_ | refine wD ?_ | refine wT ?_ | refine wL ?_ | refine wB ?_ | refine wG ?_ | refine gw_if (fun hb => ?_) (fun hb => ?_) | refine wC ?_ | refine cw_if (fun hb => ?_) (fun hb => ?_) | refine wR ?_ | (refine wK (K := ?_) ?_ ?_; rotate_left 1) | (with_reducible exact l1InE _ _ _ _) | refine hkp ?_)
  all_goals refine ⟨?_, _, rfl⟩
  all_goals first | (simp_all [oneOf]; done) | (simp_all [oneOf]; omega) | (simp_all [oneOf]; intros; omega)
theorem toStore_ok (s : Store) (h : Heap) : ACalls Tryd.prog dE 15 #[.agg s.cells.toArray] h fun v h' => v = .agg s.cells.toArray ∧ h' = h := by
  refine acalls_pure (.inl s.af) ?_
  obtain ⟨room, sure, later⟩ := s
  simp only [Store.cells]
  refine Z36 Tryd.func15 rfl Tryd.ntmps15 (by simp) (by dsimp only [Tryd.f15]) ?_
  repeat' (first | refine wS ?_ | refine wD ?_ | refine wT ?_ | refine wL ?_ | refine wB ?_ | refine wC ?_ | refine cw_if (fun hb => ?_) (fun hb => ?_) | refine wRc ?_)
  exact ⟨rfl, _, rfl⟩
/-- What is left of a budget behind a store. -/
def szStoreM (s : Store) (left : Int) : Int := if left - s.sure.size < 0 then -1 else if left - s.sure.size - s.later.size < 0 then -1 else left - s.sure.size - s.later.size
theorem szStore_ok (s : Store) (left : Int) (h : Heap) (hs : (s.sure.size : Int) ≤ 9223372036854775807 ∧ (s.later.size : Int) ≤ 9223372036854775807) (h0 : 0 ≤ left ∧ left ≤ 1048576) :
    ACalls Tryd.prog dE 13 #[.agg s.cells.toArray, .int .i64 left] h fun v h' => v = .int .i64 (szStoreM s left) ∧ h' = h := by
  refine acalls_pure (.inl rfl) ?_
  obtain ⟨room, sure, later⟩ := s
  simp only [Store.cells, szStoreM] at *
  have hw1 : IntKind.i64.wrap (left - (sure.size : Int)) = left - sure.size := wrap_id (by omega)
  have hw2 : 0 ≤ left - (sure.size : Int) → IntKind.i64.wrap (left - (sure.size : Int) - later.size) = left - sure.size - later.size := fun q => wrap_id (by omega)
  by_cases q1 : left - (sure.size : Int) < 0
  · refine Z36 Tryd.func13 rfl Tryd.ntmps13 (by simp) (by dsimp only [Tryd.f13]) ?_
    repeat' (first | refine wS ?_ | refine wD ?_ | refine wT ?_ | refine wL ?_ | refine wB ?_ | refine wC ?_ | refine cw_if (fun hb => ?_) (fun hb => ?_) | refine wR ?_)
    exact ⟨by simp [oneOf, q1], _, rfl⟩
  · have hw3 := hw2 (by omega)
    clear hw2
    by_cases q2 : left - (sure.size : Int) - later.size < 0
    · refine Z36 Tryd.func13 rfl Tryd.ntmps13 (by simp) (by dsimp only [Tryd.f13]) ?_
      repeat' (first | refine wS ?_ | refine wD ?_ | refine wT ?_ | refine wL ?_ | refine wB ?_ | refine wC ?_ | refine cw_if (fun hb => ?_) (fun hb => ?_) | refine wR ?_)
      exact ⟨by simp [oneOf, q1, q2], _, rfl⟩
    · refine Z36 Tryd.func13 rfl Tryd.ntmps13 (by simp) (by dsimp only [Tryd.f13]) ?_
      repeat' (first | refine wS ?_ | refine wD ?_ | refine wT ?_ | refine wL ?_ | refine wB ?_ | refine wC ?_ | refine cw_if (fun hb => ?_) (fun hb => ?_) | refine wR ?_)
      exact ⟨by simp [oneOf, q1, q2], _, rfl⟩
theorem szStore_small {s : Store} (h : ¬ szStoreM s 1048576 < 0) : s.small := by
  unfold szStoreM at h
  split at h
  · omega
  · split at h
    · omega
    · constructor <;> omega
theorem eqStore_ok (a b : Store) (h : Heap) : ACalls Tryd.prog dE 17 #[.agg a.cells.toArray, .agg b.cells.toArray] h fun v h' => v = .bool (decide (a = b)) ∧ h' = h := by
  refine acalls_pure (.inl rfl) ?_
  obtain ⟨a1, a2, a3⟩ := a
  obtain ⟨b1, b2, b3⟩ := b
  simp only [Store.cells]
  refine Z36 Tryd.func17 rfl Tryd.ntmps17 (by simp) (by dsimp only [Tryd.f17]) ?_
  repeat' (first | refine wS ?_ | refine wD ?_ | refine wT ?_ | refine wL ?_ | refine wB ?_ | refine wC ?_ | refine cw_if (fun hb => ?_) (fun hb => ?_) | refine wR ?_)
  all_goals refine ⟨?_, _, rfl⟩
  all_goals simp_all [oneOf]
theorem storeOk_sz {s : Store} (h : storeOk s = true) : s.sure.size + s.later.size ≤ 4000 := by
  simp only [storeOk, Bool.and_eq_true, decide_eq_true_eq] at h
  omega
end Go.Proofs.YtdldekkojjfllaaDoor.Am
namespace Go.Proofs.YtdldekkojjfllaaDoor.Am
open Go Go.Proofs Go.RowKit
set_option linter.unusedVariables false
set_option linter.unusedSimpArgs false
set_option maxRecDepth 100000
set_option maxHeartbeats 8000000
theorem l17FrameE (r : Nat) (s : ByteArray) (h : Heap) (hr : r ≤ 99) (hs : s.size ≤ 60) : ACalls Tryd.prog dE 44 #[.int .i64 (r : Nat), .string s] h fun v h' => v = .string (frameT r s) ∧ h' = h := upPE (l17Frame_ok r s h hr hs)
theorem frameT_size (r : Nat) (s : ByteArray) : (frameT r s).size = s.size + 8 := by
  rw [frameT, ByteArray.size_append, headT_size, S_size, digL_len]
theorem Store.set2 (s : Store) (x : ByteArray) : s.cells.set 2 (.string x) = (⟨s.room, s.sure, x⟩ : Store).cells := rfl
theorem cV_slice (len : Nat) : ∃ b : Nat → Option Addr, ∀ n, cV n len = .slice (b n) len len := by
  by_cases h : len = 0
  · exact ⟨fun _ => none, fun n => by unfold cV; rw [if_pos h, h]⟩
  · exact ⟨fun n => some ⟨n, 0, some 0⟩, fun n => by unfold cV; rw [if_neg h]⟩
/-- What is put, and how it ends. -/
def putC (s : Store) (t : ByteArray) : Int :=
  if 60 < t.size then 1 else if (rdF (s.sure ++ s.later) 99 0 []).2 < s.sure.size + s.later.size then 2
  else if (rdF (s.sure ++ s.later) 99 0 []).1.length = 99 then 3 else if s.room < ((rdF (s.sure ++ s.later) 99 0 []).2 : Int) + 8 + t.size then 4 else 0
def putS (s : Store) (t : ByteArray) : Store :=
  if 60 < t.size then s else if (rdF (s.sure ++ s.later) 99 0 []).2 < s.sure.size + s.later.size then s
  else if (rdF (s.sure ++ s.later) 99 0 []).1.length = 99 then s else if s.room < ((rdF (s.sure ++ s.later) 99 0 []).2 : Int) + 8 + t.size then s
  else ⟨s.room, s.sure, s.later ++ frameT ((rdF (s.sure ++ s.later) 99 0 []).1.length + 1) t⟩
theorem putFrame_ok (s : Store) (t : ByteArray) (h : Heap) (hk : storeOk s = true) (ht : t.size ≤ 1048576) : ACalls Tryd.prog dE 32 #[.agg s.cells.toArray, .string t] h fun v h' => v = .tuple #[.agg (putS s t).cells.toArray, .int .i64 (putC s t)] ∧ h' = h := by
  refine acalls_pure (.inr ⟨_, rfl, by simp [af, af1, Store.cells]⟩) ?_
  have hz := storeOk_sz hk
  have hadd : ∀ xo yo, binV Tryd.prog .add 9 xo yo (.string s.sure) (.string s.later) = some (.string (s.sure ++ s.later)) := fun xo yo => binV_str_add _ _ _ _ _ (by omega)
  have hus : (s.sure ++ s.later).size = s.sure.size + s.later.size := ByteArray.size_append
  have hrl := rdF_len (s.sure ++ s.later) 99 0 [] (Nat.zero_le _)
  have hroom : s.room ≤ 4000 := by
    simp only [storeOk, Bool.and_eq_true, decide_eq_true_eq] at hk
    omega
  simp only [putS, putC]
  generalize hR : rdF (s.sure ++ s.later) 99 0 [] = R at hrl ⊢
  obtain ⟨l, p⟩ := R
  simp only [Z2, Zf] at hrl ⊢
  obtain ⟨hl99, hp⟩ := hrl
  obtain ⟨b, hcv⟩ := cV_slice l.length
  rw [hus] at hp
  have hu4 : (s.sure ++ s.later).size ≤ 1048576 := by omega
  generalize s.sure ++ s.later = u at *
  have hw1 : IntKind.i64.wrap ((s.sure.size : Int) + s.later.size) = ((s.sure.size + s.later.size : Nat) : Int) := by rw [wrap_id (by omega)]; omega
  by_cases c1 : 60 < t.size
  · have c1' : (60 : Int) < (t.size : Int) := by omega
    simp only [if_pos c1]
    clear c1
    refine Z36 Tryd.func32 rfl Tryd.ntmps32 (by simp) (by dsimp only [Tryd.f32]) ?_
    have zq0 := @Store.cells_length
    have zq1 := @Store.cells_flat
    have zq2 := @Store.cells_take
    have zq3 := @Store.cells_splice
    have zq4 := @Store.get0
    have zq5 := @Store.get1
    have zq6 := @Store.get2
    have zq7 := @Store.set2
    have zq8 := @frV.eq_1
    have zq9 := @frL.eq_1
    repeat' (first | refine wS ?_ | refine wD ?_ | refine wT ?_ | refine wL ?_ | refine wB ?_ | refine wC ?_ | refine cw_if (fun hb => ?_) (fun hb => ?_) | refine wRc ?_ | (refine wK (K := ?_) ?_ ?_; rotate_left 1) | ((with_reducible refine readFrames_ok _ _ ?_); (· exact pO)) | ((with_reducible refine frameOfE _ _ _ ?_ ?_); (· exact pO); (· exact pO)) | refine hkp ?_)
    exact ⟨rfl, _, rfl⟩
  have c1' : ¬ (60 : Int) < (t.size : Int) := by omega
  have ht60 : t.size ≤ 60 := by omega
  simp only [if_neg c1]
  clear c1
  by_cases c2 : p < s.sure.size + s.later.size
  · have c2' : (p : Int) < ((s.sure.size + s.later.size : Nat) : Int) := by omega
    simp only [if_pos c2]
    clear c2
    refine Z36 Tryd.func32 rfl Tryd.ntmps32 (by simp) (by dsimp only [Tryd.f32]) ?_
    have zq0 := @Store.cells_length
    have zq1 := @Store.cells_flat
    have zq2 := @Store.cells_take
    have zq3 := @Store.cells_splice
    have zq4 := @Store.get0
    have zq5 := @Store.get1
    have zq6 := @Store.get2
    have zq7 := @Store.set2
    have zq8 := @frV.eq_1
    have zq9 := @frL.eq_1
    repeat' (first | refine wS ?_ | refine wD ?_ | refine wT ?_ | refine wL ?_ | refine wB ?_ | refine wC ?_ | refine cw_if (fun hb => ?_) (fun hb => ?_) | refine wRc ?_ | (refine wK (K := ?_) ?_ ?_; rotate_left 1) | ((with_reducible refine readFrames_ok _ _ ?_); (· exact pO)) | ((with_reducible refine frameOfE _ _ _ ?_ ?_); (· exact pO); (· exact pO)) | refine hkp ?_)
    exact ⟨rfl, _, rfl⟩
  have c2' : ¬ (p : Int) < ((s.sure.size + s.later.size : Nat) : Int) := by omega
  simp only [if_neg c2]
  clear c2
  by_cases c3 : l.length = 99
  · have c3'' : (99 : Int) ≤ (l.length : Int) := by omega
    simp only [if_pos c3]
    clear c3
    refine Z36 Tryd.func32 rfl Tryd.ntmps32 (by simp) (by dsimp only [Tryd.f32]) ?_
    have zq0 := @Store.cells_length
    have zq1 := @Store.cells_flat
    have zq2 := @Store.cells_take
    have zq3 := @Store.cells_splice
    have zq4 := @Store.get0
    have zq5 := @Store.get1
    have zq6 := @Store.get2
    have zq7 := @Store.set2
    have zq8 := @frV.eq_1
    have zq9 := @frL.eq_1
    repeat' (first | refine wS ?_ | refine wD ?_ | refine wT ?_ | refine wL ?_ | refine wB ?_ | refine wC ?_ | refine cw_if (fun hb => ?_) (fun hb => ?_) | refine wRc ?_ | (refine wK (K := ?_) ?_ ?_; rotate_left 1) | ((with_reducible refine readFrames_ok _ _ ?_); (· exact pO)) | ((with_reducible refine frameOfE _ _ _ ?_ ?_); (· exact pO); (· exact pO)) | refine hkp ?_)
    exact ⟨rfl, _, rfl⟩
  have c3' : ¬ (l.length : Int) = 99 := by omega
  have c3'' : ¬ (99 : Int) ≤ (l.length : Int) := by omega
  have hl98 : l.length + 1 ≤ 99 := by omega
  simp only [if_neg c3]
  clear c3
  have hw2 : IntKind.i64.wrap ((l.length : Int) + 1) = ((l.length + 1 : Nat) : Int) := by rw [wrap_id (by omega)]; omega
  have hfs := frameT_size (l.length + 1) t
  have hadd2 : ∀ xo yo, binV Tryd.prog .add 9 xo yo (.string s.later) (.string (frameT (l.length + 1) t)) = some (.string (s.later ++ frameT (l.length + 1) t)) := fun xo yo => binV_str_add _ _ _ _ _ (by omega)
  have hw3 : IntKind.i64.wrap ((p : Int) + ((t.size + 8 : Nat) : Int)) = ((p + (t.size + 8) : Nat) : Int) := by rw [wrap_id (by omega)]; omega
  by_cases c4 : s.room < (p : Int) + 8 + t.size
  · have c4' : s.room < ((p + (t.size + 8) : Nat) : Int) := by omega
    simp only [if_pos c4]
    clear c4
    refine Z36 Tryd.func32 rfl Tryd.ntmps32 (by simp) (by dsimp only [Tryd.f32]) ?_
    have zq0 := @Store.cells_length
    have zq1 := @Store.cells_flat
    have zq2 := @Store.cells_take
    have zq3 := @Store.cells_splice
    have zq4 := @Store.get0
    have zq5 := @Store.get1
    have zq6 := @Store.get2
    have zq7 := @Store.set2
    have zq8 := @frV.eq_1
    have zq9 := @frL.eq_1
    repeat' (first | refine wS ?_ | refine wD ?_ | refine wT ?_ | refine wL ?_ | refine wB ?_ | refine wC ?_ | refine cw_if (fun hb => ?_) (fun hb => ?_) | refine wRc ?_ | (refine wK (K := ?_) ?_ ?_; rotate_left 1) | ((with_reducible refine readFrames_ok _ _ ?_); (· exact pO)) | ((with_reducible refine frameOfE _ _ _ ?_ ?_); (· exact pO); (· exact pO)) | refine hkp ?_)
    all_goals exact ⟨rfl, _, rfl⟩
  · have c4' : ¬ s.room < ((p + (t.size + 8) : Nat) : Int) := by omega
    simp only [if_neg c4]
    clear c4
    refine Z36 Tryd.func32 rfl Tryd.ntmps32 (by simp) (by dsimp only [Tryd.f32]) ?_
    have zq0 := @Store.cells_length
    have zq1 := @Store.cells_flat
    have zq2 := @Store.cells_take
    have zq3 := @Store.cells_splice
    have zq4 := @Store.get0
    have zq5 := @Store.get1
    have zq6 := @Store.get2
    have zq7 := @Store.set2
    have zq8 := @frV.eq_1
    have zq9 := @frL.eq_1
    repeat' (first | refine wS ?_ | refine wD ?_ | refine wT ?_ | refine wL ?_ | refine wB ?_ | refine wC ?_ | refine cw_if (fun hb => ?_) (fun hb => ?_) | refine wRc ?_ | (refine wK (K := ?_) ?_ ?_; rotate_left 1) | ((with_reducible refine readFrames_ok _ _ ?_); (· exact pO)) | ((with_reducible refine frameOfE _ _ _ ?_ ?_); (· exact pO); (· exact pO)) | refine hkp ?_)
    all_goals exact ⟨rfl, _, rfl⟩
theorem l17Put_ok (s : Store) (t : ByteArray) (h : Heap) (hk : storeOk s = true) (ht : t.size ≤ 1048576) : ACalls Tryd.prog dE 30 #[.agg s.cells.toArray, .string t] h fun v h' => v = .tuple #[.agg (putS s t).cells.toArray, .int .i64 (putC s t)] ∧ h' = h := by
  refine acalls_pure (.inr ⟨_, rfl, by simp [af, af1, Store.cells]⟩) ?_
  have hz := storeOk_sz hk
  have hadd : ∀ xo yo, binV Tryd.prog .add 9 xo yo (.string s.sure) (.string s.later) = some (.string (s.sure ++ s.later)) := fun xo yo => binV_str_add _ _ _ _ _ (by omega)
  have hus : (s.sure ++ s.later).size = s.sure.size + s.later.size := ByteArray.size_append
  have hrl := rdF_len (s.sure ++ s.later) 99 0 [] (Nat.zero_le _)
  have hroom : s.room ≤ 4000 := by
    simp only [storeOk, Bool.and_eq_true, decide_eq_true_eq] at hk
    omega
  simp only [putS, putC]
  generalize hR : rdF (s.sure ++ s.later) 99 0 [] = R at hrl ⊢
  obtain ⟨l, p⟩ := R
  simp only [Z2, Zf] at hrl ⊢
  obtain ⟨hl99, hp⟩ := hrl
  obtain ⟨b, hcv⟩ := cV_slice l.length
  rw [hus] at hp
  have hu4 : (s.sure ++ s.later).size ≤ 1048576 := by omega
  generalize s.sure ++ s.later = u at *
  have hw1 : IntKind.i64.wrap ((s.sure.size : Int) + s.later.size) = ((s.sure.size + s.later.size : Nat) : Int) := by rw [wrap_id (by omega)]; omega
  by_cases c1 : 60 < t.size
  · have c1' : (60 : Int) < (t.size : Int) := by omega
    simp only [if_pos c1]
    clear c1
    refine Z36 Tryd.func30 rfl Tryd.ntmps30 (by simp) (by dsimp only [Tryd.f30]) ?_
    have zq0 := @Store.cells_length
    have zq1 := @Store.cells_flat
    have zq2 := @Store.cells_take
    have zq3 := @Store.cells_splice
    have zq4 := @Store.get0
    have zq5 := @Store.get1
    have zq6 := @Store.get2
    have zq7 := @Store.set2
    have zq8 := @frV.eq_1
    have zq9 := @frL.eq_1
    repeat' (first | refine wS ?_ | refine wD ?_ | refine wT ?_ | refine wL ?_ | refine wB ?_ | refine wC ?_ | refine cw_if (fun hb => ?_) (fun hb => ?_) | refine wRc ?_ | refine wV (ms := [0, 1, 0, 4, 12, 0, 60, 127, 255, 511]) ?_ | refine wX ?_ | (refine wK (K := ?_) ?_ ?_; rotate_left 1) | (refine wM (v := ?_) ?_ ?_; rotate_left 1) | (refine wO (v := ?_) (L := ?_) ?_ ?_; rotate_left 2) | ((with_reducible refine l17ReadE _ _ ?_); (· exact pO)) | ((with_reducible refine l17FrameE _ _ _ ?_ ?_); (· exact pO); (· exact pO)) | refine hkp ?_)
    exact ⟨rfl, _, rfl⟩
  have c1' : ¬ (60 : Int) < (t.size : Int) := by omega
  have ht60 : t.size ≤ 60 := by omega
  simp only [if_neg c1]
  clear c1
  by_cases c2 : p < s.sure.size + s.later.size
  · have c2' : (p : Int) < ((s.sure.size + s.later.size : Nat) : Int) := by omega
    simp only [if_pos c2]
    clear c2
    refine Z36 Tryd.func30 rfl Tryd.ntmps30 (by simp) (by dsimp only [Tryd.f30]) ?_
    have zq0 := @Store.cells_length
    have zq1 := @Store.cells_flat
    have zq2 := @Store.cells_take
    have zq3 := @Store.cells_splice
    have zq4 := @Store.get0
    have zq5 := @Store.get1
    have zq6 := @Store.get2
    have zq7 := @Store.set2
    have zq8 := @frV.eq_1
    have zq9 := @frL.eq_1
    repeat' (first | refine wS ?_ | refine wD ?_ | refine wT ?_ | refine wL ?_ | refine wB ?_ | refine wC ?_ | refine cw_if (fun hb => ?_) (fun hb => ?_) | refine wRc ?_ | refine wV (ms := [0, 1, 0, 4, 12, 0, 60, 127, 255, 511]) ?_ | refine wX ?_ | (refine wK (K := ?_) ?_ ?_; rotate_left 1) | (refine wM (v := ?_) ?_ ?_; rotate_left 1) | (refine wO (v := ?_) (L := ?_) ?_ ?_; rotate_left 2) | ((with_reducible refine l17ReadE _ _ ?_); (· exact pO)) | ((with_reducible refine l17FrameE _ _ _ ?_ ?_); (· exact pO); (· exact pO)) | refine hkp ?_)
    exact ⟨rfl, _, rfl⟩
  have c2' : ¬ (p : Int) < ((s.sure.size + s.later.size : Nat) : Int) := by omega
  simp only [if_neg c2]
  clear c2
  by_cases c3 : l.length = 99
  · have c3' : (l.length : Int) = 99 := by omega
    simp only [if_pos c3]
    clear c3
    refine Z36 Tryd.func30 rfl Tryd.ntmps30 (by simp) (by dsimp only [Tryd.f30]) ?_
    have zq0 := @Store.cells_length
    have zq1 := @Store.cells_flat
    have zq2 := @Store.cells_take
    have zq3 := @Store.cells_splice
    have zq4 := @Store.get0
    have zq5 := @Store.get1
    have zq6 := @Store.get2
    have zq7 := @Store.set2
    have zq8 := @frV.eq_1
    have zq9 := @frL.eq_1
    repeat' (first | refine wS ?_ | refine wD ?_ | refine wT ?_ | refine wL ?_ | refine wB ?_ | refine wC ?_ | refine cw_if (fun hb => ?_) (fun hb => ?_) | refine wRc ?_ | refine wV (ms := [0, 1, 0, 4, 12, 0, 60, 127, 255, 511]) ?_ | refine wX ?_ | (refine wK (K := ?_) ?_ ?_; rotate_left 1) | (refine wM (v := ?_) ?_ ?_; rotate_left 1) | (refine wO (v := ?_) (L := ?_) ?_ ?_; rotate_left 2) | ((with_reducible refine l17ReadE _ _ ?_); (· exact pO)) | ((with_reducible refine l17FrameE _ _ _ ?_ ?_); (· exact pO); (· exact pO)) | refine hkp ?_)
    exact ⟨rfl, _, rfl⟩
  have c3' : ¬ (l.length : Int) = 99 := by omega
  have c3'' : ¬ (99 : Int) ≤ (l.length : Int) := by omega
  have hl98 : l.length + 1 ≤ 99 := by omega
  simp only [if_neg c3]
  clear c3
  have hw2 : IntKind.i64.wrap ((l.length : Int) + 1) = ((l.length + 1 : Nat) : Int) := by rw [wrap_id (by omega)]; omega
  have hfs := frameT_size (l.length + 1) t
  have hadd2 : ∀ xo yo, binV Tryd.prog .add 9 xo yo (.string s.later) (.string (frameT (l.length + 1) t)) = some (.string (s.later ++ frameT (l.length + 1) t)) := fun xo yo => binV_str_add _ _ _ _ _ (by omega)
  have hw3 : IntKind.i64.wrap ((p : Int) + 8) = ((p + 8 : Nat) : Int) := by rw [wrap_id (by omega)]; omega
  have hw4 : IntKind.i64.wrap (((p + 8 : Nat) : Int) + (t.size : Nat)) = ((p + 8 + t.size : Nat) : Int) := by rw [wrap_id (by omega)]; omega
  by_cases c4 : s.room < (p : Int) + 8 + t.size
  · have c4' : s.room < ((p + (8 + t.size) : Nat) : Int) := by omega
    simp only [if_pos c4]
    clear c4
    refine Z36 Tryd.func30 rfl Tryd.ntmps30 (by simp) (by dsimp only [Tryd.f30]) ?_
    have zq0 := @Store.cells_length
    have zq1 := @Store.cells_flat
    have zq2 := @Store.cells_take
    have zq3 := @Store.cells_splice
    have zq4 := @Store.get0
    have zq5 := @Store.get1
    have zq6 := @Store.get2
    have zq7 := @Store.set2
    have zq8 := @frV.eq_1
    have zq9 := @frL.eq_1
    repeat' (first | refine wS ?_ | refine wD ?_ | refine wT ?_ | refine wL ?_ | refine wB ?_ | refine wC ?_ | refine cw_if (fun hb => ?_) (fun hb => ?_) | refine wRc ?_ | refine wV (ms := [0, 1, 0, 4, 12, 0, 60, 127, 255, 511]) ?_ | refine wX ?_ | (refine wK (K := ?_) ?_ ?_; rotate_left 1) | (refine wM (v := ?_) ?_ ?_; rotate_left 1) | (refine wO (v := ?_) (L := ?_) ?_ ?_; rotate_left 2) | ((with_reducible refine l17ReadE _ _ ?_); (· exact pO)) | ((with_reducible refine l17FrameE _ _ _ ?_ ?_); (· exact pO); (· exact pO)) | refine hkp ?_)
    all_goals exact ⟨rfl, _, rfl⟩
  · have c4' : ¬ s.room < ((p + (8 + t.size) : Nat) : Int) := by omega
    simp only [if_neg c4]
    clear c4
    refine Z36 Tryd.func30 rfl Tryd.ntmps30 (by simp) (by dsimp only [Tryd.f30]) ?_
    have zq0 := @Store.cells_length
    have zq1 := @Store.cells_flat
    have zq2 := @Store.cells_take
    have zq3 := @Store.cells_splice
    have zq4 := @Store.get0
    have zq5 := @Store.get1
    have zq6 := @Store.get2
    have zq7 := @Store.set2
    have zq8 := @frV.eq_1
    have zq9 := @frL.eq_1
    repeat' (first | refine wS ?_ | refine wD ?_ | refine wT ?_ | refine wL ?_ | refine wB ?_ | refine wC ?_ | refine cw_if (fun hb => ?_) (fun hb => ?_) | refine wRc ?_ | refine xe_reg (ms := [0, 1, 0, 4, 12, 0, 60, 127, 255, 511]) Ty.mx (by decide +kernel) (by decide +kernel) [[],[],[],[],[],[],[],[],[],[h.length]] ?_ | refine wX ?_ | (refine wK (K := ?_) ?_ ?_; rotate_left 1) | (refine wM (v := ?_) ?_ ?_; rotate_left 1) | (refine wO (v := ?_) (L := ?_) ?_ ?_; rotate_left 2) | exact eqA | (refine xe_alloc (z := ?_) ?_ ?_ (by exact rfl) ?_; rotate_left 1; (· first | exact Ty.zc3 | exact Ty.zc9 | exact Ty.zc35 | exact Ty.zc74); (· decide)) | (refine xe_do (v := ?_) (ids := []) (by exact rfl) (by decide +kernel) (by exact rfl) (by exact rfl) ?_ ?_; rotate_left 1) | (refine xe_st (v := ?_) (a := ?_) (h' := ?_) (ids := []) (by decide +kernel) (by exact rfl) ?_ ?_ ?_ ?_ ?_; rotate_left 3; (· exact eqA); (· exact rfl); (· simp)) | (refine xe_pure (ids := []) (f := ?_) (fs := ?_) (cs := ?_) (args := ?_) (v := ?_) ?_ ?_ ?_ (by decide +kernel) (by exact rfl) (by exact rfl) ?_ ?_; rotate_left 5; (· simp only [ev]; rfl); (· first | with_reducible exact Ty.ok44); (· exact eqA); (· first | ((with_reducible refine l17FrameE _ _ _ ?_ ?_); (· omega); (· omega)))) | (refine xe_cl (f := ?_) (fs := ?_) (cs := ?_) (args := ?_) (v := ?_) (ids := []) (L := ?_) (a := true) ?_ ?_ ?_ (by decide +kernel) (by exact rfl) (by exact rfl) (fun q => by cases q) ?_ ?_; rotate_left 6; (· simp only [ev]; rfl); (· first | with_reducible exact Ty.ok43); (· exact eqA); (· simp only [Z2c]; (first | ((with_reducible refine l17ReadE _ _ ?_); (· omega))))) | ((with_reducible refine l17ReadE _ _ ?_); (· exact pO)) | ((with_reducible refine l17FrameE _ _ _ ?_ ?_); (· exact pO); (· exact pO)) | refine hkp ?_)
    all_goals exact ⟨rfl, _, rfl⟩
/-- What PutFrame gives. -/
def pfV (s : Store) (t : ByteArray) : Value := if storeOk s = true then .tuple #[.agg (putS s t).cells.toArray, .int .i64 (putC s t), .bool true] else .tuple #[.agg Store.zero.cells.toArray, .int .i64 0, .bool false]
theorem pfV_af (s : Store) (t : ByteArray) : ∃ vs : Array Value, pfV s t = .tuple vs ∧ ∀ v, v ∈ vs → af v = true := by
  unfold pfV; split <;> exact ⟨_, rfl, by simp [af, af1, Store.cells, Store.zero]⟩
theorem implPutFrame_ok (s : Store) (t : ByteArray) (h : Heap) (ht : t.size ≤ 1048576) (hs : s.small) : ACalls Tryd.prog dE 16 #[.agg s.cells.toArray, .string t] h fun v h' => v = pfV s t ∧ h' = h := by
  refine acalls_pure (.inr (pfV_af s t)) ?_
  have hsm := hs
  cases hk : storeOk s
  all_goals
    simp only [pfV, hk, Bool.false_eq_true, if_false, Z2x]
    refine Z36 Tryd.func16 rfl Tryd.ntmps16 (by simp) (by dsimp only [Tryd.f16]) ?_
  all_goals
    have zq0 := @Store.cells_length
    have zq1 := @Store.cells_flat
    have zq2 := @Store.cells_take
    have zq3 := @Store.cells_splice
    have zq4 := @Store.cells_splice2
    repeat' (first | refine wS ?_ | refine wD ?_ | refine wT ?_ | refine wL ?_ | refine wB ?_ | refine wC ?_ | refine cw_if (fun hb => ?_) (fun hb => ?_) | refine wRc ?_ | (refine wK (K := ?_) ?_ ?_; rotate_left 1) | ((with_reducible refine isStore_ok _ _ ?_); (· first | assumption | exact hsm)) | ((with_reducible refine putFrame_ok _ _ _ ?_ ?_); (· assumption); (· assumption)) | refine hkp ?_)
  all_goals exact ⟨rfl, _, rfl⟩
theorem specPutFrame_ok (s : Store) (t : ByteArray) (h : Heap) (ht : t.size ≤ 1048576) (hs : s.small) : ACalls Tryd.prog dE 14 #[.agg s.cells.toArray, .string t] h fun v h' => v = pfV s t ∧ h' = h := by
  refine acalls_pure (.inr (pfV_af s t)) ?_
  have hsm := hs
  cases hk : storeOk s
  all_goals
    simp only [pfV, hk, Bool.false_eq_true, if_false, Z2x]
    refine Z36 Tryd.func14 rfl Tryd.ntmps14 (by simp) (by dsimp only [Tryd.f14]) ?_
  all_goals
    have zq0 := @Store.cells_length
    have zq1 := @Store.cells_flat
    have zq2 := @Store.cells_take
    have zq3 := @Store.cells_splice
    have zq4 := @Store.cells_splice2
    repeat' (first | refine wS ?_ | refine wD ?_ | refine wT ?_ | refine wL ?_ | refine wB ?_ | refine wC ?_ | refine cw_if (fun hb => ?_) (fun hb => ?_) | refine wRc ?_ | (refine wK (K := ?_) ?_ ?_; rotate_left 1) | ((with_reducible refine specGoodStore_ok _ _ ?_); (· first | assumption | exact hsm)) | ((with_reducible refine l17Put_ok _ _ _ ?_ ?_); (· assumption); (· assumption)) | refine hkp ?_)
  all_goals exact ⟨rfl, _, rfl⟩
theorem lawPutFrame_ok (s : Store) (t : ByteArray) (h : Heap) (hs : (s.sure.size : Int) ≤ 9223372036854775807 ∧ (s.later.size : Int) ≤ 9223372036854775807) (ht : t.size ≤ 9223372036854775807) : ACalls Tryd.prog dE 4 #[.agg s.cells.toArray, .string t] h fun v _ => v = .bool true := by
  by_cases c : 1048576 < t.size
  · have c' : (1048576 : Int) < (t.size : Int) := by omega
    refine Z36 Tryd.func4 rfl Tryd.ntmps4 (by simp) (by dsimp only [Tryd.f4]) ?_
    have zq0 := @Store.cells_length
    have zq1 := @Store.cells_flat
    have zq2 := @Store.cells_take
    have zq3 := @Store.cells_splice
    repeat' (first | refine wS ?_ | refine wD ?_ | refine wT ?_ | refine wL ?_ | refine wB ?_ | refine wG ?_ | refine gw_if (fun hb => ?_) (fun hb => ?_) | refine wC ?_ | refine cw_if (fun hb => ?_) (fun hb => ?_) | refine wR ?_ | (refine wK (K := ?_) ?_ ?_; rotate_left 1) | ((with_reducible refine szStore_ok _ _ _ ?_ ?_); (· first | assumption | omega); (· exact pO)) | ((with_reducible refine specPutFrame_ok _ _ _ ?_ ?_); (· exact pO); (· first | assumption | exact hsm)) | (with_reducible exact toStore_ok _ _) | ((with_reducible refine implPutFrame_ok _ _ _ ?_ ?_); (· exact pO); (· first | assumption | exact hsm)) | (with_reducible exact eqStore_ok _ _ _) | refine hkp ?_)
    rfl
  have c' : ¬ (1048576 : Int) < (t.size : Int) := by omega
  by_cases hz : szStoreM s 1048576 < 0
  · refine Z36 Tryd.func4 rfl Tryd.ntmps4 (by simp) (by dsimp only [Tryd.f4]) ?_
    have zq0 := @Store.cells_length
    have zq1 := @Store.cells_flat
    have zq2 := @Store.cells_take
    have zq3 := @Store.cells_splice
    repeat' (first | refine wS ?_ | refine wD ?_ | refine wT ?_ | refine wL ?_ | refine wB ?_ | refine wG ?_ | refine gw_if (fun hb => ?_) (fun hb => ?_) | refine wC ?_ | refine cw_if (fun hb => ?_) (fun hb => ?_) | refine wR ?_ | (refine wK (K := ?_) ?_ ?_; rotate_left 1) | ((with_reducible refine szStore_ok _ _ _ ?_ ?_); (· first | assumption | omega); (· exact pO)) | ((with_reducible refine specPutFrame_ok _ _ _ ?_ ?_); (· exact pO); (· first | assumption | exact hsm)) | (with_reducible exact toStore_ok _ _) | ((with_reducible refine implPutFrame_ok _ _ _ ?_ ?_); (· exact pO); (· first | assumption | exact hsm)) | (with_reducible exact eqStore_ok _ _ _) | refine hkp ?_)
    rfl
  have hsm := szStore_small hz
  cases hk : storeOk s
  all_goals
    refine Z36 Tryd.func4 rfl Tryd.ntmps4 (by simp) (by dsimp only [Tryd.f4]) ?_
  all_goals
    have zq0 := @Store.cells_length
    have zq1 := @Store.cells_flat
    have zq2 := @Store.cells_take
    have zq3 := @Store.cells_splice
    have zq4 := @Store.cells_splice2
    have zq5 := @pfV.eq_1
    have zq6 := @Bool.false_eq_true
    repeat' (first | refine wS ?_ | refine wD ?_ | refine wT ?_ | refine wL ?_ | refine wB ?_ | refine wG ?_ | refine gw_if (fun hb => ?_) (fun hb => ?_) | refine wC ?_ | refine cw_if (fun hb => ?_) (fun hb => ?_) | refine wR ?_ | (refine wK (K := ?_) ?_ ?_; rotate_left 1) | ((with_reducible refine szStore_ok _ _ _ ?_ ?_); (· first | assumption | omega); (· exact pO)) | ((with_reducible refine specPutFrame_ok _ _ _ ?_ ?_); (· exact pO); (· first | assumption | exact hsm)) | (with_reducible exact toStore_ok _ _) | ((with_reducible refine implPutFrame_ok _ _ _ ?_ ?_); (· exact pO); (· first | assumption | exact hsm)) | (with_reducible exact eqStore_ok _ _ _) | refine hkp ?_)
  all_goals first | rfl | (exfalso; simp at hb; done)
end Go.Proofs.YtdldekkojjfllaaDoor.Am
