/- Draws, told loosely: what is drawn is some number in its range. Conditions: none. -/
import Derived.Test.YtiddnhhjlipebaaK3
import Derived.Test.YtiddnhhjlipebaaV2
import Derived.Test.YtiddnhhjlipebaaV5
import Derived.Test.YtiddnhhjlipebaaV4
import Derived.Test.YtiddnhhjlipebaaV6
namespace Go.Proofs.Ytiddnhhjlipebaa.Am
open Go Go.Proofs
set_option linter.unusedVariables false
set_option linter.unusedSimpArgs false
set_option maxRecDepth 100000
set_option maxHeartbeats 8000000
theorem pick_o2 (c : Cur) (n : Int) (id k : Nat) (h : Heap) (hc : CurAt h id c) (hb : c.bud k) (hk : k < 1000000) :
    ACalls Try.prog 0 81 #[.pointer (some ⟨id, 0, none⟩), .int .i64 n] h fun v h' => v = .int .i64 (c.pick n).1 ∧ h' = h.set id (c.pick n).2.blk := pick_ok c n id h hc (by have := hb.2; omega)
theorem one_o2 (c : Cur) (n : Int) (id k : Nat) (h : Heap) (hc : CurAt h id c) (hb : c.bud k) (hk : k < 1000000) :
    ACalls Try.prog 0 82 #[.pointer (some ⟨id, 0, none⟩), .int .i64 n] h fun v h' => v = .bool (decide ((c.pick n).1 = 0)) ∧ h' = h.set id (c.pick n).2.blk := one_ok c n id h hc (by have := hb.2; omega)
theorem among_o2 (c : Cur) (l : List Int) (vl : Value) (id k : Nat) (h : Heap) (hc : CurAt h id c) (hb : c.bud k) (hk : k < 1000000) (hs : Sl h vl 1 (ints l)) (hne : bid vl ≠ some id) (hl : 1 ≤ l.length) (hl2 : l.length ≤ 1000) :
    ACalls Try.prog 0 83 #[.pointer (some ⟨id, 0, none⟩), vl] h fun v h' => v = .int .i64 (l.getD (c.pick l.length).1.toNat 0) ∧ h' = h.set id (c.pick l.length).2.blk := among_ok c l vl id h hc (by have := hb.2; omega) hs hne hl hl2
/-- A cursor whose text lies in the memory h, that has read k numbers at most. -/
def CS (h : Heap) (c : Cur) (k : Nat) : Prop := Sl h c.v 1 (bytesR c.code) ∧ bid c.v ≠ some h.length ∧ c.bud k
theorem CS.at {h L : Heap} {c : Cur} {k : Nat} (hc : CS h c k) : CurAt (h ++ c.blk :: L) h.length c := CurAt.at hc.1 hc.2.1 hc.2.2.1
theorem CS.pick {h : Heap} {c : Cur} {k : Nat} (hc : CS h c k) (hk : k < 1000000) (n : Int) : CS h (c.pick n).2 (k + 2) := ⟨by rw [Cur.pick_v1, Cur.pick_v2]; exact hc.1, by rw [Cur.pick_v1]; exact hc.2.1, Cur.pick_bud hc.2.2 (by omega) n⟩
theorem CS.mono {h : Heap} {c : Cur} {k m : Nat} (hc : CS h c k) (hm : k ≤ m) : CS h c m := ⟨hc.1, hc.2.1, hc.2.2.1, Nat.le_trans hc.2.2.2 hm⟩
theorem set0_blk (h L : Heap) (b b' : Blk) : (h ++ b :: L).set h.length b' = h ++ b' :: L := by rw [set_at0]; rfl
theorem pick_x (c : Cur) (n : Int) (k : Nat) (h L : Heap) (hc : CS h c k) (hk : k < 1000000) :
    ACalls Try.prog 0 81 #[.pointer (some ⟨h.length, 0, none⟩), .int .i64 n] (h ++ c.blk :: L)
    fun v h' => ∃ (x : Int) (c' : Cur), v = .int .i64 x ∧ h' = h ++ c'.blk :: L ∧ CS h c' (k + 2) ∧ 0 ≤ x ∧ (x = 0 ∨ x < n) := by
  refine (pick_o2 c n h.length k (h ++ c.blk :: L) hc.at hc.2.2 hk).mono ?_
  rintro v h' ⟨rfl, rfl⟩
  have hr := Cur.pick_range hc.2.2.1 (by have := hc.2.2.2; omega) n
  exact ⟨_, (c.pick n).2, rfl, set0_blk _ _ _ _, hc.pick hk n, hr.1, hr.2⟩
theorem one_x (c : Cur) (n : Int) (k : Nat) (h L : Heap) (hc : CS h c k) (hk : k < 1000000) :
    ACalls Try.prog 0 82 #[.pointer (some ⟨h.length, 0, none⟩), .int .i64 n] (h ++ c.blk :: L)
    fun v h' => ∃ (b : Bool) (c' : Cur), v = .bool b ∧ h' = h ++ c'.blk :: L ∧ CS h c' (k + 2) := by
  refine (one_o2 c n h.length k (h ++ c.blk :: L) hc.at hc.2.2 hk).mono ?_
  rintro v h' ⟨rfl, rfl⟩
  exact ⟨_, (c.pick n).2, rfl, set0_blk _ _ _ _, hc.pick hk n⟩
theorem among_x (c : Cur) (l : List Int) (vl : Value) (k : Nat) (h L : Heap) (hc : CS h c k) (hk : k < 1000000) (hs : Sl (h ++ c.blk :: L) vl 1 (ints l)) (hne : bid vl ≠ some h.length) (hl : 1 ≤ l.length) (hl2 : l.length ≤ 1000) :
    ACalls Try.prog 0 83 #[.pointer (some ⟨h.length, 0, none⟩), vl] (h ++ c.blk :: L)
    fun v h' => ∃ (x : Int) (c' : Cur), v = .int .i64 x ∧ h' = h ++ c'.blk :: L ∧ CS h c' (k + 2) ∧ x ∈ l := by
  refine (among_o2 c l vl h.length k (h ++ c.blk :: L) hc.at hc.2.2 hk hs hne hl hl2).mono ?_
  rintro v h' ⟨rfl, rfl⟩
  have hr := Cur.pick_range hc.2.2.1 (by have := hc.2.2.2; omega) l.length
  refine ⟨_, (c.pick l.length).2, rfl, set0_blk _ _ _ _, hc.pick hk _, ?_⟩
  have hlt : (c.pick l.length).1.toNat < l.length := by omega
  rw [List.getD_eq_getElem?_getD, List.getElem?_eq_getElem hlt, Z14]
  exact List.getElem_mem hlt
theorem sl_blk {h L : Heap} {k e : Nat} {sp : Option Nat} {l : List Int} {cs : List Value} (hb : L[k]? = some ⟨2, e, cs⟩) (he : e = 1) (hc : cs = l.map (.int .i64)) : Sl (h ++ L) (.slice (some ⟨h.length + k, 0, sp⟩) l.length l.length) 1 (ints l) := by
  subst he hc
  refine sl_ints (Z4 _) ?_
  rw [hb]
  congr 2
  clear hb
  induction l with
  | nil => rfl
  | cons a l ih => simp only [Z16, List.flatten_cons, ← ih]; rfl
/-- Numbers in a block, or none. -/
def PAt (n b : Nat) (X : Heap) (v : Value) (l : List Int) : Prop := (l = [] ∧ v = .slice none 0 0) ∨ (l ≠ [] ∧ ∃ j, X[j]? = some ⟨2, 1, (ints l).flatten⟩ ∧ v = .slice (some ⟨n + (b + (j + 1)), 0, some 0⟩) l.length l.length)
theorem set_succ2 (b x : Blk) (l : Heap) (a n : Nat) : (b :: l).set (a + (n + 1)) x = b :: l.set (a + n) x := rfl
theorem ints_snoc (l : List Int) (x : Int) : (ints (l ++ [x])).flatten = (ints l).flatten ++ [.int .i64 x] := by simp [ints]
theorem ints_set0 (l : List Int) (x : Int) : (ints l).flatten.set 0 (.int .i64 x) = (ints (l.set 0 x)).flatten := by
  cases l with
  | nil => rfl
  | cons a l => simp [ints]
theorem people_x (c : Cur) (k : Nat) (h L : Heap) (hc : CS h c k) (hk : k < 900000) :
    ACalls Try.prog 0 107 #[.pointer (some ⟨h.length, 0, none⟩)] (h ++ c.blk :: L)
    fun v h' => ∃ (people : List Int) (c' : Cur) (E : Heap) (j : Nat), v = .slice (some ⟨h.length + (L.length + (j + 1)), 0, some 0⟩) people.length people.length ∧ h' = h ++ c'.blk :: (L ++ E) ∧ CS h c' (k + 20) ∧ E[j]? = some ⟨2, 1, (ints people).flatten⟩ ∧ 1 ≤ people.length ∧ people.length ≤ 4 := by
  refine Z36 Try.func107 rfl Try.ntmps107 (by simp) (by dsimp only [Try.f107]) ?_
  repeat' (first | ((with_reducible refine eq_go ?_); simp only [stp, ev, ZB, reduceIte, Nat.reduceEqDiff, Z2x, Z13, Zy, stv, vcs, idxA, blt, lenV, Z10, ZH, Zg, Ze, Z14, Zw, Z33, Nat.reduceAdd, Nat.reduceMul, Nat.reduceLeDiff, splice, newB, Ty.t3, Ty.t5, Ty.t24, Ty.t37, Ty.t103, Ty.t104, Ty.t106, *]; rfl) | (with_reducible first | refine aw_then ?_ | refine aw_skip ?_ | refine aw_ret ?_ | refine aw_exit ?_ | refine aw_block ?_ | refine xr_reg (by decide +kernel) ?_ | refine xr_nil ?_ | refine k_norm ?_ | refine k_ret ?_ | refine k_exit ?_ | refine b_norm ?_ | refine b_ret ?_ | refine b_exit ?_ | refine b_past (by decide) ?_) | (refine Ty.c81 (args := ?_) (K := ?_) ?_ ?_ ?_; rotate_left 2) | (refine Ty.c82 (args := ?_) (K := ?_) ?_ ?_ ?_; rotate_left 2) | (refine Ty.c83 (args := ?_) (K := ?_) ?_ ?_ ?_; rotate_left 2) | (refine xr_do (v := ?_) (h' := ?_) (by exact rfl) ?_ ?_; rotate_left 2) | (refine xr_st (v := ?_) (h' := ?_) (by exact rfl) ?_ ?_; rotate_left 2) | (refine aw_c (b := ?_) (by decide) ?_ ?_; rotate_left 1; (· simp only [ev, Zb, reduceIte, Nat.reduceEqDiff, *]; rfl)) | (with_reducible first | refine cw_t ?_ | refine cw_f ?_) | refine cw_if (fun hb => ?_) (fun hb => ?_) | (refine r_ret (vs := ?_) ?_ ?_; rotate_left 1; (· simp only [resV, ev, Zb, reduceIte, Nat.reduceEqDiff, Zj, *]; rfl)) | ((with_reducible refine pick_x _ _ ?_ _ _ ?_ ?_); rotate_left 1; (· assumption); (· first | omega | (simp only [Z2]; omega))) | ((with_reducible refine one_x _ _ ?_ _ _ ?_ ?_); rotate_left 1; (· assumption); (· first | omega | (simp only [Z2]; omega))) | ((with_reducible refine among_x _ [15, 15, 7, 3, 1, 0, 6] _ ?_ _ _ ?_ ?_ ?_ ?_ ?_ ?_); rotate_left 1; (· assumption); (· first | omega | (simp only [Z2]; omega)); (· exact sl_blk (l := [15, 15, 7, 3, 1, 0, 6]) hget rfl rfl); (· (simp [bid])); (· decide); (· decide)) | ((with_reducible refine Z2w (n := 81) ?_); rintro _ _ ⟨xp, c1, rfl, rfl, hcs, hxp⟩) | ((with_reducible refine Z2w (n := 82) ?_); rintro _ _ ⟨bo, c1, rfl, rfl, hcs⟩) | ((with_reducible refine Z2w (n := 83) ?_); rintro _ _ ⟨xa, c1, rfl, rfl, hcs, hxa⟩))
  have hw1 : IntKind.i64.wrap (1 + xp) = (((1 + xp).toNat : Nat) : Int) := by rw [wrap_id (by omega)]; omega
  refine aw_loop (n := (1 + xp).toNat) (fun m T h' => ∃ (cc : Cur) (X : Heap) (l : List Int), h' = h ++ cc.blk :: (L ++ X) ∧ CS h cc (k + 2 + 2 * (4 - m)) ∧ m ≤ 4 ∧ T 4 = .int .i64 (m : Nat) ∧ T 0 = .pointer (some ⟨h.length, 0, none⟩) ∧ PAt h.length L.length X (T 3) l ∧ 1 ≤ l.length + m ∧ l.length + m ≤ 4)
    ⟨c1, [], [], by rw [Zx], hcs.mono (by omega), by omega, by simp only [Zb, reduceIte, Nat.reduceEqDiff]; rw [hw1], rfl, .inl ⟨rfl, rfl⟩, by simp; omega, by simp; omega⟩ ?_
  clear hw1 hxp hcs hc
  rintro m T h' ⟨cc, X, l, rfl, hcs, hm, h4, h0, hat, hl1, hl2⟩
  by_cases hm0 : m = 0
  · subst hm0
    have hlt : decide ((0 : Int) < ((0 : Nat) : Int)) = false := rfl
    rcases hat with ⟨rfl, h3⟩ | ⟨hne, j, hj, h3⟩
    · simp at hl1
    have hb2 : ∀ H : Heap, bsl Try.prog 24 H 2 [(0, .int .i64 (-1)), (1, .int .i64 16)] = some (.slice (some ⟨H.length, 0, none⟩) 2 2, H ++ [⟨2, 1, [.int .i64 (-1), .int .i64 16]⟩]) := fun H => by
      simp [bsl, Ty.sl24, Ty.zc3, fillL, newS, zeros, vcs, splice, Z30]
    have hget : ∀ b : Blk, (b :: (L ++ (X ++ [(⟨2, 1, [.int .i64 (-1), .int .i64 16]⟩ : Blk)])))[L.length + (X.length + 1)]? = some ⟨2, 1, [.int .i64 (-1), .int .i64 16]⟩ := fun b => by
      rw [show L.length + (X.length + 1) = (L.length + X.length) + 1 by omega, Z0, get_at, List.getElem?_append_right (Z4 _), Nat.sub_self]; rfl
    have hfl : (ints l).flatten.length = l.length := by rw [ints_flen, Nat.mul_one]
    have hll : 0 < (l.length : Int) := by omega
    have hsc : ∀ (x : Int) (Y : Heap), setCs (X ++ Y) j 0 [.int .i64 x] = some (X.set j ⟨2, 1, (ints (l.set 0 x)).flatten⟩ ++ Y) := fun x Y => by
      unfold setCs
      rw [get_old hj]
      simp only [hfl, Z3, Z2]
      rw [if_pos ⟨trivial, by omega⟩, List.set_append_left _ _ (lt_of_get hj)]
      simp only [splice, ints_set0]
    repeat' (first | ((with_reducible refine eq_go ?_); simp only [stp, ev, ZB, reduceIte, Nat.reduceEqDiff, Z2x, Z13, Zy, stv, vcs, idxA, blt, lenV, Z10, ZH, Zg, Ze, Z14, Zw, Z33, Nat.reduceAdd, Nat.reduceMul, Nat.reduceLeDiff, splice, newB, Ty.t3, Ty.t5, Ty.t24, Ty.t37, Ty.t103, Ty.t104, Ty.t106, Int.reduceToNat, Nat.zero_mul, Nat.mul_one, *]; rfl) | (with_reducible first | refine aw_then ?_ | refine aw_skip ?_ | refine aw_ret ?_ | refine aw_exit ?_ | refine aw_block ?_ | refine xr_reg (by decide +kernel) ?_ | refine xr_nil ?_ | refine k_norm ?_ | refine k_ret ?_ | refine k_exit ?_ | refine b_norm ?_ | refine b_ret ?_ | refine b_exit ?_ | refine b_past (by decide) ?_) | (refine Ty.c81 (args := ?_) (K := ?_) ?_ ?_ ?_; rotate_left 2) | (refine Ty.c82 (args := ?_) (K := ?_) ?_ ?_ ?_; rotate_left 2) | (refine Ty.c83 (args := ?_) (K := ?_) ?_ ?_ ?_; rotate_left 2) | (refine xr_do (v := ?_) (h' := ?_) (by exact rfl) ?_ ?_; rotate_left 2) | (refine xr_st (v := ?_) (h' := ?_) (by exact rfl) ?_ ?_; rotate_left 2) | (refine aw_c (b := ?_) (by decide) ?_ ?_; rotate_left 1; (· simp only [ev, Zb, reduceIte, Nat.reduceEqDiff, *]; rfl)) | (with_reducible first | refine cw_t ?_ | refine cw_f ?_) | refine cw_if (fun hb => ?_) (fun hb => ?_) | (refine r_ret (vs := ?_) ?_ ?_; rotate_left 1; (· simp only [resV, ev, Zb, reduceIte, Nat.reduceEqDiff, Zj, *]; rfl)) | ((with_reducible refine pick_x _ _ ?_ _ _ ?_ ?_); rotate_left 1; (· assumption); (· first | omega | (simp only [Z2]; omega))) | ((with_reducible refine one_x _ _ ?_ _ _ ?_ ?_); rotate_left 1; (· assumption); (· first | omega | (simp only [Z2]; omega))) | ((with_reducible refine among_x _ [-1, 16] _ ?_ _ _ ?_ ?_ ?_ ?_ ?_ ?_); rotate_left 1; (· assumption); (· first | omega | (simp only [Z2]; omega)); (· exact sl_blk (l := [-1, 16]) (hget _) rfl rfl); (· (simp [bid])); (· decide); (· decide)) | ((with_reducible refine Z2w (n := 81) ?_); rintro _ _ ⟨xp, c1, rfl, rfl, hcs, hxp⟩) | ((with_reducible refine Z2w (n := 82) ?_); rintro _ _ ⟨bo, c1, rfl, rfl, hcs⟩) | ((with_reducible refine Z2w (n := 83) ?_); rintro _ _ ⟨xa, c1, rfl, rfl, hcs, hxa⟩))
    · exact ⟨l.set 0 xa, c1, X.set j ⟨2, 1, (ints (l.set 0 xa)).flatten⟩ ++ [⟨2, 1, [.int .i64 (-1), .int .i64 16]⟩], j, by simp [oneOf], rfl, hcs.mono (by omega), by rw [List.getElem?_append_left (by simpa using lt_of_get hj), List.getElem?_set_self (lt_of_get hj)], by simp; omega, by simp; omega⟩
    · exact ⟨l, c1, X, j, rfl, rfl, hcs.mono (by omega), hj, by omega, by omega⟩
  · have hlt : decide ((0 : Int) < (m : Int)) = true := decide_eq_true (by omega)
    have hwm : IntKind.i64.wrap ((m : Int) - 1) = ((m - 1 : Nat) : Int) := by rw [wrap_id (by omega)]; omega
    have hb7 : ∀ H : Heap, bsl Try.prog 24 H 7 [(0, .int .i64 15), (1, .int .i64 15), (2, .int .i64 7), (3, .int .i64 3), (4, .int .i64 1), (5, .int .i64 0), (6, .int .i64 6)] = some (.slice (some ⟨H.length, 0, none⟩) 7 7, H ++ [⟨2, 1, [.int .i64 15, .int .i64 15, .int .i64 7, .int .i64 3, .int .i64 1, .int .i64 0, .int .i64 6]⟩]) := fun H => by
      simp [bsl, Ty.sl24, Ty.zc3, fillL, newS, zeros, vcs, splice, Z30]
    have hbs : ∀ (H : Heap) (x : Int), bsl Try.prog 24 H 1 [(0, .int .i64 x)] = some (.slice (some ⟨H.length, 0, none⟩) 1 1, H ++ [⟨2, 1, [.int .i64 x]⟩]) := fun H x => bsl_one Ty.sl24 Ty.zc3 rfl rfl
    have hget : (cc.blk :: (L ++ (X ++ [(⟨2, 1, [.int .i64 15, .int .i64 15, .int .i64 7, .int .i64 3, .int .i64 1, .int .i64 0, .int .i64 6]⟩ : Blk)])))[L.length + (X.length + 1)]? = some ⟨2, 1, [.int .i64 15, .int .i64 15, .int .i64 7, .int .i64 3, .int .i64 1, .int .i64 0, .int .i64 6]⟩ := by
      rw [show L.length + (X.length + 1) = (L.length + X.length) + 1 by omega, Z0, get_at, List.getElem?_append_right (Z4 _), Nat.sub_self]; rfl
    have hix : ∀ (b : Blk) (x : Int), (h ++ b :: (L ++ (X ++ [⟨2, 1, [.int .i64 15, .int .i64 15, .int .i64 7, .int .i64 3, .int .i64 1, .int .i64 0, .int .i64 6]⟩, ⟨2, 1, [.int .i64 x]⟩])))[h.length + (L.length + (X.length + 2))]? = some ⟨2, 1, [.int .i64 x]⟩ := fun b x => by
      rw [get_at, show L.length + (X.length + 2) = (L.length + (X.length + 1)) + 1 by omega, Z0, get_at, get_at]; rfl
    rcases hat with ⟨rfl, h3⟩ | ⟨hne, j, hj, h3⟩
    · have hap := fun (b : Blk) (x : Int) => apS_nil (P := Try.prog) (H := h ++ b :: (L ++ (X ++ [⟨2, 1, [.int .i64 15, .int .i64 15, .int .i64 7, .int .i64 3, .int .i64 1, .int .i64 0, .int .i64 6]⟩, ⟨2, 1, [.int .i64 x]⟩]))) (id2 := h.length + (L.length + (X.length + 2))) (sp := none) (m := 1) (xs := [.int .i64 x])
        Ty.sl24 Ty.zc3 Ty.by3 (hix b x) rfl (by decide) (by omega) (by omega)
      simp only [Z7, Zc, Zd, Z6, Z3, Z2, Zf, Zh, Nat.reduceAdd] at hap
      clear hix
      repeat' (first | ((with_reducible refine eq_go ?_); simp only [stp, ev, ZB, reduceIte, Nat.reduceEqDiff, Z2x, Z13, Zy, stv, vcs, idxA, blt, lenV, Z10, ZH, Zg, Ze, Z14, Zw, Z33, Nat.reduceAdd, Nat.reduceMul, Nat.reduceLeDiff, splice, newB, Ty.t3, Ty.t5, Ty.t24, Ty.t37, Ty.t103, Ty.t104, Ty.t106, *]; rfl) | (with_reducible first | refine aw_then ?_ | refine aw_skip ?_ | refine aw_ret ?_ | refine aw_exit ?_ | refine aw_block ?_ | refine xr_reg (by decide +kernel) ?_ | refine xr_nil ?_ | refine k_norm ?_ | refine k_ret ?_ | refine k_exit ?_ | refine b_norm ?_ | refine b_ret ?_ | refine b_exit ?_ | refine b_past (by decide) ?_) | (refine Ty.c81 (args := ?_) (K := ?_) ?_ ?_ ?_; rotate_left 2) | (refine Ty.c82 (args := ?_) (K := ?_) ?_ ?_ ?_; rotate_left 2) | (refine Ty.c83 (args := ?_) (K := ?_) ?_ ?_ ?_; rotate_left 2) | (refine xr_do (v := ?_) (h' := ?_) (by exact rfl) ?_ ?_; rotate_left 2) | (refine xr_st (v := ?_) (h' := ?_) (by exact rfl) ?_ ?_; rotate_left 2) | (refine aw_c (b := ?_) (by decide) ?_ ?_; rotate_left 1; (· simp only [ev, Zb, reduceIte, Nat.reduceEqDiff, *]; rfl)) | (with_reducible first | refine cw_t ?_ | refine cw_f ?_) | refine cw_if (fun hb => ?_) (fun hb => ?_) | (refine r_ret (vs := ?_) ?_ ?_; rotate_left 1; (· simp only [resV, ev, Zb, reduceIte, Nat.reduceEqDiff, Zj, *]; rfl)) | ((with_reducible refine pick_x _ _ ?_ _ _ ?_ ?_); rotate_left 1; (· assumption); (· first | omega | (simp only [Z2]; omega))) | ((with_reducible refine one_x _ _ ?_ _ _ ?_ ?_); rotate_left 1; (· assumption); (· first | omega | (simp only [Z2]; omega))) | ((with_reducible refine among_x _ [15, 15, 7, 3, 1, 0, 6] _ ?_ _ _ ?_ ?_ ?_ ?_ ?_ ?_); rotate_left 1; (· assumption); (· first | omega | (simp only [Z2]; omega)); (· exact sl_blk (l := [15, 15, 7, 3, 1, 0, 6]) hget rfl rfl); (· (simp [bid])); (· decide); (· decide)) | ((with_reducible refine Z2w (n := 81) ?_); rintro _ _ ⟨xp, c1, rfl, rfl, hcs, hxp⟩) | ((with_reducible refine Z2w (n := 82) ?_); rintro _ _ ⟨bo, c1, rfl, rfl, hcs⟩) | ((with_reducible refine Z2w (n := 83) ?_); rintro _ _ ⟨xa, c1, rfl, rfl, hcs, hxa⟩))
      refine ⟨m - 1, by omega, c1, X ++ [⟨2, 1, [.int .i64 15, .int .i64 15, .int .i64 7, .int .i64 3, .int .i64 1, .int .i64 0, .int .i64 6]⟩, ⟨2, 1, [.int .i64 xa]⟩, ⟨2, 1, [.int .i64 xa]⟩], [xa], rfl, hcs.mono (by omega), by omega, ?_, ?_, .inr ⟨by simp, X.length + 2, ?_, ?_⟩, by simp, by simp; omega⟩
      · simp only [Zb, reduceIte, Nat.reduceEqDiff]
      · simp only [Zb, reduceIte, Nat.reduceEqDiff]; exact h0
      · rw [List.getElem?_append_right (by omega)]; simp [ints]
      · simp only [Zb, reduceIte, Nat.reduceEqDiff]; rfl
    · have hjl := lt_of_get hj
      have hset : ∀ (b : Blk) (Y : Heap), (X ++ Y).set j b = X.set j b ++ Y := fun b Y => List.set_append_left _ _ hjl
      have hap := fun (b : Blk) (x : Int) => apS_full (P := Try.prog) (H := h ++ b :: (L ++ (X ++ [⟨2, 1, [.int .i64 15, .int .i64 15, .int .i64 7, .int .i64 3, .int .i64 1, .int .i64 0, .int .i64 6]⟩, ⟨2, 1, [.int .i64 x]⟩]))) (id1 := h.length + (L.length + (j + 1))) (id2 := h.length + (L.length + (X.length + 2))) (sp := none) (n := l.length) (m := 1) (cs := (ints l).flatten) (xs := [.int .i64 x])
        Ty.sl24 Ty.zc3 Ty.by3 (by rw [get_at, show L.length + (j + 1) = (L.length + j) + 1 by omega, Z0, get_at]; exact get_old hj) (hix b x) (ints_flen l) rfl (by decide) (by omega) (by omega)
      simp only [Z7, Zc, Zd, Z6, Z3, Z2, Zf, Zh, Nat.reduceAdd, Z1y, set_succ2, hset] at hap
      clear hix
      repeat' (first | ((with_reducible refine eq_go ?_); simp only [stp, ev, ZB, reduceIte, Nat.reduceEqDiff, Z2x, Z13, Zy, stv, vcs, idxA, blt, lenV, Z10, ZH, Zg, Ze, Z14, Zw, Z33, Nat.reduceAdd, Nat.reduceMul, Nat.reduceLeDiff, splice, newB, Ty.t3, Ty.t5, Ty.t24, Ty.t37, Ty.t103, Ty.t104, Ty.t106, *]; rfl) | (with_reducible first | refine aw_then ?_ | refine aw_skip ?_ | refine aw_ret ?_ | refine aw_exit ?_ | refine aw_block ?_ | refine xr_reg (by decide +kernel) ?_ | refine xr_nil ?_ | refine k_norm ?_ | refine k_ret ?_ | refine k_exit ?_ | refine b_norm ?_ | refine b_ret ?_ | refine b_exit ?_ | refine b_past (by decide) ?_) | (refine Ty.c81 (args := ?_) (K := ?_) ?_ ?_ ?_; rotate_left 2) | (refine Ty.c82 (args := ?_) (K := ?_) ?_ ?_ ?_; rotate_left 2) | (refine Ty.c83 (args := ?_) (K := ?_) ?_ ?_ ?_; rotate_left 2) | (refine xr_do (v := ?_) (h' := ?_) (by exact rfl) ?_ ?_; rotate_left 2) | (refine xr_st (v := ?_) (h' := ?_) (by exact rfl) ?_ ?_; rotate_left 2) | (refine aw_c (b := ?_) (by decide) ?_ ?_; rotate_left 1; (· simp only [ev, Zb, reduceIte, Nat.reduceEqDiff, *]; rfl)) | (with_reducible first | refine cw_t ?_ | refine cw_f ?_) | refine cw_if (fun hb => ?_) (fun hb => ?_) | (refine r_ret (vs := ?_) ?_ ?_; rotate_left 1; (· simp only [resV, ev, Zb, reduceIte, Nat.reduceEqDiff, Zj, *]; rfl)) | ((with_reducible refine pick_x _ _ ?_ _ _ ?_ ?_); rotate_left 1; (· assumption); (· first | omega | (simp only [Z2]; omega))) | ((with_reducible refine one_x _ _ ?_ _ _ ?_ ?_); rotate_left 1; (· assumption); (· first | omega | (simp only [Z2]; omega))) | ((with_reducible refine among_x _ [15, 15, 7, 3, 1, 0, 6] _ ?_ _ _ ?_ ?_ ?_ ?_ ?_ ?_); rotate_left 1; (· assumption); (· first | omega | (simp only [Z2]; omega)); (· exact sl_blk (l := [15, 15, 7, 3, 1, 0, 6]) hget rfl rfl); (· (simp [bid])); (· decide); (· decide)) | ((with_reducible refine Z2w (n := 81) ?_); rintro _ _ ⟨xp, c1, rfl, rfl, hcs, hxp⟩) | ((with_reducible refine Z2w (n := 82) ?_); rintro _ _ ⟨bo, c1, rfl, rfl, hcs⟩) | ((with_reducible refine Z2w (n := 83) ?_); rintro _ _ ⟨xa, c1, rfl, rfl, hcs, hxa⟩))
      refine ⟨m - 1, by omega, c1, X.set j ⟨0, 0, []⟩ ++ [⟨2, 1, [.int .i64 15, .int .i64 15, .int .i64 7, .int .i64 3, .int .i64 1, .int .i64 0, .int .i64 6]⟩, ⟨2, 1, [.int .i64 xa]⟩, ⟨2, 1, (ints l).flatten ++ [.int .i64 xa]⟩], l ++ [xa], by simp, hcs.mono (by omega), by omega, ?_, ?_, .inr ⟨by simp, X.length + 2, ?_, ?_⟩, by simp; omega, by simp; omega⟩
      · simp only [Zb, reduceIte, Nat.reduceEqDiff]
      · simp only [Zb, reduceIte, Nat.reduceEqDiff]; exact h0
      · rw [List.getElem?_append_right (by simp)]; simp [ints_snoc]
      · simp only [Zb, reduceIte, Nat.reduceEqDiff, Z6, Z3, Z2]
end Go.Proofs.Ytiddnhhjlipebaa.Am
namespace Go.Proofs.Ytiddnhhjlipebaa.Am
open Go Go.Proofs
set_option linter.unusedVariables false
set_option linter.unusedSimpArgs false
set_option maxRecDepth 100000
set_option maxHeartbeats 8000000
theorem l1Most_ok (a b : Int) (h : Heap) : ACalls Try.prog 0 132 #[.int .i64 a, .int .i64 b] h fun v h' => v = .int .i64 (if b < a then a else b) ∧ h' = h := by
  by_cases q : b < a
  · have d1 : decide (b < a) = true := decide_eq_true q
    have d2 : decide (a < b) = false := decide_eq_false (by omega)
    simp only [if_pos q]
    clear q
    refine Z36 Try.func132 rfl Try.ntmps132 (by simp) (by dsimp only [Try.f132]) ?_
    repeat' (first | ((with_reducible refine eq_go ?_); simp only [stp, ev, ZB, reduceIte, Nat.reduceEqDiff, Z2x, Z13, Zy, Ty.t3, *]; rfl) | (with_reducible first | refine aw_then ?_ | refine aw_skip ?_ | refine aw_ret ?_ | refine aw_exit ?_ | refine aw_block ?_ | refine xr_reg (by decide +kernel) ?_ | refine xr_nil ?_ | refine k_norm ?_ | refine k_ret ?_ | refine k_exit ?_ | refine b_norm ?_ | refine b_ret ?_ | refine b_exit ?_ | refine b_past (by decide) ?_) | (refine xr_do (v := ?_) (h' := ?_) (by exact rfl) ?_ ?_; rotate_left 2) | (refine xr_st (v := ?_) (h' := ?_) (by exact rfl) ?_ ?_; rotate_left 2) | (refine aw_c (b := ?_) (by decide) ?_ ?_; rotate_left 1; (· simp only [ev, Zb, reduceIte, Nat.reduceEqDiff, *]; rfl)) | (with_reducible first | refine cw_t ?_ | refine cw_f ?_) | refine cw_if (fun hb => ?_) (fun hb => ?_) | (refine r_ret (vs := ?_) ?_ ?_; rotate_left 1; (· simp only [resV, ev, Zb, reduceIte, Nat.reduceEqDiff, Zj, *]; rfl)))
    all_goals first | exact ⟨rfl, rfl⟩ | skip
  · have d1 : decide (b < a) = false := decide_eq_false q
    simp only [if_neg q]
    clear q
    refine Z36 Try.func132 rfl Try.ntmps132 (by simp) (by dsimp only [Try.f132]) ?_
    repeat' (first | ((with_reducible refine eq_go ?_); simp only [stp, ev, ZB, reduceIte, Nat.reduceEqDiff, Z2x, Z13, Zy, Ty.t3, *]; rfl) | (with_reducible first | refine aw_then ?_ | refine aw_skip ?_ | refine aw_ret ?_ | refine aw_exit ?_ | refine aw_block ?_ | refine xr_reg (by decide +kernel) ?_ | refine xr_nil ?_ | refine k_norm ?_ | refine k_ret ?_ | refine k_exit ?_ | refine b_norm ?_ | refine b_ret ?_ | refine b_exit ?_ | refine b_past (by decide) ?_) | (refine xr_do (v := ?_) (h' := ?_) (by exact rfl) ?_ ?_; rotate_left 2) | (refine xr_st (v := ?_) (h' := ?_) (by exact rfl) ?_ ?_; rotate_left 2) | (refine aw_c (b := ?_) (by decide) ?_ ?_; rotate_left 1; (· simp only [ev, Zb, reduceIte, Nat.reduceEqDiff, *]; rfl)) | (with_reducible first | refine cw_t ?_ | refine cw_f ?_) | refine cw_if (fun hb => ?_) (fun hb => ?_) | (refine r_ret (vs := ?_) ?_ ?_; rotate_left 1; (· simp only [resV, ev, Zb, reduceIte, Nat.reduceEqDiff, Zj, *]; rfl)))
    all_goals first | exact ⟨rfl, rfl⟩ | skip
theorem pick_y (c : Cur) (n : Int) (k : Nat) (h L : Heap) (hc : CS h c k) (hk : k < 1000000) (hn : 1 ≤ n) :
    ACalls Try.prog 0 81 #[.pointer (some ⟨h.length, 0, none⟩), .int .i64 n] (h ++ c.blk :: L)
    fun v h' => ∃ (x : Int) (c' : Cur), v = .int .i64 x ∧ h' = h ++ c'.blk :: L ∧ CS h c' (k + 2) ∧ 0 ≤ x ∧ x < n := by
  refine (pick_x c n k h L hc hk).mono ?_
  rintro v h' ⟨x, c', h1, h2, h3, h4, h5⟩
  exact ⟨x, c', h1, h2, h3, h4, by omega⟩
theorem quo19 {P : Program} {t : TypeId} {xo yo : Operand} (a : Int) : binV P .quo t xo yo (.int .i64 a) (.int .i64 19) = some (.int .i64 (IntKind.i64.wrap (a.tdiv 19))) := binV_quo _ _ _ _ _ _ (by decide)
theorem item_slice {h L : Heap} {vi : Value} {items : List Item} (hi : ∀ (b : Blk) (X : Heap), Sl (h ++ b :: (L ++ X)) vi 6 (items.map Item.cells)) (hne : items ≠ []) : ∃ (ab : Addr) (cap : Nat), vi = .slice (some ab) items.length cap ∧
    ∀ (b : Blk) (X : Heap) (i : Int) (j : Nat), 0 ≤ i → i < (items.length : Int) → j < 6 → getC (h ++ b :: (L ++ X)) ab.block (ab.off + (i.toNat * 6 + j)) = (items.getD i.toNat Item.nil).cells[j]? := by
  obtain ⟨bb, cap, hv, hcap, hrow⟩ := hi ⟨0, 0, []⟩ []
  have hl : 0 < items.length := List.length_pos_iff.2 hne
  obtain ⟨ab, rfl, _⟩ := Sl.row hrow (k := 0) (by simpa using hl)
  refine ⟨ab, cap, by simpa using hv, fun b X i j h0 h1 hj => ?_⟩
  obtain ⟨b2, cap2, hv2, _, hrow2⟩ := hi b X
  rw [hv] at hv2
  cases hv2
  have hk : i.toNat < items.length := by omega
  obtain ⟨a2, q, hld⟩ := Sl.row hrow2 (k := i.toNat) (by simpa using hk)
  cases q
  rw [List.getElem_map] at hld
  rw [← Zh, getC_of_loads hld hj, List.getD_eq_getElem?_getD, List.getElem?_eq_getElem hk]; rfl
theorem get_deep4 (L : Heap) (b D Z A B : Blk) : (b :: (L ++ [D, Z, A, B]))[L.length + 4]? = some B := by
  rw [show L.length + 4 = (L.length + 3) + 1 by omega, Z0, get_at]; rfl
theorem act_x (c : Cur) (now : Int) (items : List Item) (vp vi : Value) (k : Nat) (h L : Heap) (hc : CS h c k) (hk : k < 900000) (hi : ∀ (b : Blk) (X : Heap), Sl (h ++ b :: (L ++ X)) vi 6 (items.map Item.cells)) (hf : flat vp = true) (hil : items.length ≤ 1048576) :
    ACalls Try.prog 0 112 #[.pointer (some ⟨h.length, 0, none⟩), .agg #[.int .i64 now, vp, vi]] (h ++ c.blk :: L)
    fun v h' => ∃ (a : DAct) (c' : Cur) (E : Heap), v = .agg a.cells.toArray ∧ h' = h ++ c'.blk :: (L ++ E) ∧ CS h c' (k + 40) := by
  have hf2 := (hi ⟨0, 0, []⟩ []).flat
  by_cases hne : items = []
  · obtain ⟨bb, cap, rfl, hcap, _⟩ := hi ⟨0, 0, []⟩ []
    subst hne
    simp only [Z1a, Z2] at *
    have hz : decide (((0 : Nat) : Int) = 0) = true := rfl
    clear hi
    refine Z36 Try.func112 rfl Try.ntmps112 (by simp) (by dsimp only [Try.f112]) ?_
    repeat' (first | ((with_reducible refine eq_go ?_); simp only [stp, ev, ZB, reduceIte, Nat.reduceEqDiff, Z2x, Z13, Zy, bld, fillL, vcs, splice, Ze, ZH, Z35, ldv, stv, fldA, idxA, blt, lenV, Z10, Zg, Z14, Zw, Z33, Nat.reduceAdd, Nat.reduceMul, Nat.reduceLeDiff, newB, Ty.t3, Ty.t5, Ty.t24, Ty.t37, Ty.t56, Ty.t58, Ty.t77, Ty.t80, Ty.t103, Ty.t104, Ty.t106, DAct.cells_length, DAct.cells_flat, quo19, *]; rfl) | (with_reducible first | refine aw_then ?_ | refine aw_skip ?_ | refine aw_ret ?_ | refine aw_exit ?_ | refine aw_block ?_ | refine xr_reg (by decide +kernel) ?_ | refine xr_nil ?_ | refine k_norm ?_ | refine k_ret ?_ | refine k_exit ?_ | refine b_norm ?_ | refine b_ret ?_ | refine b_exit ?_ | refine b_past (by decide) ?_) | (refine Ty.c81 (args := ?_) (K := ?_) ?_ ?_ ?_; rotate_left 2) | (refine Ty.c82 (args := ?_) (K := ?_) ?_ ?_ ?_; rotate_left 2) | (refine Ty.c83 (args := ?_) (K := ?_) ?_ ?_ ?_; rotate_left 2) | (refine Ty.c132 (args := ?_) (K := ?_) ?_ ?_ ?_; rotate_left 2) | (refine xr_do (v := ?_) (h' := ?_) (by exact rfl) ?_ ?_; rotate_left 2) | (refine xr_st (v := ?_) (h' := ?_) (by exact rfl) ?_ ?_; rotate_left 2) | (refine xr_g (b := ?_) (by exact rfl) ?_ ?_; rotate_left 1; (· simp only [ev, Zb, reduceIte, Nat.reduceEqDiff, Z8, Z5, *]; rfl)) | (with_reducible first | refine gw_tt ?_ | refine gw_ff ?_ | refine gw_tf ?_ | refine gw_ft ?_ | refine gw_un ?_) | refine gw_if (fun hb => ?_) (fun hb => ?_) | (refine aw_c (b := ?_) (by decide) ?_ ?_; rotate_left 1; (· simp only [ev, Zb, reduceIte, Nat.reduceEqDiff, *]; rfl)) | (with_reducible first | refine cw_t ?_ | refine cw_f ?_) | refine cw_if (fun hb => ?_) (fun hb => ?_) | (refine r_ret (vs := ?_) ?_ ?_; rotate_left 1; (· simp only [resV, oneOf, stp, ev, ZB, reduceIte, Nat.reduceEqDiff, Z2x, Z13, Zy, bld, fillL, vcs, splice, Ze, ZH, Z35, ldv, stv, fldA, idxA, blt, lenV, Z10, Zg, Z14, Zw, Z33, Nat.reduceAdd, Nat.reduceMul, Nat.reduceLeDiff, newB, Ty.t3, Ty.t5, Ty.t24, Ty.t37, Ty.t56, Ty.t58, Ty.t77, Ty.t80, Ty.t103, Ty.t104, Ty.t106, DAct.cells_length, DAct.cells_flat, quo19, *]; rfl)) | ((with_reducible refine pick_y _ _ ?_ _ _ ?_ ?_ ?_); rotate_left 1; (· assumption); (· first | omega | (simp only [Z2]; omega)); (· first | decide | omega)) | ((with_reducible refine one_x _ _ ?_ _ _ ?_ ?_); rotate_left 1; (· assumption); (· first | omega | (simp only [Z2]; omega))) | ((with_reducible refine among_x _ [3, 3, 5, 6] _ ?_ _ _ ?_ ?_ ?_ ?_ ?_ ?_); rotate_left 1; (· assumption); (· first | omega | (simp only [Z2]; omega)); (· exact sl_blk (l := [3, 3, 5, 6]) (get_deep4 _ _ _ _ _ _) rfl rfl); (· (simp [bid])); (· decide); (· decide)) | (with_reducible exact l1Most_ok _ _ _) | ((with_reducible refine Z2w (n := 81) ?_); rintro _ _ ⟨xp, c1, rfl, rfl, hcs, hx0, hx1⟩) | ((with_reducible refine Z2w (n := 82) ?_); rintro _ _ ⟨bo, c1, rfl, rfl, hcs⟩) | ((with_reducible refine Z2w (n := 83) ?_); rintro _ _ ⟨xa, c1, rfl, rfl, hcs, hxa⟩) | ((with_reducible refine Z2w ?_); rintro _ _ ⟨rfl, hh⟩; replace hh := hh.symm; subst hh))
    all_goals exact ⟨⟨_, _, _, _, _, _, _, _⟩, _, _, rfl, rfl, hcs.mono (by omega)⟩
  · obtain ⟨ab, cap, rfl, hg⟩ := item_slice hi hne
    have hz : decide ((items.length : Int) = 0) = false := decide_eq_false (by have := List.length_pos_iff.2 hne; omega)
    have hl1 : 1 ≤ (items.length : Int) := by have := List.length_pos_iff.2 hne; omega
    have hg3 := fun b X i h0 h1 => hg b X i 3 h0 h1 (by decide)
    have hg4 := fun b X i h0 h1 => hg b X i 4 h0 h1 (by decide)
    have hb4 : ∀ H : Heap, bsl Try.prog 24 H 4 [(0, .int .i64 3), (1, .int .i64 3), (2, .int .i64 5), (3, .int .i64 6)] = some (.slice (some ⟨H.length, 0, none⟩) 4 4, H ++ [⟨2, 1, [.int .i64 3, .int .i64 3, .int .i64 5, .int .i64 6]⟩]) := fun H => by
      simp [bsl, Ty.sl24, Ty.zc3, fillL, newS, zeros, vcs, splice, Z30]
    clear hi hg hne
    refine Z36 Try.func112 rfl Try.ntmps112 (by simp) (by dsimp only [Try.f112]) ?_
    repeat' (first | ((with_reducible refine eq_go ?_); simp only [stp, ev, ZB, reduceIte, Nat.reduceEqDiff, Z2x, Z13, Zy, bld, fillL, vcs, splice, Ze, ZH, Z35, ldv, stv, fldA, idxA, blt, lenV, Z10, Zg, Z14, Zw, Z33, Nat.reduceAdd, Nat.reduceMul, Nat.reduceLeDiff, newB, Ty.t3, Ty.t5, Ty.t24, Ty.t37, Ty.t56, Ty.t58, Ty.t77, Ty.t80, Ty.t103, Ty.t104, Ty.t106, DAct.cells_length, DAct.cells_flat, quo19, Item.get3, Item.get4, *]; rfl) | (with_reducible first | refine aw_then ?_ | refine aw_skip ?_ | refine aw_ret ?_ | refine aw_exit ?_ | refine aw_block ?_ | refine xr_reg (by decide +kernel) ?_ | refine xr_nil ?_ | refine k_norm ?_ | refine k_ret ?_ | refine k_exit ?_ | refine b_norm ?_ | refine b_ret ?_ | refine b_exit ?_ | refine b_past (by decide) ?_) | (refine Ty.c81 (args := ?_) (K := ?_) ?_ ?_ ?_; rotate_left 2) | (refine Ty.c82 (args := ?_) (K := ?_) ?_ ?_ ?_; rotate_left 2) | (refine Ty.c83 (args := ?_) (K := ?_) ?_ ?_ ?_; rotate_left 2) | (refine Ty.c132 (args := ?_) (K := ?_) ?_ ?_ ?_; rotate_left 2) | (refine xr_do (v := ?_) (h' := ?_) (by exact rfl) ?_ ?_; rotate_left 2) | (refine xr_st (v := ?_) (h' := ?_) (by exact rfl) ?_ ?_; rotate_left 2) | (refine xr_g (b := ?_) (by exact rfl) ?_ ?_; rotate_left 1; (· simp only [ev, Zb, reduceIte, Nat.reduceEqDiff, Z8, Z5, *]; rfl)) | (with_reducible first | refine gw_tt ?_ | refine gw_ff ?_ | refine gw_tf ?_ | refine gw_ft ?_ | refine gw_un ?_) | refine gw_if (fun hb => ?_) (fun hb => ?_) | (refine aw_c (b := ?_) (by decide) ?_ ?_; rotate_left 1; (· simp only [ev, Zb, reduceIte, Nat.reduceEqDiff, *]; rfl)) | (with_reducible first | refine cw_t ?_ | refine cw_f ?_) | refine cw_if (fun hb => ?_) (fun hb => ?_) | (refine r_ret (vs := ?_) ?_ ?_; rotate_left 1; (· simp only [resV, oneOf, stp, ev, ZB, reduceIte, Nat.reduceEqDiff, Z2x, Z13, Zy, bld, fillL, vcs, splice, Ze, ZH, Z35, ldv, stv, fldA, idxA, blt, lenV, Z10, Zg, Z14, Zw, Z33, Nat.reduceAdd, Nat.reduceMul, Nat.reduceLeDiff, newB, Ty.t3, Ty.t5, Ty.t24, Ty.t37, Ty.t56, Ty.t58, Ty.t77, Ty.t80, Ty.t103, Ty.t104, Ty.t106, DAct.cells_length, DAct.cells_flat, quo19, Item.get3, Item.get4, *]; rfl)) | ((with_reducible refine pick_y _ _ ?_ _ _ ?_ ?_ ?_); rotate_left 1; (· assumption); (· first | omega | (simp only [Z2]; omega)); (· first | decide | omega)) | ((with_reducible refine one_x _ _ ?_ _ _ ?_ ?_); rotate_left 1; (· assumption); (· first | omega | (simp only [Z2]; omega))) | ((with_reducible refine among_x _ [3, 3, 5, 6] _ ?_ _ _ ?_ ?_ ?_ ?_ ?_ ?_); rotate_left 1; (· assumption); (· first | omega | (simp only [Z2]; omega)); (· exact sl_blk (l := [3, 3, 5, 6]) (get_deep4 _ _ _ _ _ _) rfl rfl); (· (simp [bid])); (· decide); (· decide)) | (with_reducible exact l1Most_ok _ _ _) | ((with_reducible refine Z2w (n := 81) ?_); rintro _ _ ⟨xp, c1, rfl, rfl, hcs, hx0, hx1⟩) | ((with_reducible refine Z2w (n := 82) ?_); rintro _ _ ⟨bo, c1, rfl, rfl, hcs⟩) | ((with_reducible refine Z2w (n := 83) ?_); rintro _ _ ⟨xa, c1, rfl, rfl, hcs, hxa⟩) | ((with_reducible refine Z2w ?_); rintro _ _ ⟨rfl, hh⟩; replace hh := hh.symm; subst hh))
    all_goals exact ⟨⟨_, _, _, _, _, _, _, _⟩, _, _, rfl, rfl, hcs.mono (by omega)⟩
end Go.Proofs.Ytiddnhhjlipebaa.Am
namespace Go.Proofs.Ytiddnhhjlipebaa.Am
open Go Go.Proofs
set_option linter.unusedVariables false
set_option linter.unusedSimpArgs false
set_option maxRecDepth 100000
set_option maxHeartbeats 8000000
theorem deskOk_nil2 (people : List Int) : deskOk 0 people [] = peopleOk people := by simp [deskOk, peopleOk]
/-- Where the parts of a drawn play lie: behind a cursor at a, b blocks, and two more. -/
def QAt (a b : Nat) (people : List Int) (Y : Heap) (vp vi vl : Value) (items : List Item) (l : List DAct) : Prop :=
  (l = [] ∧ Y = [] ∧ vp = .slice (some ⟨a + (b + 1), 0, some 0⟩) people.length people.length ∧ vi = .slice none 0 0 ∧ vl = .slice none 0 0 ∧ items = []) ∨
  (l ≠ [] ∧ ∃ j1 j2 jl, Y[j1]? = some ⟨2, 1, (ints people).flatten⟩ ∧ Y[j2]? = some ⟨2, 6, cellsL items⟩ ∧ Y[jl]? = some ⟨2, 8, (l.map DAct.cells).flatten⟩ ∧ j1 ≠ j2 ∧ j1 ≠ jl ∧ j2 ≠ jl ∧
    vp = .slice (some ⟨a + (b + (j1 + 3)), 0, some 0⟩) people.length people.length ∧ vi = .slice (some ⟨a + (b + (j2 + 3)), 0, some 0⟩) items.length items.length ∧ vl = .slice (some ⟨a + (b + (jl + 3)), 0, some 0⟩) l.length l.length)
/-- A list of acts as it is handed back. -/
def LAt (a b : Nat) (E : Heap) (vl : Value) (l : List DAct) : Prop := (l = [] ∧ vl = .slice none 0 0) ∨ (l ≠ [] ∧ ∃ j, E[j]? = some ⟨2, 8, (l.map DAct.cells).flatten⟩ ∧ vl = .slice (some ⟨a + (b + (j + 1)), 0, some 0⟩) l.length l.length)
theorem aw_forget {P : Program} {G : Glo} {N : Nat} {Q : Exit → Tmps → Heap → Prop} {c : Code} {T : Tmps} {h : Heap} (R : List Nat) (hk : ∀ T', (∀ t ∈ R, T' t = T t) → AW P G N c Q T' h) : AW P G N c Q T h := hk T fun _ _ => rfl
section
variable {h L Y : Heap} {people : List Int} {vp vi vl : Value} {items : List Item} {l : List DAct}
theorem qat_get {j : Nat} {b : Blk} (hj : Y[j]? = some b) (cb P D : Blk) (X : Heap) : (cb :: (L ++ (P :: D :: (Y ++ X))))[L.length + (j + 3)]? = some b := by
  rw [show L.length + (j + 3) = (L.length + (j + 2)) + 1 by omega, Z0, get_at]
  simp only [Z0]; exact get_old hj
theorem qat_form (hq : QAt h.length L.length people Y vp vi vl items l) : (∃ ap2 : Addr, vp = .slice (some ap2) people.length people.length) ∧ (∃ b2 : Option Addr, vi = .slice b2 items.length items.length ∧ ∀ i, bid (.slice b2 items.length items.length) = some i → i < h.length + (L.length + (Y.length + 3))) := by
  rcases hq with ⟨_, rfl, rfl, rfl, _, rfl⟩ | ⟨_, j1, j2, jl, b1, b2, _, _, _, _, rfl, rfl, _⟩
  · exact ⟨⟨_, rfl⟩, none, rfl, fun i q => by simp [bid] at q⟩
  · refine ⟨⟨_, rfl⟩, _, rfl, fun i q => ?_⟩
    have := lt_of_get b2
    simp [bid] at q; omega
theorem qat_sl1 (hq : QAt h.length L.length people Y vp vi vl items l) (cb D : Blk) (X : Heap) : Sl (h ++ cb :: (L ++ (⟨2, 1, (ints people).flatten⟩ :: D :: (Y ++ X)))) vp 1 (ints people) := by
  rcases hq with ⟨_, rfl, rfl, rfl, _, rfl⟩ | ⟨_, j1, j2, jl, b1, b2, _, _, _, _, rfl, rfl, _⟩
  · refine sl_ints (h := h) (k := L.length + 1) (Z4 _) ?_
    rw [Z0, get_at0]; rfl
  · exact sl_ints (h := h) (k := L.length + (j1 + 3)) (Z4 _) (qat_get b1 _ _ _ _)
theorem qat_sl2 (hq : QAt h.length L.length people Y vp vi vl items l) (cb P D : Blk) (X : Heap) : Sl (h ++ cb :: (L ++ (P :: D :: (Y ++ X)))) vi 6 (items.map Item.cells) := by
  rcases hq with ⟨_, rfl, rfl, rfl, _, rfl⟩ | ⟨_, j1, j2, jl, b1, b2, _, _, _, _, rfl, rfl, _⟩
  · exact sl_nilitems
  · exact sl_items (h := h) (k := L.length + (j2 + 3)) (Z4 _) (qat_get b2 _ _ _ _)
end
theorem get_elt (L Y E : Heap) (cb P D x1 x2 x3 x4 : Blk) : (cb :: (L ++ (P :: D :: (Y ++ (E ++ [x1, x2, x3, x4])))))[L.length + (Y.length + (E.length + 6))]? = some x4 := by
  rw [show L.length + (Y.length + (E.length + 6)) = (L.length + (Y.length + (E.length + 5))) + 1 by omega, Z0, get_at, show Y.length + (E.length + 5) = (Y.length + (E.length + 3)) + 1 + 1 by omega, Z0, Z0, get_at, get_at]; rfl
theorem get_tail (Y E : Heap) (xs : List Blk) (i : Nat) : (Y ++ (E ++ xs))[Y.length + (E.length + i)]? = xs[i]? := by rw [get_at, get_at]
theorem acts_snoc (l : List DAct) (a : DAct) : ((l ++ [a]).map DAct.cells).flatten = (l.map DAct.cells).flatten ++ a.cells := by simp
theorem acts_flen (l : List DAct) : (l.map DAct.cells).flatten.length = l.length * 8 := by
  rw [length_flatten_rows (w := 8) _ (fun r hr => by obtain ⟨n, _, rfl⟩ := List.mem_map.1 hr; rfl), Zv]
theorem acts_x (c : Cur) (people : List Int) (ap : Addr) (cp : Nat) (k : Nat) (h L : Heap) (hc : CS h c k) (hk : k < 400000) (hp : ∀ (b : Blk) (X : Heap), Sl (h ++ b :: (L ++ X)) (.slice (some ap) people.length cp) 1 (ints people)) (hl : people.length ≤ 1048576) :
    ACalls Try.prog 0 108 #[.pointer (some ⟨h.length, 0, none⟩), .slice (some ap) people.length cp] (h ++ c.blk :: L)
    fun v h' => ∃ (l : List DAct) (c' : Cur) (E : Heap), h' = h ++ c'.blk :: (L ++ E) ∧ CS h c' (k + 4000) ∧ l.length ≤ 61 ∧ LAt h.length L.length E v l := by
  have hp0 : Sl (h ++ c.blk :: L) (.slice (some ap) people.length cp) 1 (ints people) := by simpa using hp c.blk []
  have hdn := deskOk_nil2 people
  rcases Bool.eq_false_or_eq_true (peopleOk people) with hpk | hpk
  · have hdk := hdn.trans hpk
    clear hdn
    refine Z36 Try.func108 rfl Try.ntmps108 (by simp) (by dsimp only [Try.f108]) ?_
    repeat' (first | ((with_reducible refine eq_go ?_); simp only [stp, ev, ZB, reduceIte, Nat.reduceEqDiff, Z2x, Z13, Zy, Ze, ZH, ldv, stv, vcs, blt, lenV, Z10, Zg, Z14, Zw, Z33, Nat.reduceAdd, Nat.reduceMul, Nat.reduceLeDiff, splice, newB, Ty.t3, Ty.t5, Ty.t24, Ty.t37, Ty.t56, Ty.t58, Ty.t71, Ty.t77, Ty.t80, Ty.t103, Ty.t104, Ty.t106, newDeskV, newDeskL, *]; rfl) | (with_reducible first | refine aw_then ?_ | refine aw_skip ?_ | refine aw_ret ?_ | refine aw_exit ?_ | refine aw_block ?_ | refine xr_reg (by decide +kernel) ?_ | refine xr_nil ?_ | refine k_norm ?_ | refine k_ret ?_ | refine k_exit ?_ | refine b_norm ?_ | refine b_ret ?_ | refine b_exit ?_ | refine b_past (by decide) ?_) | (refine Ty.c46 (args := ?_) (K := ?_) ?_ ?_ ?_; rotate_left 2) | (refine Ty.c81 (args := ?_) (K := ?_) ?_ ?_ ?_; rotate_left 2) | (refine Ty.c82 (args := ?_) (K := ?_) ?_ ?_ ?_; rotate_left 2) | (refine Ty.c110 (args := ?_) (K := ?_) ?_ ?_ ?_; rotate_left 2) | (refine xr_do (v := ?_) (h' := ?_) (by exact rfl) ?_ ?_; rotate_left 2) | (refine xr_st (v := ?_) (h' := ?_) (by exact rfl) ?_ ?_; rotate_left 2) | (refine xr_g (b := ?_) (by exact rfl) ?_ ?_; rotate_left 1; (· simp only [ev, Zb, reduceIte, Nat.reduceEqDiff, Z8, Z5, *]; rfl)) | (with_reducible first | refine gw_tt ?_ | refine gw_ff ?_ | refine gw_tf ?_ | refine gw_ft ?_ | refine gw_un ?_) | refine gw_if (fun hb => ?_) (fun hb => ?_) | (refine aw_c (b := ?_) (by decide) ?_ ?_; rotate_left 1; (· simp only [ev, Zb, reduceIte, Nat.reduceEqDiff, *]; rfl)) | (with_reducible first | refine cw_t ?_ | refine cw_f ?_) | refine cw_if (fun hb => ?_) (fun hb => ?_) | (refine r_ret (vs := ?_) ?_ ?_; rotate_left 1; (· simp only [resV, ev, Zb, reduceIte, Nat.reduceEqDiff, Zj, *]; rfl)) | ((with_reducible refine specNewDesk_ok people _ _ _ ?_ ?_); (· assumption); (· first | omega | (simp only [Z2]; omega))) | ((with_reducible refine pick_y _ _ ?_ _ _ ?_ ?_ ?_); rotate_left 1; (· assumption); (· first | omega | (simp only [Z2]; omega)); (· first | decide | omega)) | ((with_reducible refine one_x _ _ ?_ _ _ ?_ ?_); rotate_left 1; (· assumption); (· first | omega | (simp only [Z2]; omega))) | ((with_reducible refine l16Step_ok _ people items _ _ _ _ _ ?_ ?_ ?_ ?_); (· exact sp_sl1 b1 _ _ _ _); (· exact sp_sl2 b2 _ _ _ _); (· assumption); (· (intro i q; simp only [bid, Option.some.injEq] at q; simp only [Z6, Z3, Z2]; omega))) | ((with_reducible refine Z2w (n := 81) ?_); rintro _ _ ⟨xp, c1, rfl, rfl, hcs, hx0, hx1⟩) | ((with_reducible refine Z2w (n := 82) ?_); rintro _ _ ⟨bo, c1, rfl, rfl, hcs⟩) | ((with_reducible refine Z2w ?_); rintro _ _ ⟨rfl, hh⟩; replace hh := hh.symm; subst hh))
    all_goals
      refine aw_forget [0, 5, 6, 7, 8] ?_
      intro T hR
      simp only [Z37, Z38, Z39, implies_true, and_true, stp, ev, ZB, reduceIte, Nat.reduceEqDiff, Z2x, Z13, Zy] at hR
      obtain ⟨n0, hn0, h8⟩ : ∃ n0 : Nat, n0 ≤ 61 ∧ T 8 = .int .i64 (n0 : Nat) := by
        first
        | exact ⟨(60 + xp).toNat, by omega, by rw [hR.2.2.2.2, wrap_id (by omega)]; congr 1; omega⟩
        | exact ⟨xp.toNat, by omega, by rw [hR.2.2.2.2]; congr 1; omega⟩
      obtain ⟨h0, h5, h6, h7, _⟩ := hR
      refine aw_loop (n := n0) (fun m T' h' => ∃ (cc : Cur) (Y : Heap) (now : Int) (items : List Item) (vp vi : Value) (l : List DAct), h' = h ++ cc.blk :: (L ++ (⟨2, 1, (ints people).flatten⟩ :: ⟨2, 1, [.int .i64 now, vp, vi]⟩ :: Y)) ∧ CS h cc (k + 6 + 60 * (61 - m)) ∧ m ≤ 61 ∧ T' 8 = .int .i64 (m : Nat) ∧
        T' 0 = .pointer (some ⟨h.length, 0, none⟩) ∧ T' 5 = .pointer (some ⟨h.length + (L.length + 2), 0, none⟩) ∧ T' 6 = .bool true ∧ QAt h.length L.length people Y vp vi (T' 7) items l ∧ deskOk now people items = true ∧ l.length + m ≤ 61)
        ⟨c1, [], 0, [], _, _, [], rfl, hcs.mono (by omega), hn0, h8, h0, h5, h6, .inl ⟨rfl, rfl, rfl, rfl, h7, rfl⟩, hdk, by simpa using hn0⟩ ?_
      clear h0 h5 h6 h7 h8 hcs hp hp0 hc
      rintro m T' h' ⟨cc, Y, now, items, vp, vi, l, rfl, hcs, hm, h8, h0, h5, h6, hq, hgk, hlm⟩
      by_cases hm0 : m = 0
      · subst hm0
        have hlt : decide ((0 : Int) < ((0 : Nat) : Int)) = false := rfl
        repeat' (first | ((with_reducible refine eq_go ?_); simp only [stp, ev, ZB, reduceIte, Nat.reduceEqDiff, Z2x, Z13, Zy, Ze, ZH, ldv, stv, vcs, blt, lenV, Z10, Zg, Z14, Zw, Z33, Nat.reduceAdd, Nat.reduceMul, Nat.reduceLeDiff, splice, newB, Ty.t3, Ty.t5, Ty.t24, Ty.t37, Ty.t56, Ty.t58, Ty.t71, Ty.t77, Ty.t80, Ty.t103, Ty.t104, Ty.t106, *]; rfl) | (with_reducible first | refine aw_then ?_ | refine aw_skip ?_ | refine aw_ret ?_ | refine aw_exit ?_ | refine aw_block ?_ | refine xr_reg (by decide +kernel) ?_ | refine xr_nil ?_ | refine k_norm ?_ | refine k_ret ?_ | refine k_exit ?_ | refine b_norm ?_ | refine b_ret ?_ | refine b_exit ?_ | refine b_past (by decide) ?_) | (refine Ty.c46 (args := ?_) (K := ?_) ?_ ?_ ?_; rotate_left 2) | (refine Ty.c81 (args := ?_) (K := ?_) ?_ ?_ ?_; rotate_left 2) | (refine Ty.c82 (args := ?_) (K := ?_) ?_ ?_ ?_; rotate_left 2) | (refine Ty.c110 (args := ?_) (K := ?_) ?_ ?_ ?_; rotate_left 2) | (refine xr_do (v := ?_) (h' := ?_) (by exact rfl) ?_ ?_; rotate_left 2) | (refine xr_st (v := ?_) (h' := ?_) (by exact rfl) ?_ ?_; rotate_left 2) | (refine xr_g (b := ?_) (by exact rfl) ?_ ?_; rotate_left 1; (· simp only [ev, Zb, reduceIte, Nat.reduceEqDiff, Z8, Z5, *]; rfl)) | (with_reducible first | refine gw_tt ?_ | refine gw_ff ?_ | refine gw_tf ?_ | refine gw_ft ?_ | refine gw_un ?_) | refine gw_if (fun hb => ?_) (fun hb => ?_) | (refine aw_c (b := ?_) (by decide) ?_ ?_; rotate_left 1; (· simp only [ev, Zb, reduceIte, Nat.reduceEqDiff, *]; rfl)) | (with_reducible first | refine cw_t ?_ | refine cw_f ?_) | refine cw_if (fun hb => ?_) (fun hb => ?_) | (refine r_ret (vs := ?_) ?_ ?_; rotate_left 1; (· simp only [resV, ev, Zb, reduceIte, Nat.reduceEqDiff, Zj, *]; rfl)) | ((with_reducible refine specNewDesk_ok people _ _ _ ?_ ?_); (· assumption); (· first | omega | (simp only [Z2]; omega))) | ((with_reducible refine pick_y _ _ ?_ _ _ ?_ ?_ ?_); rotate_left 1; (· assumption); (· first | omega | (simp only [Z2]; omega)); (· first | decide | omega)) | ((with_reducible refine one_x _ _ ?_ _ _ ?_ ?_); rotate_left 1; (· assumption); (· first | omega | (simp only [Z2]; omega))) | ((with_reducible refine l16Step_ok _ people items _ _ _ _ _ ?_ ?_ ?_ ?_); (· exact sp_sl1 b1 _ _ _ _); (· exact sp_sl2 b2 _ _ _ _); (· assumption); (· (intro i q; simp only [bid, Option.some.injEq] at q; simp only [Z6, Z3, Z2]; omega))) | ((with_reducible refine Z2w (n := 81) ?_); rintro _ _ ⟨xp, c1, rfl, rfl, hcs, hx0, hx1⟩) | ((with_reducible refine Z2w (n := 82) ?_); rintro _ _ ⟨bo, c1, rfl, rfl, hcs⟩) | ((with_reducible refine Z2w ?_); rintro _ _ ⟨rfl, hh⟩; replace hh := hh.symm; subst hh))
        refine ⟨l, cc, ⟨2, 1, (ints people).flatten⟩ :: ⟨2, 1, [.int .i64 now, vp, vi]⟩ :: Y, rfl, hcs.mono (by omega), by omega, ?_⟩
        rcases hq with ⟨q1, _, _, _, q2, _⟩ | ⟨q1, j1, j2, jl, _, _, bl, _, _, _, _, _, q2⟩
        · exact .inl ⟨q1, q2⟩
        · exact .inr ⟨q1, jl + 2, bl, q2⟩
      · have hlt : decide ((0 : Int) < (m : Int)) = true := decide_eq_true (by omega)
        have hwm : IntKind.i64.wrap ((m : Int) - 1) = ((m - 1 : Nat) : Int) := by rw [wrap_id (by omega)]; omega
        have hq1 := fun cb D X => qat_sl1 hq cb D X
        have hq2 := fun cb P D X => qat_sl2 hq cb P D X
        obtain ⟨⟨ap2, rfl⟩, b2, rfl, hvb⟩ := qat_form hq
        have hil := deskOk_items hgk
        have hbs := fun (H : Heap) (a : DAct) => bsl_agg (P := Try.prog) (h := H) (cs := a.cells) Ty.sl71 Ty.zc80 rfl rfl (by decide) rfl
        have hge := fun (cb : Blk) (a : DAct) (E : Heap) => get_elt L Y E cb ⟨2, 1, (ints people).flatten⟩ ⟨2, 1, [.int .i64 (stepNow now a), .slice (some ⟨h.length + (L.length + (Y.length + (E.length + 4))), 0, some 0⟩) people.length people.length, .slice (some ⟨h.length + (L.length + (Y.length + (E.length + 5))), 0, some 0⟩) (stepItems now people items a).length (stepItems now people items a).length]⟩ ⟨2, 1, a.cells⟩ ⟨2, 1, (ints people).flatten⟩ ⟨2, 6, cellsL (stepItems now people items a)⟩ ⟨2, 8, a.cells⟩
        rcases hq with ⟨rfl, rfl, q3, q4, h7, rfl⟩ | ⟨hln, j1, j2, jl, b1, b2', bl, n1, n2, n3, q3, q4, h7⟩
        · clear q3 q4
          have hap := fun (cb : Blk) (a : DAct) (E : Heap) => apS_nil (P := Try.prog) (H := h ++ cb :: (L ++ (⟨2, 1, (ints people).flatten⟩ :: ⟨2, 1, [.int .i64 (stepNow now a), .slice (some ⟨h.length + (L.length + (([] : Heap).length + (E.length + 4))), 0, some 0⟩) people.length people.length, .slice (some ⟨h.length + (L.length + (([] : Heap).length + (E.length + 5))), 0, some 0⟩) (stepItems now people [] a).length (stepItems now people [] a).length]⟩ :: (([] : Heap) ++ (E ++ [⟨2, 1, a.cells⟩, ⟨2, 1, (ints people).flatten⟩, ⟨2, 6, cellsL (stepItems now people [] a)⟩, ⟨2, 8, a.cells⟩]))))) (id2 := h.length + (L.length + (([] : Heap).length + (E.length + 6)))) (sp := none) (m := 1) (xs := a.cells)
            Ty.sl71 Ty.zc80 Ty.by80 (by rw [get_at]; exact hge cb a E) rfl (by decide) (by omega) (by omega)
          simp only [Z7, Zc, Zd, Z6, Z3, Z2, Zf, Zh, Nat.reduceAdd] at hap hbs hq1 hq2 hvb
          clear hge
          repeat' (first | ((with_reducible refine eq_go ?_); simp only [stp, ev, ZB, reduceIte, Nat.reduceEqDiff, Z2x, Z13, Zy, Ze, ZH, ldv, stv, vcs, blt, lenV, Z10, Zg, Z14, Zw, Z33, Nat.reduceAdd, Nat.reduceMul, Nat.reduceLeDiff, splice, newB, Ty.t3, Ty.t5, Ty.t24, Ty.t37, Ty.t56, Ty.t58, Ty.t71, Ty.t77, Ty.t80, Ty.t103, Ty.t104, Ty.t106, DAct.cells_length, DAct.cells_flat, DAct.cells_take, DAct.cells_splice, *]; rfl) | (with_reducible first | refine aw_then ?_ | refine aw_skip ?_ | refine aw_ret ?_ | refine aw_exit ?_ | refine aw_block ?_ | refine xr_reg (by decide +kernel) ?_ | refine xr_nil ?_ | refine k_norm ?_ | refine k_ret ?_ | refine k_exit ?_ | refine b_norm ?_ | refine b_ret ?_ | refine b_exit ?_ | refine b_past (by decide) ?_) | (refine Ty.c46 (args := ?_) (K := ?_) ?_ ?_ ?_; rotate_left 2) | (refine Ty.c81 (args := ?_) (K := ?_) ?_ ?_ ?_; rotate_left 2) | (refine Ty.c82 (args := ?_) (K := ?_) ?_ ?_ ?_; rotate_left 2) | (refine Ty.c110 (args := ?_) (K := ?_) ?_ ?_ ?_; rotate_left 2) | (refine Ty.c112 (args := ?_) (K := ?_) ?_ ?_ ?_; rotate_left 2) | (refine xr_do (v := ?_) (h' := ?_) (by exact rfl) ?_ ?_; rotate_left 2) | (refine xr_st (v := ?_) (h' := ?_) (by exact rfl) ?_ ?_; rotate_left 2) | (refine xr_g (b := ?_) (by exact rfl) ?_ ?_; rotate_left 1; (· simp only [ev, Zb, reduceIte, Nat.reduceEqDiff, Z8, Z5, *]; rfl)) | (with_reducible first | refine gw_tt ?_ | refine gw_ff ?_ | refine gw_tf ?_ | refine gw_ft ?_ | refine gw_un ?_) | refine gw_if (fun hb => ?_) (fun hb => ?_) | (refine aw_c (b := ?_) (by decide) ?_ ?_; rotate_left 1; (· simp only [ev, Zb, reduceIte, Nat.reduceEqDiff, *]; rfl)) | (with_reducible first | refine cw_t ?_ | refine cw_f ?_) | refine cw_if (fun hb => ?_) (fun hb => ?_) | (refine r_ret (vs := ?_) ?_ ?_; rotate_left 1; (· simp only [resV, ev, Zb, reduceIte, Nat.reduceEqDiff, Zj, *]; rfl)) | ((with_reducible refine specNewDesk_ok people _ _ _ ?_ ?_); (· assumption); (· first | omega | (simp only [Z2]; omega))) | ((with_reducible refine pick_y _ _ ?_ _ _ ?_ ?_ ?_); rotate_left 1; (· assumption); (· first | omega | (simp only [Z2]; omega)); (· first | decide | omega)) | ((with_reducible refine one_x _ _ ?_ _ _ ?_ ?_); rotate_left 1; (· assumption); (· first | omega | (simp only [Z2]; omega))) | ((with_reducible refine l16Step_ok _ people [] _ _ _ _ _ ?_ ?_ ?_ ?_); (· exact hq1 _ _ _); (· exact hq2 _ _ _ _); (· assumption); (· (intro i q; have hz := hvb i q; simp only [Z6, Z3, Z2]; omega))) | ((with_reducible refine act_x _ _ [] _ _ ?_ _ _ ?_ ?_ ?_ ?_ ?_); rotate_left 1; (· assumption); (· first | omega | (simp only [Z2]; omega)); (· (intro b X; (try simp only [Z7, Zc, Zd]); exact hq2 _ _ _ _)); (· exact rfl); (· (simp only [Z2]; omega))) | ((with_reducible refine Z2w (n := 81) ?_); rintro _ _ ⟨xp, c1, rfl, rfl, hcs, hx0, hx1⟩) | ((with_reducible refine Z2w (n := 82) ?_); rintro _ _ ⟨bo, c1, rfl, rfl, hcs⟩) | ((with_reducible refine Z2w (n := 112) ?_); rintro _ _ ⟨a, c1, E, rfl, rfl, hcs⟩) | ((with_reducible refine Z2w ?_); rintro _ _ ⟨rfl, hh⟩; replace hh := hh.symm; subst hh))
          refine ⟨m - 1, by omega, c1, ([] : Heap) ++ (E ++ [⟨2, 1, a.cells⟩, ⟨2, 1, (ints people).flatten⟩, ⟨2, 6, cellsL (stepItems now people [] a)⟩, ⟨2, 8, a.cells⟩, ⟨2, 8, a.cells⟩]), stepNow now a, stepItems now people [] a, .slice (some ⟨h.length + (L.length + (([] : Heap).length + (E.length + 4))), 0, some 0⟩) people.length people.length, .slice (some ⟨h.length + (L.length + (([] : Heap).length + (E.length + 5))), 0, some 0⟩) (stepItems now people [] a).length (stepItems now people [] a).length, [a], ?_, hcs.mono (by omega), by omega, ?_, ?_, ?_, ?_, .inr ⟨by simp, ([] : Heap).length + (E.length + 1), ([] : Heap).length + (E.length + 2), ([] : Heap).length + (E.length + 4), ?_, ?_, ?_, by omega, by omega, by omega, by simp only [Zh, Nat.reduceAdd], by simp only [Zh, Nat.reduceAdd], ?_⟩, deskOk_step hgk, by simp; omega⟩
          · simp only [Z2, Zf, Zd]
          · simp only [Zb, reduceIte, Nat.reduceEqDiff, hwm]
          · simp only [Zb, reduceIte, Nat.reduceEqDiff]; exact h0
          · simp only [Zb, reduceIte, Nat.reduceEqDiff]; exact h5
          · simp only [Zb, reduceIte, Nat.reduceEqDiff]; exact h6
          · rw [get_tail]; rfl
          · rw [get_tail]; rfl
          · rw [get_tail]; simp
          · simp only [Zb, reduceIte, Nat.reduceEqDiff, Z2, Zf, Z3, Zh, Nat.reduceAdd]
        · clear q3 q4
          have hjl := lt_of_get bl
          have hset : ∀ (b : Blk) (Z : Heap), (Y ++ Z).set jl b = Y.set jl b ++ Z := fun b Z => List.set_append_left _ _ hjl
          have hap := fun (cb : Blk) (a : DAct) (E : Heap) => apS_full (P := Try.prog) (H := h ++ cb :: (L ++ (⟨2, 1, (ints people).flatten⟩ :: ⟨2, 1, [.int .i64 (stepNow now a), .slice (some ⟨h.length + (L.length + (Y.length + (E.length + 4))), 0, some 0⟩) people.length people.length, .slice (some ⟨h.length + (L.length + (Y.length + (E.length + 5))), 0, some 0⟩) (stepItems now people items a).length (stepItems now people items a).length]⟩ :: (Y ++ (E ++ [⟨2, 1, a.cells⟩, ⟨2, 1, (ints people).flatten⟩, ⟨2, 6, cellsL (stepItems now people items a)⟩, ⟨2, 8, a.cells⟩]))))) (id1 := h.length + (L.length + (jl + 3))) (id2 := h.length + (L.length + (Y.length + (E.length + 6)))) (sp := none) (n := l.length) (m := 1) (cs := (l.map DAct.cells).flatten) (xs := a.cells)
            Ty.sl71 Ty.zc80 Ty.by80 (by rw [get_at]; exact qat_get bl _ _ _ _) (by rw [get_at]; exact hge cb a E) (acts_flen l) rfl (by decide) (by omega) (by omega)
          simp only [Z7, Zc, Zd, Z6, Z3, Z2, Zf, Zh, Nat.reduceAdd, Z1y, set_succ2, Za, hset] at hap hbs
          clear hge
          repeat' (first | ((with_reducible refine eq_go ?_); simp only [stp, ev, ZB, reduceIte, Nat.reduceEqDiff, Z2x, Z13, Zy, Ze, ZH, ldv, stv, vcs, blt, lenV, Z10, Zg, Z14, Zw, Z33, Nat.reduceAdd, Nat.reduceMul, Nat.reduceLeDiff, splice, newB, Ty.t3, Ty.t5, Ty.t24, Ty.t37, Ty.t56, Ty.t58, Ty.t71, Ty.t77, Ty.t80, Ty.t103, Ty.t104, Ty.t106, DAct.cells_length, DAct.cells_flat, DAct.cells_take, DAct.cells_splice, *]; rfl) | (with_reducible first | refine aw_then ?_ | refine aw_skip ?_ | refine aw_ret ?_ | refine aw_exit ?_ | refine aw_block ?_ | refine xr_reg (by decide +kernel) ?_ | refine xr_nil ?_ | refine k_norm ?_ | refine k_ret ?_ | refine k_exit ?_ | refine b_norm ?_ | refine b_ret ?_ | refine b_exit ?_ | refine b_past (by decide) ?_) | (refine Ty.c46 (args := ?_) (K := ?_) ?_ ?_ ?_; rotate_left 2) | (refine Ty.c81 (args := ?_) (K := ?_) ?_ ?_ ?_; rotate_left 2) | (refine Ty.c82 (args := ?_) (K := ?_) ?_ ?_ ?_; rotate_left 2) | (refine Ty.c110 (args := ?_) (K := ?_) ?_ ?_ ?_; rotate_left 2) | (refine Ty.c112 (args := ?_) (K := ?_) ?_ ?_ ?_; rotate_left 2) | (refine xr_do (v := ?_) (h' := ?_) (by exact rfl) ?_ ?_; rotate_left 2) | (refine xr_st (v := ?_) (h' := ?_) (by exact rfl) ?_ ?_; rotate_left 2) | (refine xr_g (b := ?_) (by exact rfl) ?_ ?_; rotate_left 1; (· simp only [ev, Zb, reduceIte, Nat.reduceEqDiff, Z8, Z5, *]; rfl)) | (with_reducible first | refine gw_tt ?_ | refine gw_ff ?_ | refine gw_tf ?_ | refine gw_ft ?_ | refine gw_un ?_) | refine gw_if (fun hb => ?_) (fun hb => ?_) | (refine aw_c (b := ?_) (by decide) ?_ ?_; rotate_left 1; (· simp only [ev, Zb, reduceIte, Nat.reduceEqDiff, *]; rfl)) | (with_reducible first | refine cw_t ?_ | refine cw_f ?_) | refine cw_if (fun hb => ?_) (fun hb => ?_) | (refine r_ret (vs := ?_) ?_ ?_; rotate_left 1; (· simp only [resV, ev, Zb, reduceIte, Nat.reduceEqDiff, Zj, *]; rfl)) | ((with_reducible refine specNewDesk_ok people _ _ _ ?_ ?_); (· assumption); (· first | omega | (simp only [Z2]; omega))) | ((with_reducible refine pick_y _ _ ?_ _ _ ?_ ?_ ?_); rotate_left 1; (· assumption); (· first | omega | (simp only [Z2]; omega)); (· first | decide | omega)) | ((with_reducible refine one_x _ _ ?_ _ _ ?_ ?_); rotate_left 1; (· assumption); (· first | omega | (simp only [Z2]; omega))) | ((with_reducible refine l16Step_ok _ people items _ _ _ _ _ ?_ ?_ ?_ ?_); (· exact hq1 _ _ _); (· exact hq2 _ _ _ _); (· assumption); (· (intro i q; have hz := hvb i q; simp only [Z6, Z3, Z2]; omega))) | ((with_reducible refine act_x _ _ items _ _ ?_ _ _ ?_ ?_ ?_ ?_ ?_); rotate_left 1; (· assumption); (· first | omega | (simp only [Z2]; omega)); (· (intro b X; (try simp only [Z7, Zc, Zd]); exact hq2 _ _ _ _)); (· exact rfl); (· first | omega | (simp only [Z2]; omega))) | ((with_reducible refine Z2w (n := 81) ?_); rintro _ _ ⟨xp, c1, rfl, rfl, hcs, hx0, hx1⟩) | ((with_reducible refine Z2w (n := 82) ?_); rintro _ _ ⟨bo, c1, rfl, rfl, hcs⟩) | ((with_reducible refine Z2w (n := 112) ?_); rintro _ _ ⟨a, c1, E, rfl, rfl, hcs⟩) | ((with_reducible refine Z2w ?_); rintro _ _ ⟨rfl, hh⟩; replace hh := hh.symm; subst hh))
          refine ⟨m - 1, by omega, c1, Y.set jl ⟨0, 0, []⟩ ++ (E ++ [⟨2, 1, a.cells⟩, ⟨2, 1, (ints people).flatten⟩, ⟨2, 6, cellsL (stepItems now people items a)⟩, ⟨2, 8, a.cells⟩, ⟨2, 8, (l.map DAct.cells).flatten ++ a.cells⟩]), stepNow now a, stepItems now people items a, .slice (some ⟨h.length + (L.length + (Y.length + (E.length + 4))), 0, some 0⟩) people.length people.length, .slice (some ⟨h.length + (L.length + (Y.length + (E.length + 5))), 0, some 0⟩) (stepItems now people items a).length (stepItems now people items a).length, l ++ [a], ?_, hcs.mono (by omega), by omega, ?_, ?_, ?_, ?_, .inr ⟨by simp, Y.length + (E.length + 1), Y.length + (E.length + 2), Y.length + (E.length + 4), ?_, ?_, ?_, by omega, by omega, by omega, by simp only [Zh, Nat.reduceAdd], by simp only [Zh, Nat.reduceAdd], ?_⟩, deskOk_step hgk, by simp; omega⟩
          · rfl
          · simp only [Zb, reduceIte, Nat.reduceEqDiff, hwm]
          · simp only [Zb, reduceIte, Nat.reduceEqDiff]; exact h0
          · simp only [Zb, reduceIte, Nat.reduceEqDiff]; exact h5
          · simp only [Zb, reduceIte, Nat.reduceEqDiff]; exact h6
          · rw [show Y.length = (Y.set jl ⟨0, 0, []⟩).length by simp, get_tail]; rfl
          · rw [show Y.length = (Y.set jl ⟨0, 0, []⟩).length by simp, get_tail]; rfl
          · rw [show Y.length = (Y.set jl ⟨0, 0, []⟩).length by simp, get_tail, acts_snoc]; rfl
          · simp only [Zb, reduceIte, Nat.reduceEqDiff, Z6, Z3, Z2, Zf, Zh, Nat.reduceAdd]
  · clear hdn
    refine Z36 Try.func108 rfl Try.ntmps108 (by simp) (by dsimp only [Try.f108]) ?_
    repeat' (first | ((with_reducible refine eq_go ?_); simp only [stp, ev, ZB, reduceIte, Nat.reduceEqDiff, Z2x, Z13, Zy, Ze, ZH, ldv, stv, vcs, blt, lenV, Z10, Zg, Z14, Zw, Z33, Nat.reduceAdd, Nat.reduceMul, Nat.reduceLeDiff, splice, newB, Ty.t3, Ty.t5, Ty.t24, Ty.t37, Ty.t56, Ty.t58, Ty.t71, Ty.t77, Ty.t80, Ty.t103, Ty.t104, Ty.t106, newDeskV, newDeskL, Bool.false_eq_true, if_false, *]; rfl) | (with_reducible first | refine aw_then ?_ | refine aw_skip ?_ | refine aw_ret ?_ | refine aw_exit ?_ | refine aw_block ?_ | refine xr_reg (by decide +kernel) ?_ | refine xr_nil ?_ | refine k_norm ?_ | refine k_ret ?_ | refine k_exit ?_ | refine b_norm ?_ | refine b_ret ?_ | refine b_exit ?_ | refine b_past (by decide) ?_) | (refine Ty.c46 (args := ?_) (K := ?_) ?_ ?_ ?_; rotate_left 2) | (refine Ty.c81 (args := ?_) (K := ?_) ?_ ?_ ?_; rotate_left 2) | (refine Ty.c82 (args := ?_) (K := ?_) ?_ ?_ ?_; rotate_left 2) | (refine Ty.c110 (args := ?_) (K := ?_) ?_ ?_ ?_; rotate_left 2) | (refine Ty.c112 (args := ?_) (K := ?_) ?_ ?_ ?_; rotate_left 2) | (refine xr_do (v := ?_) (h' := ?_) (by exact rfl) ?_ ?_; rotate_left 2) | (refine xr_st (v := ?_) (h' := ?_) (by exact rfl) ?_ ?_; rotate_left 2) | (refine xr_g (b := ?_) (by exact rfl) ?_ ?_; rotate_left 1; (· simp only [ev, Zb, reduceIte, Nat.reduceEqDiff, Z8, Z5, *]; rfl)) | (with_reducible first | refine gw_tt ?_ | refine gw_ff ?_ | refine gw_tf ?_ | refine gw_ft ?_ | refine gw_un ?_) | refine gw_if (fun hb => ?_) (fun hb => ?_) | (refine aw_c (b := ?_) (by decide) ?_ ?_; rotate_left 1; (· simp only [ev, Zb, reduceIte, Nat.reduceEqDiff, *]; rfl)) | (with_reducible first | refine cw_t ?_ | refine cw_f ?_) | refine cw_if (fun hb => ?_) (fun hb => ?_) | (refine r_ret (vs := ?_) ?_ ?_; rotate_left 1; (· simp only [resV, ev, Zb, reduceIte, Nat.reduceEqDiff, Zj, *]; rfl)) | ((with_reducible refine specNewDesk_ok people _ _ _ ?_ ?_); (· assumption); (· first | omega | (simp only [Z2]; omega))) | ((with_reducible refine pick_y _ _ ?_ _ _ ?_ ?_ ?_); rotate_left 1; (· assumption); (· first | omega | (simp only [Z2]; omega)); (· first | decide | omega)) | ((with_reducible refine one_x _ _ ?_ _ _ ?_ ?_); rotate_left 1; (· assumption); (· first | omega | (simp only [Z2]; omega))) | ((with_reducible refine l16Step_ok _ people items _ _ _ _ _ ?_ ?_ ?_ ?_); (· exact hq1 _ _ _); (· exact hq2 _ _ _ _); (· assumption); (· (intro i q; have hz := hvb i q; simp only [Z6, Z3, Z2]; omega))) | ((with_reducible refine act_x _ _ items _ _ ?_ _ _ ?_ ?_ ?_ ?_ ?_); rotate_left 1; (· assumption); (· first | omega | (simp only [Z2]; omega)); (· (intro b X; (try simp only [Z7, Zc, Zd]); exact hq2 _ _ _ _)); (· exact rfl); (· first | omega | (simp only [Z2]; omega))) | ((with_reducible refine Z2w (n := 81) ?_); rintro _ _ ⟨xp, c1, rfl, rfl, hcs, hx0, hx1⟩) | ((with_reducible refine Z2w (n := 82) ?_); rintro _ _ ⟨bo, c1, rfl, rfl, hcs⟩) | ((with_reducible refine Z2w (n := 112) ?_); rintro _ _ ⟨a, c1, E, rfl, rfl, hcs⟩) | ((with_reducible refine Z2w ?_); rintro _ _ ⟨rfl, hh⟩; replace hh := hh.symm; subst hh))
    all_goals
      refine aw_forget [0, 5, 6, 7, 8] ?_
      intro T hR
      simp only [Z37, Z38, Z39, implies_true, and_true, stp, ev, ZB, reduceIte, Nat.reduceEqDiff, Z2x, Z13, Zy] at hR
      obtain ⟨h0, h5, h6, h7, h8⟩ := hR
      refine aw_loop (n := 0) (fun m T' h' => h' = h ++ c1.blk :: (L ++ [⟨2, 1, [.int .i64 0, .slice none 0 0, .slice none 0 0]⟩]) ∧ T' 6 = .bool false ∧ T' 7 = .slice none 0 0) ⟨rfl, h6, h7⟩ ?_
      clear h0 h5 h6 h7 h8 hp hp0 hc
      rintro m T' h' ⟨rfl, h6, h7⟩
      repeat' (first | ((with_reducible refine eq_go ?_); simp only [stp, ev, ZB, reduceIte, Nat.reduceEqDiff, Z2x, Z13, Zy, Ze, ZH, ldv, stv, vcs, blt, lenV, Z10, Zg, Z14, Zw, Z33, Nat.reduceAdd, Nat.reduceMul, Nat.reduceLeDiff, splice, newB, Ty.t3, Ty.t5, Ty.t24, Ty.t37, Ty.t56, Ty.t58, Ty.t71, Ty.t77, Ty.t80, Ty.t103, Ty.t104, Ty.t106, *]; rfl) | (with_reducible first | refine aw_then ?_ | refine aw_skip ?_ | refine aw_ret ?_ | refine aw_exit ?_ | refine aw_block ?_ | refine xr_reg (by decide +kernel) ?_ | refine xr_nil ?_ | refine k_norm ?_ | refine k_ret ?_ | refine k_exit ?_ | refine b_norm ?_ | refine b_ret ?_ | refine b_exit ?_ | refine b_past (by decide) ?_) | (refine Ty.c46 (args := ?_) (K := ?_) ?_ ?_ ?_; rotate_left 2) | (refine Ty.c81 (args := ?_) (K := ?_) ?_ ?_ ?_; rotate_left 2) | (refine Ty.c82 (args := ?_) (K := ?_) ?_ ?_ ?_; rotate_left 2) | (refine Ty.c110 (args := ?_) (K := ?_) ?_ ?_ ?_; rotate_left 2) | (refine Ty.c112 (args := ?_) (K := ?_) ?_ ?_ ?_; rotate_left 2) | (refine xr_do (v := ?_) (h' := ?_) (by exact rfl) ?_ ?_; rotate_left 2) | (refine xr_st (v := ?_) (h' := ?_) (by exact rfl) ?_ ?_; rotate_left 2) | (refine xr_g (b := ?_) (by exact rfl) ?_ ?_; rotate_left 1; (· simp only [ev, Zb, reduceIte, Nat.reduceEqDiff, Z8, Z5, *]; rfl)) | (with_reducible first | refine gw_tt ?_ | refine gw_ff ?_ | refine gw_tf ?_ | refine gw_ft ?_ | refine gw_un ?_) | refine gw_if (fun hb => ?_) (fun hb => ?_) | (refine aw_c (b := ?_) (by decide) ?_ ?_; rotate_left 1; (· simp only [ev, Zb, reduceIte, Nat.reduceEqDiff, *]; rfl)) | (with_reducible first | refine cw_t ?_ | refine cw_f ?_) | refine cw_if (fun hb => ?_) (fun hb => ?_) | (refine r_ret (vs := ?_) ?_ ?_; rotate_left 1; (· simp only [resV, ev, Zb, reduceIte, Nat.reduceEqDiff, Zj, *]; rfl)) | ((with_reducible refine specNewDesk_ok people _ _ _ ?_ ?_); (· assumption); (· first | omega | (simp only [Z2]; omega))) | ((with_reducible refine pick_y _ _ ?_ _ _ ?_ ?_ ?_); rotate_left 1; (· assumption); (· first | omega | (simp only [Z2]; omega)); (· first | decide | omega)) | ((with_reducible refine one_x _ _ ?_ _ _ ?_ ?_); rotate_left 1; (· assumption); (· first | omega | (simp only [Z2]; omega))) | ((with_reducible refine l16Step_ok _ people items _ _ _ _ _ ?_ ?_ ?_ ?_); (· exact hq1 _ _ _); (· exact hq2 _ _ _ _); (· assumption); (· (intro i q; have hz := hvb i q; simp only [Z6, Z3, Z2]; omega))) | ((with_reducible refine act_x _ _ items _ _ ?_ _ _ ?_ ?_ ?_ ?_ ?_); rotate_left 1; (· assumption); (· first | omega | (simp only [Z2]; omega)); (· (intro b X; (try simp only [Z7, Zc, Zd]); exact hq2 _ _ _ _)); (· exact rfl); (· first | omega | (simp only [Z2]; omega))) | ((with_reducible refine Z2w (n := 81) ?_); rintro _ _ ⟨xp, c1, rfl, rfl, hcs, hx0, hx1⟩) | ((with_reducible refine Z2w (n := 82) ?_); rintro _ _ ⟨bo, c1, rfl, rfl, hcs⟩) | ((with_reducible refine Z2w (n := 112) ?_); rintro _ _ ⟨a, c1, E, rfl, rfl, hcs⟩) | ((with_reducible refine Z2w ?_); rintro _ _ ⟨rfl, hh⟩; replace hh := hh.symm; subst hh))
      exact ⟨[], c1, _, rfl, hcs.mono (by omega), by simp, .inl ⟨rfl, rfl⟩⟩
end Go.Proofs.Ytiddnhhjlipebaa.Am
