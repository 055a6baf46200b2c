/- Walk of the law about drawn groups. Conditions: none. -/
import Derived.Test.YtodpfcgjlcecmaaW35
import Derived.Test.YtodpfcgjlcecmaaW23
namespace Go.Proofs.Ytodpfcgjlcecmaa.Am
open Go Go.Proofs
set_option linter.unusedVariables false
set_option linter.unusedSimpArgs false
set_option maxRecDepth 100000
set_option maxHeartbeats 8000000

theorem Sl.old3 {h E : Heap} {v : Value} {e : Nat} {rows : List (List Value)} (hs : Sl (h ++ E) v e rows) (L : Heap) : Sl (h ++ (E ++ L)) v e rows := by
  rw [← List.append_assoc]; exact hs.old L
theorem bl_flat (l : List Bool) : (l.map fun b => [Value.bool b]).flatten = bools l := by
  induction l with
  | nil => rfl
  | cons b l ih => simp only [List.map_cons, List.flatten_cons, ih]; rfl
theorem sl_bl {h : Heap} {k c n : Nat} {sp : Option Nat} {l : List Bool} {L : Heap} (hc : n ≤ c) (hb : L[k]? = some ⟨2, 1, bools l⟩) (hn : l.length = n) : Sl (h ++ L) (.slice (some ⟨h.length + k, 0, sp⟩) n c) 1 (l.map fun b => [.bool b]) :=
  sl_at (by rw [bl_flat]; exact hb) (by intro r hr; obtain ⟨b, _, rfl⟩ := List.mem_map.1 hr; rfl) (by simp [hn]) hc
theorem sl_bl0 {h : Heap} {c n : Nat} {sp : Option Nat} {l : List Bool} {L : Heap} (hc : n ≤ c) (hb : L[0]? = some ⟨2, 1, bools l⟩) (hn : l.length = n) : Sl (h ++ L) (.slice (some ⟨h.length, 0, sp⟩) n c) 1 (l.map fun b => [.bool b]) := sl_bl (k := 0) hc hb hn
theorem sl_nil1 {h : Heap} : Sl h (.slice none 0 0) 1 (([] : List Bool).map fun b => [.bool b]) := Sl.nil h 1

theorem Sl.ext {H H' : Heap} {v : Value} {e : Nat} {rows : List (List Value)} (hs : Sl H v e rows) (h : ∃ L, H' = H ++ L) : Sl H' v e rows := by
  obtain ⟨L, rfl⟩ := h; exact hs.old L

def finG (g : Grp) (l : List Int) : Grp := if playOk g l then (playG g l).1 else .zero
def finB (g : Grp) (l : List Int) : List Bool := if playOk g l then (playG g l).2 else []
theorem finB_len (g : Grp) (l : List Int) (h : l.length ≤ 1048576) : (finB g l).length ≤ 1048576 := by
  unfold finB
  split
  · rename_i hok
    have hg : goodG g = true := by simp only [playOk, Bool.and_eq_true] at hok; exact hok.1
    have hi := (playG_inv g hg l l.length (Nat.le_refl _)).2
    rw [List.take_length] at hi; omega
  · simp
theorem play_sl (g : Grp) (l : List Int) (nn : Bool) (h : Heap) (hne : nn = true ∨ True) : ∃ vb, playV h.length g l nn = .tuple #[.agg (finG g l).cells.toArray, vb, .bool (playOk g l)] ∧ Sl (h ++ playL g l nn) vb 1 ((finB g l).map fun b => [.bool b]) := by
  rcases Bool.eq_false_or_eq_true (playOk g l) with hok | hok
  · have hg : goodG g = true := by simp only [playOk, Bool.and_eq_true] at hok; exact hok.1
    have hi := (playG_inv g hg l l.length (Nat.le_refl _)).2
    rw [List.take_length] at hi
    rcases Bool.eq_false_or_eq_true (nn && l.isEmpty) with hn | hn
    · simp only [playV, playL, finG, finB, hok, hn, if_true]
      refine ⟨_, rfl, ?_⟩
      have : (playG g l).2 = [] := by
        rw [Bool.and_eq_true, List.isEmpty_iff] at hn
        rw [hn.2]; rfl
      rw [this]; exact Sl.nil _ 1
    · simp only [playV, playL, finG, finB, hok, hn, if_true, Bool.false_eq_true, if_false]
      exact ⟨_, rfl, sl_bl0 (Nat.le_refl _) rfl hi⟩
  · simp only [playV, playL, finG, finB, hok, Bool.false_eq_true, if_false]
    exact ⟨_, rfl, Sl.nil _ 1⟩
theorem implPlay_n (g : Grp) (l : List Int) (vk : Value) (h : Heap) (hs : Sl h vk 1 (ints l)) (hl : l.length ≤ 1048576) :
    ACalls Try.prog 0 17 #[.agg g.cells.toArray, vk] h fun v h' => ∃ (vb : Value) (E : Heap) (bs : List Bool), v = .tuple #[.agg (finG g l).cells.toArray, vb, .bool (playOk g l)] ∧ h' = h ++ E ∧ bs = finB g l ∧ bs.length ≤ 1048576 ∧ Sl (h ++ E) vb 1 (bs.map fun b => [.bool b]) := by
  refine (implPlayGroup_ok g l vk h hs hl).mono ?_
  rintro v h' ⟨rfl, rfl⟩
  obtain ⟨vb, h1, h2⟩ := play_sl g l false h (.inr trivial)
  exact ⟨vb, _, _, h1, rfl, rfl, finB_len g l hl, h2⟩
theorem specPlay_n (g : Grp) (l : List Int) (vk : Value) (h : Heap) (hs : Sl h vk 1 (ints l)) (hl : l.length ≤ 1048576) :
    ACalls Try.prog 0 14 #[.agg g.cells.toArray, vk] h fun v h' => ∃ (vb : Value) (E : Heap) (bs : List Bool), v = .tuple #[.agg (finG g l).cells.toArray, vb, .bool (playOk g l)] ∧ h' = h ++ E ∧ bs = finB g l ∧ bs.length ≤ 1048576 ∧ Sl (h ++ E) vb 1 (bs.map fun b => [.bool b]) := by
  refine (specPlayGroup_ok g l vk h hs hl).mono ?_
  rintro v h' ⟨rfl, rfl⟩
  obtain ⟨vb, h1, h2⟩ := play_sl g l true h (.inr trivial)
  exact ⟨vb, _, _, h1, rfl, rfl, finB_len g l hl, h2⟩

def stpG (g : Grp) (k : Int) : Grp := if goodG g then (stepG g k).1 else .zero
theorem stepV_eq (g : Grp) (k : Int) : stepV g k = .tuple #[.agg (stpG g k).cells.toArray, .bool (goodG g && (stepG g k).2)] := by
  unfold stepV stpG
  cases goodG g <;> simp
theorem implStepW_ok (g : Grp) (k : Int) (h : Heap) : ACalls Try.prog 0 32 #[.agg g.cells.toArray, .int .i64 k] h fun v h' => v = .tuple #[.agg (stpG g k).cells.toArray, .bool (goodG g && (stepG g k).2)] ∧ h' = h := by
  rw [← stepV_eq]; exact implStepGroup_ok g k h
theorem specStepW_ok (g : Grp) (k : Int) (h : Heap) : ACalls Try.prog 0 34 #[.agg g.cells.toArray, .int .i64 k] h fun v h' => v = .tuple #[.agg (stpG g k).cells.toArray, .bool (goodG g && (stepG g k).2)] ∧ h' = h := by
  rw [← stepV_eq]; exact specStepAll_ok g k h

theorem drawPlay_e (code : List Int) (vc : Value) (h : Heap) (hsl : Sl h vc 1 (bytesR code)) (hbid : ∀ k, bid vc ≠ some (h.length + k)) (hcl : code.length ≤ 9223372036854775807) (hcw : ∀ x ∈ code, 0 ≤ x ∧ x ≤ 255) :
    ACalls Try.prog 0 25 #[vc] h fun v h' => ∃ (g : Grp) (l : List Int) (vl : Value) (E : Heap), v = .tuple #[.agg g.cells.toArray, vl] ∧ h' = h ++ E ∧ Sl (h ++ E) vl 1 (ints l) ∧ l.length ≤ 1000 ∧
      ((playOk g l = true ∧ goodG (finG g l) = true ∧ IntKind.i64.wrap ((finG g l).made - (finG g l).don) = (finG g l).made - (finG g l).don ∧
        ((overG (finG g l) = true ∧ ∀ k, (stepG (finG g l) k).2 = false) ∨ overG (finG g l) = false)) ∨ playOk g l = false) := by
  refine (drawPlay_c code vc h hsl hbid hcl hcw).mono ?_
  rintro v h' ⟨g, l, vl, E, h1, h2, h3, h4, h5⟩
  refine ⟨g, l, vl, E, h1, h2, h3, h4, ?_⟩
  rcases h5 with ⟨⟨a1, a2, a3, a4⟩, a5, _⟩ | a1
  · have e : finG g l = (playG g l).1 := by unfold finG; rw [if_pos a1]
    rw [e]; exact .inl ⟨a1, a2, a4, a5⟩
  · exact .inr a1

theorem lawFnGroup_ok (l1 l2 : List Int) (v1 v2 : Value) (h : Heap) (hs1 : Sl h v1 1 (bytesR l1)) (hs2 : Sl h v2 1 (bytesR l2)) (hb1 : ∀ b, bid v1 = some b → b < h.length) (hb2 : ∀ b, bid v2 = some b → b < h.length)
    (hl1 : l1.length ≤ 9223372036854775807) (hl2 : l2.length ≤ 9223372036854775807) (hw1 : ∀ x ∈ l1, 0 ≤ x ∧ x ≤ 255) (hw2 : ∀ x ∈ l2, 0 ≤ x ∧ x ≤ 255) :
    ACalls Try.prog 0 4 #[v1, v2] h fun v _ => v = .bool true := by
  obtain ⟨b1, c1, rfl, hc1, _⟩ := id hs1
  obtain ⟨b2, c2, rfl, hc2, _⟩ := id hs2
  have e1 : (bytesR l1).length = l1.length := List.length_map _
  have e2 : (bytesR l2).length = l2.length := List.length_map _
  rw [e1] at hs1 hb1 hc1 ⊢
  rw [e2] at hs2 hb2 hc2 ⊢
  clear e1 e2 hc1 hc2
  have hz0 : decide ((0 : Int) < 0) = false := rfl
  refine acalls_fn Try.func4 rfl Try.ntmps4 (by simp) (by dsimp only [Try.f4]) ?_
  repeat' (first
    | ((with_reducible refine eq_go ?_); simp only [stp, ev, put_some, put_none, argT_list, List.getD_cons_zero, List.getD_cons_succ, reduceIte, Nat.reduceEqDiff, Option.map_some, Array.map_empty, List.map_toArray, List.map_cons, List.map_nil, List.append_toArray, Array.append_empty, Array.empty_append, List.nil_append, List.append_nil, and_self, if_true, decide_true, decide_false, Int.toNat_natCast, Int.natCast_nonneg, List.length_map, binV_add, binV_sub, binV_and, binV_shr, binV_shl, binV_str_eql, binV_str_neq, binV_mul, binV_eql, binV_neq, binV_lss, binV_leq, binV_gtr, binV_geq, unV_not, Bool.not_true, Bool.not_false, Bool.cond_true, Bool.cond_false, binV_bool_neq, binV_bool_eql, Ty.un4, List.getElem?_toArray, List.getElem?_cons_zero, List.getElem?_cons_succ, ldv, stv, vcs, fldA, blt, lenV, List.size_toArray, List.length_cons, List.length_nil, Nat.zero_add, Array.getD_eq_getD_getElem?, List.getElem?_toArray, List.getElem?_cons_zero, List.getElem?_cons_succ, Option.getD_some, Option.isSome_some, Nat.add_assoc, List.toList_toArray, eq_self, Option.bind_some, List.append_assoc, List.cons_append, List.length_append, List.length_cons, List.length_nil, Nat.zero_add, Nat.add_zero, Nat.reduceAdd, Nat.reduceMul, Nat.reduceLeDiff, mset_some, mset_none, set_at, set_at0, killL_nil, killL_cons, getC_succ2, getC_succ3, getC_succ4, getC_succ5, getC_succ6, loadCs_succ2, loadCs_succ3, loadCs_succ4, loadCs_succ5, loadCs_succ6, setCs_succ2, setCs_succ3, setCs_succ4, setCs_succ5, setCs_succ6, getC_at, getC_at0, getC_zero, getC_succ, loadCs_at, loadCs_at0, loadCs_zero, loadCs_succ, setCs_at, setCs_at0, setCs_zero, setCs_succ, splice, List.set_cons_succ, List.set_cons_zero, List.getElem?_cons_zero, List.getElem?_cons_succ, List.drop_zero, List.drop_succ_cons, List.take_succ_cons, List.take_zero, newB, vcs, flat_int, flat_bool, flat_string, flat_slice, flat_pointer, flat_func, flat_nilFunc, List.all_cons, List.all_nil, Bool.and_true, Bool.and_self, Ty.ld3, Ty.sz3, Ty.zc3, Ty.by3, Ty.ld4, Ty.sz4, Ty.zc4, Ty.by4, Ty.ld5, Ty.sz5, Ty.zc5, Ty.by5, Ty.ld24, Ty.sz24, Ty.sl24, Ty.zc24, Ty.by24, Ty.ld25, Ty.sz25, Ty.zc25, Ty.by25, Ty.fl25_0, Ty.fl25_1, Ty.fl25_2, Ty.fl25_3, Ty.fl25_4, Ty.fl25_5, Ty.ld26, Ty.sz26, Ty.sl26, Ty.zc26, Ty.by26, Ty.ld37, Ty.sz37, Ty.sl37, Ty.zc37, Ty.by37, Grp.cells_length, Grp.cells_flat, Grp.cells_take, Grp.cells_splice, Grp.get3, Grp.get4, grp_neq, grp_eql, beq_self_eq_true, Bool.false_and, Bool.true_and, Bool.and_false, Bool.false_eq_true, if_false, if_true, Int.zero_add, Int.add_zero, *]; rfl)
    | (with_reducible refine aw_then ?_) | (with_reducible refine aw_skip ?_) | (with_reducible refine aw_ret ?_) | (with_reducible refine aw_exit ?_) | (with_reducible refine aw_block ?_) | (with_reducible refine xr_reg (by decide +kernel) ?_)
    | (with_reducible refine xr_nil ?_) | (with_reducible refine k_norm ?_) | (with_reducible refine k_ret ?_) | (with_reducible refine k_exit ?_) | (with_reducible refine b_norm ?_) | (with_reducible refine b_ret ?_) | (with_reducible refine b_exit ?_) | (with_reducible refine b_past (by decide) ?_)
    | (with_reducible refine xd_nil ?_)
    | (refine xr_cl (f := ?_) (fs := ?_) (cs := ?_) (args := ?_) (K := ?_) ?_ ?_ ?_ ?_ ?_
       rotate_left 5
       · simp only [ev]; rfl
       first
       | (· with_reducible exact Ty.ok14
          rotate_left 2
          refine hk_tag 14 ?_
          rotate_right 2)
       | (· with_reducible exact Ty.ok17
          rotate_left 2
          refine hk_tag 17 ?_
          rotate_right 2)
       | (· with_reducible exact Ty.ok24
          rotate_left 2
          refine hk_tag 24 ?_
          rotate_right 2)
       | (· with_reducible exact Ty.ok25
          rotate_left 2
          refine hk_tag 25 ?_
          rotate_right 2)
       | (· with_reducible exact Ty.ok26
          rotate_left 2
          refine hk_tag 26 ?_
          rotate_right 2)
       | (· with_reducible exact Ty.ok27
          rotate_left 2
          refine hk_tag 27 ?_
          rotate_right 2)
       | (· with_reducible exact Ty.ok28
          rotate_left 2
          refine hk_tag 28 ?_
          rotate_right 2)
       | (· with_reducible exact Ty.ok29
          rotate_left 2
          refine hk_tag 29 ?_
          rotate_right 2)
       | (· with_reducible exact Ty.ok30
          rotate_left 2
          refine hk_tag 30 ?_
          rotate_right 2)
       | (· with_reducible exact Ty.ok31
          rotate_left 2
          refine hk_tag 31 ?_
          rotate_right 2)
       | (· with_reducible exact Ty.ok32
          rotate_left 2
          refine hk_tag 32 ?_
          rotate_right 2)
       | (· with_reducible exact Ty.ok33
          rotate_left 2
          refine hk_tag 33 ?_
          rotate_right 2)
       | (· with_reducible exact Ty.ok34
          rotate_left 2
          refine hk_tag 34 ?_
          rotate_right 2)
       | (· with_reducible exact Ty.ok35
          rotate_left 2
          refine hk_tag 35 ?_
          rotate_right 2)
       | (· with_reducible exact Ty.ok36
          rotate_left 2
          refine hk_tag 36 ?_
          rotate_right 2)
       | (· with_reducible exact Ty.ok37
          rotate_left 2
          refine hk_tag 37 ?_
          rotate_right 2)
       )
    | (refine xr_gcl (f := ?_) (fs := ?_) (cs := ?_) (args := ?_) (K := ?_) (by exact rfl) ?_ ?_ ?_ ?_ ?_ ?_
       rotate_left 5
       · simp only [ev, put_some, reduceIte, Nat.reduceEqDiff, Bool.not_true, Bool.not_false, *]
       · simp only [ev]; rfl
       first
       | (· with_reducible exact Ty.ok14
          rotate_left 2
          refine hk_tag 14 ?_
          rotate_right 2)
       | (· with_reducible exact Ty.ok17
          rotate_left 2
          refine hk_tag 17 ?_
          rotate_right 2)
       | (· with_reducible exact Ty.ok24
          rotate_left 2
          refine hk_tag 24 ?_
          rotate_right 2)
       | (· with_reducible exact Ty.ok25
          rotate_left 2
          refine hk_tag 25 ?_
          rotate_right 2)
       | (· with_reducible exact Ty.ok26
          rotate_left 2
          refine hk_tag 26 ?_
          rotate_right 2)
       | (· with_reducible exact Ty.ok27
          rotate_left 2
          refine hk_tag 27 ?_
          rotate_right 2)
       | (· with_reducible exact Ty.ok28
          rotate_left 2
          refine hk_tag 28 ?_
          rotate_right 2)
       | (· with_reducible exact Ty.ok29
          rotate_left 2
          refine hk_tag 29 ?_
          rotate_right 2)
       | (· with_reducible exact Ty.ok30
          rotate_left 2
          refine hk_tag 30 ?_
          rotate_right 2)
       | (· with_reducible exact Ty.ok31
          rotate_left 2
          refine hk_tag 31 ?_
          rotate_right 2)
       | (· with_reducible exact Ty.ok32
          rotate_left 2
          refine hk_tag 32 ?_
          rotate_right 2)
       | (· with_reducible exact Ty.ok33
          rotate_left 2
          refine hk_tag 33 ?_
          rotate_right 2)
       | (· with_reducible exact Ty.ok34
          rotate_left 2
          refine hk_tag 34 ?_
          rotate_right 2)
       | (· with_reducible exact Ty.ok35
          rotate_left 2
          refine hk_tag 35 ?_
          rotate_right 2)
       | (· with_reducible exact Ty.ok36
          rotate_left 2
          refine hk_tag 36 ?_
          rotate_right 2)
       | (· with_reducible exact Ty.ok37
          rotate_left 2
          refine hk_tag 37 ?_
          rotate_right 2)
       )
    | (refine xd_cl (f := ?_) (fs := ?_) (cs := ?_) (args := ?_) (v := ?_) ?_ ?_ ?_ ?_ ?_ ?_
       rotate_left 5
       · simp only [ev]; rfl
       · first | with_reducible exact Ty.ok14 | with_reducible exact Ty.ok17 | with_reducible exact Ty.ok24 | with_reducible exact Ty.ok25 | with_reducible exact Ty.ok26 | with_reducible exact Ty.ok27 | with_reducible exact Ty.ok28 | with_reducible exact Ty.ok29 | with_reducible exact Ty.ok30 | with_reducible exact Ty.ok31 | with_reducible exact Ty.ok32 | with_reducible exact Ty.ok33 | with_reducible exact Ty.ok34 | with_reducible exact Ty.ok35 | with_reducible exact Ty.ok36 | with_reducible exact Ty.ok37
       rotate_left 1
       · decide +kernel
       rotate_right 1)
    | (refine xd_gcl (f := ?_) (fs := ?_) (cs := ?_) (args := ?_) (v := ?_) (by exact rfl) ?_ ?_ ?_ ?_ ?_ ?_ ?_
       rotate_left 5
       · simp only [ev, put_some, reduceIte, Nat.reduceEqDiff, Bool.not_true, Bool.not_false, *]
       · simp only [ev]; rfl
       · first | with_reducible exact Ty.ok14 | with_reducible exact Ty.ok17 | with_reducible exact Ty.ok24 | with_reducible exact Ty.ok25 | with_reducible exact Ty.ok26 | with_reducible exact Ty.ok27 | with_reducible exact Ty.ok28 | with_reducible exact Ty.ok29 | with_reducible exact Ty.ok30 | with_reducible exact Ty.ok31 | with_reducible exact Ty.ok32 | with_reducible exact Ty.ok33 | with_reducible exact Ty.ok34 | with_reducible exact Ty.ok35 | with_reducible exact Ty.ok36 | with_reducible exact Ty.ok37
       rotate_left 1
       · decide +kernel
       rotate_right 1)
    | (refine xr_do (v := ?_) (h' := ?_) (by exact rfl) ?_ ?_; rotate_left 2)
    | (refine xr_st (v := ?_) (h' := ?_) (by exact rfl) ?_ ?_; rotate_left 2)
    | (refine xd_reg (ms := [0, 0, 3, 7, 15, 15, 63, 127, 255, 511, 511, 2047, 4095, 8191, 16383, 32767, 65535, 32767, 262143, 524287, 1048575]) Ty.mx (by decide +kernel) (by decide +kernel) ?_)
    | (refine xd_do (v := ?_) (by exact rfl) (by decide +kernel) ?_ ?_; rotate_left 1)
    | (refine xd_gdo (v := ?_) (by exact rfl) (by decide +kernel) (by exact rfl) ?_ ?_ ?_
       rotate_left 1
       · simp only [ev, put_some, reduceIte, Nat.reduceEqDiff, Bool.not_true, Bool.not_false, *])
    | (refine xd_goff (by exact rfl) ?_ ?_
       · simp only [ev, put_some, reduceIte, Nat.reduceEqDiff, Bool.not_true, Bool.not_false, *])
    | (refine xd_gund (by exact rfl) ?_ ?_
       · simp only [ev, put_some, reduceIte, Nat.reduceEqDiff, Bool.not_true, Bool.not_false, *])
    | (refine xd_gif (b := ?_) (by exact rfl) ?_ (fun hb => ?_) (fun hb => ?_)
       rotate_left 1
       · simp only [ev, put_some, reduceIte, Nat.reduceEqDiff, Bool.not_true, Bool.not_false, *]; rfl)
    | (refine xr_gdo (v := ?_) (h' := ?_) (by exact rfl) (by exact rfl) ?_ ?_ ?_
       rotate_left 2
       · simp only [ev, put_some, reduceIte, Nat.reduceEqDiff, Bool.not_true, Bool.not_false, *])
    | (refine xr_gst (v := ?_) (h' := ?_) (by exact rfl) (by exact rfl) ?_ ?_ ?_
       rotate_left 2
       · simp only [ev, put_some, reduceIte, Nat.reduceEqDiff, Bool.not_true, Bool.not_false, *])
    | (refine xr_goff (by exact rfl) ?_ ?_
       · simp only [ev, put_some, reduceIte, Nat.reduceEqDiff, Bool.not_true, Bool.not_false, *])
    | (refine xr_gsoff (by exact rfl) ?_ ?_
       · simp only [ev, put_some, reduceIte, Nat.reduceEqDiff, Bool.not_true, Bool.not_false, *])
    | (refine xr_gund (by exact rfl) ?_ ?_
       · simp only [ev, put_some, reduceIte, Nat.reduceEqDiff, Bool.not_true, Bool.not_false, *])
    | (refine xr_gsund (by exact rfl) ?_ ?_
       · simp only [ev, put_some, reduceIte, Nat.reduceEqDiff, Bool.not_true, Bool.not_false, *])
    | (refine xr_gif (b := ?_) (by exact rfl) ?_ (fun hb => ?_) (fun hb => ?_)
       rotate_left 1
       · simp only [ev, put_some, reduceIte, Nat.reduceEqDiff, Bool.not_true, Bool.not_false, *]; rfl)
    | (refine aw_ift (by decide) ?_ ?_
       · simp only [ev, put_some, reduceIte, Nat.reduceEqDiff, *])
    | (refine aw_iff (by decide) ?_ ?_
       · simp only [ev, put_some, reduceIte, Nat.reduceEqDiff, *])
    | (refine aw_if (b := ?_) (by decide) ?_ (fun hb => ?_) (fun hb => ?_)
       rotate_left 1
       · simp only [ev, put_some, reduceIte, Nat.reduceEqDiff, *]; rfl)
    | (refine r_ret (vs := ?_) ?_ ?_
       rotate_left 1
       · simp only [resV, ev, put_some, reduceIte, Nat.reduceEqDiff, Option.map_some, *]; rfl)
    | (with_reducible refine specPlay_n _ l _ _ ?_ ?_
       · first | exact Sl.old hsl1 _ | exact Sl.old3 hsl1 _
       · first | omega | (simp only [List.length_nil]; omega)
       )
    | (with_reducible refine implPlay_n _ l _ _ ?_ ?_
       · first | exact Sl.old hsl1 _ | exact Sl.old3 hsl1 _
       · first | omega | (simp only [List.length_nil]; omega)
       )
    | (with_reducible refine big_ok _ _ _ _ _ _ _ ?_ ?_
       · assumption
       · assumption
       )
    | (with_reducible refine drawPlay_e l1 _ _ ?_ ?_ ?_ ?_
       · first | assumption | exact hs1.old _
       · (intro k hq; have hz := hb1 _ hq; (try (simp only [List.length_append, List.length_cons] at hz)); omega)
       · assumption
       · assumption
       )
    | (with_reducible refine sameBools_ok bs1 bs2 _ _ _ ?_ ?_ ?_ ?_
       · (refine Sl.ext hsb1 ⟨?_, ?_⟩; rotate_left 1; simp only [List.append_assoc, List.cons_append, List.nil_append]; rfl)
       · (refine Sl.ext hsb2 ⟨?_, ?_⟩; rotate_left 1; simp only [List.append_assoc, List.cons_append, List.nil_append]; rfl)
       · first | omega | (simp only [List.length_nil]; omega)
       · first | omega | (simp only [List.length_nil]; omega)
       )
    | (with_reducible exact implGoodGroup_ok _ _)
    | (with_reducible exact specGoodGroup_ok _ _)
    | (with_reducible exact isOver_ok _ _)
    | (with_reducible exact leftIn_ok _ _)
    | (with_reducible exact drawnFrom_ok _ _)
    | (with_reducible exact implStepW_ok _ _ _)
    | (with_reducible refine drawStep_c l2 _ _ ?_ ?_ ?_ ?_
       · first | assumption | exact hs2.old _
       · (intro k hq; have hz := hb2 _ hq; (try (simp only [List.length_append, List.length_cons] at hz)); omega)
       · assumption
       · assumption
       )
    | (with_reducible exact specStepW_ok _ _ _)
    | (with_reducible refine drawLeftIn_ok l2 _ _ ?_ ?_ ?_ ?_
       · first | assumption | exact hs2.old _
       · (intro k hq; have hz := hb2 _ hq; (try (simp only [List.length_append, List.length_cons] at hz)); omega)
       · assumption
       · assumption
       )
    | (with_reducible exact specLeftIn_ok _ _)
    | (with_reducible exact specDrawnFrom_ok _ _)
    | ((with_reducible refine HkTag.mk (n := 14) ?_); rintro _ _ ⟨vb2, F2, bs2, rfl, rfl, hbs2, hlen2, hsb2⟩)
    | ((with_reducible refine HkTag.mk (n := 17) ?_); rintro _ _ ⟨vb1, F1, bs1, rfl, rfl, hbs1, hlen1, hsb1⟩)
    | ((with_reducible refine HkTag.mk (n := 24) ?_); rintro _ _ ⟨rfl, hh⟩; replace hh := hh.symm; subst hh)
    | ((with_reducible refine HkTag.mk (n := 25) ?_); rintro _ _ ⟨g, l, vl, E1, rfl, rfl, hsl1, hll, ⟨hok, hgx, hwx, ⟨hov, hst⟩ | hov⟩ | hok⟩)
    | ((with_reducible refine HkTag.mk (n := 26) ?_); rintro _ _ ⟨rfl, hh⟩; replace hh := hh.symm; subst hh)
    | ((with_reducible refine HkTag.mk (n := 27) ?_); rintro _ _ ⟨rfl, hh⟩; replace hh := hh.symm; subst hh)
    | ((with_reducible refine HkTag.mk (n := 28) ?_); rintro _ _ ⟨rfl, hh⟩; replace hh := hh.symm; subst hh)
    | ((with_reducible refine HkTag.mk (n := 29) ?_); rintro _ _ ⟨rfl, hh⟩; replace hh := hh.symm; subst hh)
    | ((with_reducible refine HkTag.mk (n := 30) ?_); rintro _ _ ⟨rfl, hh⟩; replace hh := hh.symm; subst hh)
    | ((with_reducible refine HkTag.mk (n := 31) ?_); rintro _ _ ⟨rfl, hh⟩; replace hh := hh.symm; subst hh)
    | ((with_reducible refine HkTag.mk (n := 32) ?_); rintro _ _ ⟨rfl, hh⟩; replace hh := hh.symm; subst hh)
    | ((with_reducible refine HkTag.mk (n := 33) ?_); rintro _ _ ⟨u, kk, E2, rfl, rfl, hgu⟩)
    | ((with_reducible refine HkTag.mk (n := 34) ?_); rintro _ _ ⟨rfl, hh⟩; replace hh := hh.symm; subst hh)
    | ((with_reducible refine HkTag.mk (n := 35) ?_); rintro _ _ ⟨w, E3, rfl, rfl⟩)
    | ((with_reducible refine HkTag.mk (n := 36) ?_); rintro _ _ ⟨rfl, hh⟩; replace hh := hh.symm; subst hh)
    | ((with_reducible refine HkTag.mk (n := 37) ?_); rintro _ _ ⟨rfl, hh⟩; replace hh := hh.symm; subst hh)
    )
  · rfl
  · refine aw_grow [1, 7, 13] (fun k T => T 19 = .int .i64 (k : Nat)) 5 rfl ?_
    rintro k T L hk hR h19
    simp only [List.forall_mem_cons, List.not_mem_nil, false_implies, implies_true, and_true, stp, ev, put_some, put_none, argT_list, List.getD_cons_zero, List.getD_cons_succ, reduceIte, Nat.reduceEqDiff, Option.map_some, Array.map_empty, List.map_toArray, List.map_cons, List.map_nil, List.append_toArray, Array.append_empty, Array.empty_append, List.nil_append, List.append_nil, and_self, if_true, decide_true, decide_false, Int.toNat_natCast, Int.natCast_nonneg, List.length_map, binV_add, binV_sub, binV_and, binV_shr, binV_shl, binV_str_eql, binV_str_neq, binV_mul, binV_eql, binV_neq, binV_lss, binV_leq, binV_gtr, binV_geq, unV_not, Bool.not_true, Bool.not_false, Bool.cond_true, Bool.cond_false] at hR
    rcases Nat.lt_or_ge k 5 with hkn | hkn
    · have hk1 : (k : Int) ≤ 4 := by omega
      have hw19 : IntKind.i64.wrap ((k : Int) + 1) = ((k + 1 : Nat) : Int) := by rw [wrap_id (by omega)]; omega
      rw [List.append_assoc]
      repeat' (first
        | ((with_reducible refine eq_go ?_); simp only [stp, ev, put_some, put_none, argT_list, List.getD_cons_zero, List.getD_cons_succ, reduceIte, Nat.reduceEqDiff, Option.map_some, Array.map_empty, List.map_toArray, List.map_cons, List.map_nil, List.append_toArray, Array.append_empty, Array.empty_append, List.nil_append, List.append_nil, and_self, if_true, decide_true, decide_false, Int.toNat_natCast, Int.natCast_nonneg, List.length_map, binV_add, binV_sub, binV_and, binV_shr, binV_shl, binV_str_eql, binV_str_neq, binV_mul, binV_eql, binV_neq, binV_lss, binV_leq, binV_gtr, binV_geq, unV_not, Bool.not_true, Bool.not_false, Bool.cond_true, Bool.cond_false, binV_bool_neq, binV_bool_eql, Ty.un4, List.getElem?_toArray, List.getElem?_cons_zero, List.getElem?_cons_succ, ldv, stv, vcs, fldA, blt, lenV, List.size_toArray, List.length_cons, List.length_nil, Nat.zero_add, Array.getD_eq_getD_getElem?, List.getElem?_toArray, List.getElem?_cons_zero, List.getElem?_cons_succ, Option.getD_some, Option.isSome_some, Nat.add_assoc, List.toList_toArray, eq_self, Option.bind_some, List.append_assoc, List.cons_append, List.length_append, List.length_cons, List.length_nil, Nat.zero_add, Nat.add_zero, Nat.reduceAdd, Nat.reduceMul, Nat.reduceLeDiff, mset_some, mset_none, set_at, set_at0, killL_nil, killL_cons, getC_succ2, getC_succ3, getC_succ4, getC_succ5, getC_succ6, loadCs_succ2, loadCs_succ3, loadCs_succ4, loadCs_succ5, loadCs_succ6, setCs_succ2, setCs_succ3, setCs_succ4, setCs_succ5, setCs_succ6, getC_at, getC_at0, getC_zero, getC_succ, loadCs_at, loadCs_at0, loadCs_zero, loadCs_succ, setCs_at, setCs_at0, setCs_zero, setCs_succ, splice, List.set_cons_succ, List.set_cons_zero, List.getElem?_cons_zero, List.getElem?_cons_succ, List.drop_zero, List.drop_succ_cons, List.take_succ_cons, List.take_zero, newB, vcs, flat_int, flat_bool, flat_string, flat_slice, flat_pointer, flat_func, flat_nilFunc, List.all_cons, List.all_nil, Bool.and_true, Bool.and_self, Ty.ld3, Ty.sz3, Ty.zc3, Ty.by3, Ty.ld4, Ty.sz4, Ty.zc4, Ty.by4, Ty.ld5, Ty.sz5, Ty.zc5, Ty.by5, Ty.ld24, Ty.sz24, Ty.sl24, Ty.zc24, Ty.by24, Ty.ld25, Ty.sz25, Ty.zc25, Ty.by25, Ty.fl25_0, Ty.fl25_1, Ty.fl25_2, Ty.fl25_3, Ty.fl25_4, Ty.fl25_5, Ty.ld26, Ty.sz26, Ty.sl26, Ty.zc26, Ty.by26, Ty.ld37, Ty.sz37, Ty.sl37, Ty.zc37, Ty.by37, Grp.cells_length, Grp.cells_flat, Grp.cells_take, Grp.cells_splice, Grp.get3, Grp.get4, grp_neq, grp_eql, beq_self_eq_true, Bool.false_and, Bool.true_and, Bool.and_false, Bool.false_eq_true, if_false, if_true, Int.zero_add, Int.add_zero, *]; rfl)
        | (with_reducible refine aw_then ?_) | (with_reducible refine aw_skip ?_) | (with_reducible refine aw_ret ?_) | (with_reducible refine aw_exit ?_) | (with_reducible refine aw_block ?_) | (with_reducible refine xr_reg (by decide +kernel) ?_)
        | (with_reducible refine xr_nil ?_) | (with_reducible refine k_norm ?_) | (with_reducible refine k_ret ?_) | (with_reducible refine k_exit ?_) | (with_reducible refine b_norm ?_) | (with_reducible refine b_ret ?_) | (with_reducible refine b_exit ?_) | (with_reducible refine b_past (by decide) ?_)
        | (with_reducible refine xd_nil ?_)
        | (refine xr_cl (f := ?_) (fs := ?_) (cs := ?_) (args := ?_) (K := ?_) ?_ ?_ ?_ ?_ ?_
           rotate_left 5
           · simp only [ev]; rfl
           first
           | (· with_reducible exact Ty.ok14
              rotate_left 2
              refine hk_tag 14 ?_
              rotate_right 2)
           | (· with_reducible exact Ty.ok17
              rotate_left 2
              refine hk_tag 17 ?_
              rotate_right 2)
           | (· with_reducible exact Ty.ok24
              rotate_left 2
              refine hk_tag 24 ?_
              rotate_right 2)
           | (· with_reducible exact Ty.ok25
              rotate_left 2
              refine hk_tag 25 ?_
              rotate_right 2)
           | (· with_reducible exact Ty.ok26
              rotate_left 2
              refine hk_tag 26 ?_
              rotate_right 2)
           | (· with_reducible exact Ty.ok27
              rotate_left 2
              refine hk_tag 27 ?_
              rotate_right 2)
           | (· with_reducible exact Ty.ok28
              rotate_left 2
              refine hk_tag 28 ?_
              rotate_right 2)
           | (· with_reducible exact Ty.ok29
              rotate_left 2
              refine hk_tag 29 ?_
              rotate_right 2)
           | (· with_reducible exact Ty.ok30
              rotate_left 2
              refine hk_tag 30 ?_
              rotate_right 2)
           | (· with_reducible exact Ty.ok31
              rotate_left 2
              refine hk_tag 31 ?_
              rotate_right 2)
           | (· with_reducible exact Ty.ok32
              rotate_left 2
              refine hk_tag 32 ?_
              rotate_right 2)
           | (· with_reducible exact Ty.ok33
              rotate_left 2
              refine hk_tag 33 ?_
              rotate_right 2)
           | (· with_reducible exact Ty.ok34
              rotate_left 2
              refine hk_tag 34 ?_
              rotate_right 2)
           | (· with_reducible exact Ty.ok35
              rotate_left 2
              refine hk_tag 35 ?_
              rotate_right 2)
           | (· with_reducible exact Ty.ok36
              rotate_left 2
              refine hk_tag 36 ?_
              rotate_right 2)
           | (· with_reducible exact Ty.ok37
              rotate_left 2
              refine hk_tag 37 ?_
              rotate_right 2)
           )
        | (refine xr_gcl (f := ?_) (fs := ?_) (cs := ?_) (args := ?_) (K := ?_) (by exact rfl) ?_ ?_ ?_ ?_ ?_ ?_
           rotate_left 5
           · simp only [ev, put_some, reduceIte, Nat.reduceEqDiff, Bool.not_true, Bool.not_false, *]
           · simp only [ev]; rfl
           first
           | (· with_reducible exact Ty.ok14
              rotate_left 2
              refine hk_tag 14 ?_
              rotate_right 2)
           | (· with_reducible exact Ty.ok17
              rotate_left 2
              refine hk_tag 17 ?_
              rotate_right 2)
           | (· with_reducible exact Ty.ok24
              rotate_left 2
              refine hk_tag 24 ?_
              rotate_right 2)
           | (· with_reducible exact Ty.ok25
              rotate_left 2
              refine hk_tag 25 ?_
              rotate_right 2)
           | (· with_reducible exact Ty.ok26
              rotate_left 2
              refine hk_tag 26 ?_
              rotate_right 2)
           | (· with_reducible exact Ty.ok27
              rotate_left 2
              refine hk_tag 27 ?_
              rotate_right 2)
           | (· with_reducible exact Ty.ok28
              rotate_left 2
              refine hk_tag 28 ?_
              rotate_right 2)
           | (· with_reducible exact Ty.ok29
              rotate_left 2
              refine hk_tag 29 ?_
              rotate_right 2)
           | (· with_reducible exact Ty.ok30
              rotate_left 2
              refine hk_tag 30 ?_
              rotate_right 2)
           | (· with_reducible exact Ty.ok31
              rotate_left 2
              refine hk_tag 31 ?_
              rotate_right 2)
           | (· with_reducible exact Ty.ok32
              rotate_left 2
              refine hk_tag 32 ?_
              rotate_right 2)
           | (· with_reducible exact Ty.ok33
              rotate_left 2
              refine hk_tag 33 ?_
              rotate_right 2)
           | (· with_reducible exact Ty.ok34
              rotate_left 2
              refine hk_tag 34 ?_
              rotate_right 2)
           | (· with_reducible exact Ty.ok35
              rotate_left 2
              refine hk_tag 35 ?_
              rotate_right 2)
           | (· with_reducible exact Ty.ok36
              rotate_left 2
              refine hk_tag 36 ?_
              rotate_right 2)
           | (· with_reducible exact Ty.ok37
              rotate_left 2
              refine hk_tag 37 ?_
              rotate_right 2)
           )
        | (refine xd_cl (f := ?_) (fs := ?_) (cs := ?_) (args := ?_) (v := ?_) ?_ ?_ ?_ ?_ ?_ ?_
           rotate_left 5
           · simp only [ev]; rfl
           · first | with_reducible exact Ty.ok14 | with_reducible exact Ty.ok17 | with_reducible exact Ty.ok24 | with_reducible exact Ty.ok25 | with_reducible exact Ty.ok26 | with_reducible exact Ty.ok27 | with_reducible exact Ty.ok28 | with_reducible exact Ty.ok29 | with_reducible exact Ty.ok30 | with_reducible exact Ty.ok31 | with_reducible exact Ty.ok32 | with_reducible exact Ty.ok33 | with_reducible exact Ty.ok34 | with_reducible exact Ty.ok35 | with_reducible exact Ty.ok36 | with_reducible exact Ty.ok37
           rotate_left 1
           · decide +kernel
           rotate_right 1)
        | (refine xd_gcl (f := ?_) (fs := ?_) (cs := ?_) (args := ?_) (v := ?_) (by exact rfl) ?_ ?_ ?_ ?_ ?_ ?_ ?_
           rotate_left 5
           · simp only [ev, put_some, reduceIte, Nat.reduceEqDiff, Bool.not_true, Bool.not_false, *]
           · simp only [ev]; rfl
           · first | with_reducible exact Ty.ok14 | with_reducible exact Ty.ok17 | with_reducible exact Ty.ok24 | with_reducible exact Ty.ok25 | with_reducible exact Ty.ok26 | with_reducible exact Ty.ok27 | with_reducible exact Ty.ok28 | with_reducible exact Ty.ok29 | with_reducible exact Ty.ok30 | with_reducible exact Ty.ok31 | with_reducible exact Ty.ok32 | with_reducible exact Ty.ok33 | with_reducible exact Ty.ok34 | with_reducible exact Ty.ok35 | with_reducible exact Ty.ok36 | with_reducible exact Ty.ok37
           rotate_left 1
           · decide +kernel
           rotate_right 1)
        | (refine xr_do (v := ?_) (h' := ?_) (by exact rfl) ?_ ?_; rotate_left 2)
        | (refine xr_st (v := ?_) (h' := ?_) (by exact rfl) ?_ ?_; rotate_left 2)
        | (refine xd_reg (ms := [0, 0, 3, 7, 15, 15, 63, 127, 255, 511, 511, 2047, 4095, 8191, 16383, 32767, 65535, 32767, 262143, 524287, 1048575]) Ty.mx (by decide +kernel) (by decide +kernel) ?_)
        | (refine xd_do (v := ?_) (by exact rfl) (by decide +kernel) ?_ ?_; rotate_left 1)
        | (refine xd_gdo (v := ?_) (by exact rfl) (by decide +kernel) (by exact rfl) ?_ ?_ ?_
           rotate_left 1
           · simp only [ev, put_some, reduceIte, Nat.reduceEqDiff, Bool.not_true, Bool.not_false, *])
        | (refine xd_goff (by exact rfl) ?_ ?_
           · simp only [ev, put_some, reduceIte, Nat.reduceEqDiff, Bool.not_true, Bool.not_false, *])
        | (refine xd_gund (by exact rfl) ?_ ?_
           · simp only [ev, put_some, reduceIte, Nat.reduceEqDiff, Bool.not_true, Bool.not_false, *])
        | (refine xd_gif (b := ?_) (by exact rfl) ?_ (fun hb => ?_) (fun hb => ?_)
           rotate_left 1
           · simp only [ev, put_some, reduceIte, Nat.reduceEqDiff, Bool.not_true, Bool.not_false, *]; rfl)
        | (refine xr_gdo (v := ?_) (h' := ?_) (by exact rfl) (by exact rfl) ?_ ?_ ?_
           rotate_left 2
           · simp only [ev, put_some, reduceIte, Nat.reduceEqDiff, Bool.not_true, Bool.not_false, *])
        | (refine xr_gst (v := ?_) (h' := ?_) (by exact rfl) (by exact rfl) ?_ ?_ ?_
           rotate_left 2
           · simp only [ev, put_some, reduceIte, Nat.reduceEqDiff, Bool.not_true, Bool.not_false, *])
        | (refine xr_goff (by exact rfl) ?_ ?_
           · simp only [ev, put_some, reduceIte, Nat.reduceEqDiff, Bool.not_true, Bool.not_false, *])
        | (refine xr_gsoff (by exact rfl) ?_ ?_
           · simp only [ev, put_some, reduceIte, Nat.reduceEqDiff, Bool.not_true, Bool.not_false, *])
        | (refine xr_gund (by exact rfl) ?_ ?_
           · simp only [ev, put_some, reduceIte, Nat.reduceEqDiff, Bool.not_true, Bool.not_false, *])
        | (refine xr_gsund (by exact rfl) ?_ ?_
           · simp only [ev, put_some, reduceIte, Nat.reduceEqDiff, Bool.not_true, Bool.not_false, *])
        | (refine xr_gif (b := ?_) (by exact rfl) ?_ (fun hb => ?_) (fun hb => ?_)
           rotate_left 1
           · simp only [ev, put_some, reduceIte, Nat.reduceEqDiff, Bool.not_true, Bool.not_false, *]; rfl)
        | (refine aw_ift (by decide) ?_ ?_
           · simp only [ev, put_some, reduceIte, Nat.reduceEqDiff, *])
        | (refine aw_iff (by decide) ?_ ?_
           · simp only [ev, put_some, reduceIte, Nat.reduceEqDiff, *])
        | (refine aw_if (b := ?_) (by decide) ?_ (fun hb => ?_) (fun hb => ?_)
           rotate_left 1
           · simp only [ev, put_some, reduceIte, Nat.reduceEqDiff, *]; rfl)
        | (refine r_ret (vs := ?_) ?_ ?_
           rotate_left 1
           · simp only [resV, ev, put_some, reduceIte, Nat.reduceEqDiff, Option.map_some, *]; rfl)
        | (with_reducible refine specPlay_n _ l _ _ ?_ ?_
           · first | exact Sl.old hsl1 _ | exact Sl.old3 hsl1 _
           · first | omega | (simp only [List.length_nil]; omega)
           )
        | (with_reducible refine implPlay_n _ l _ _ ?_ ?_
           · first | exact Sl.old hsl1 _ | exact Sl.old3 hsl1 _
           · first | omega | (simp only [List.length_nil]; omega)
           )
        | (with_reducible refine big_ok _ _ _ _ _ _ _ ?_ ?_
           · assumption
           · assumption
           )
        | (with_reducible refine drawPlay_e l1 _ _ ?_ ?_ ?_ ?_
           · first | assumption | exact hs1.old _
           · (intro k hq; have hz := hb1 _ hq; (try (simp only [List.length_append, List.length_cons] at hz)); omega)
           · assumption
           · assumption
           )
        | (with_reducible refine sameBools_ok bs1 bs2 _ _ _ ?_ ?_ ?_ ?_
           · (refine Sl.ext hsb1 ⟨?_, ?_⟩; rotate_left 1; simp only [List.append_assoc, List.cons_append, List.nil_append]; rfl)
           · (refine Sl.ext hsb2 ⟨?_, ?_⟩; rotate_left 1; simp only [List.append_assoc, List.cons_append, List.nil_append]; rfl)
           · first | omega | (simp only [List.length_nil]; omega)
           · first | omega | (simp only [List.length_nil]; omega)
           )
        | (with_reducible exact implGoodGroup_ok _ _)
        | (with_reducible exact specGoodGroup_ok _ _)
        | (with_reducible exact isOver_ok _ _)
        | (with_reducible exact leftIn_ok _ _)
        | (with_reducible exact drawnFrom_ok _ _)
        | (with_reducible exact implStepW_ok _ _ _)
        | (with_reducible refine drawStep_c l2 _ _ ?_ ?_ ?_ ?_
           · first | assumption | exact hs2.old _
           · (intro k hq; have hz := hb2 _ hq; (try (simp only [List.length_append, List.length_cons] at hz)); omega)
           · assumption
           · assumption
           )
        | (with_reducible exact specStepW_ok _ _ _)
        | (with_reducible refine drawLeftIn_ok l2 _ _ ?_ ?_ ?_ ?_
           · first | assumption | exact hs2.old _
           · (intro k hq; have hz := hb2 _ hq; (try (simp only [List.length_append, List.length_cons] at hz)); omega)
           · assumption
           · assumption
           )
        | (with_reducible exact specLeftIn_ok _ _)
        | (with_reducible exact specDrawnFrom_ok _ _)
        | ((with_reducible refine HkTag.mk (n := 14) ?_); rintro _ _ ⟨vb2, F2, bs2, rfl, rfl, hbs2, hlen2, hsb2⟩)
        | ((with_reducible refine HkTag.mk (n := 17) ?_); rintro _ _ ⟨vb1, F1, bs1, rfl, rfl, hbs1, hlen1, hsb1⟩)
        | ((with_reducible refine HkTag.mk (n := 24) ?_); rintro _ _ ⟨rfl, hh⟩; replace hh := hh.symm; subst hh)
        | ((with_reducible refine HkTag.mk (n := 25) ?_); rintro _ _ ⟨g, l, vl, E1, rfl, rfl, hsl1, hll, ⟨hok, hgx, hwx, ⟨hov, hst⟩ | hov⟩ | hok⟩)
        | ((with_reducible refine HkTag.mk (n := 26) ?_); rintro _ _ ⟨rfl, hh⟩; replace hh := hh.symm; subst hh)
        | ((with_reducible refine HkTag.mk (n := 27) ?_); rintro _ _ ⟨rfl, hh⟩; replace hh := hh.symm; subst hh)
        | ((with_reducible refine HkTag.mk (n := 28) ?_); rintro _ _ ⟨rfl, hh⟩; replace hh := hh.symm; subst hh)
        | ((with_reducible refine HkTag.mk (n := 29) ?_); rintro _ _ ⟨rfl, hh⟩; replace hh := hh.symm; subst hh)
        | ((with_reducible refine HkTag.mk (n := 30) ?_); rintro _ _ ⟨rfl, hh⟩; replace hh := hh.symm; subst hh)
        | ((with_reducible refine HkTag.mk (n := 31) ?_); rintro _ _ ⟨rfl, hh⟩; replace hh := hh.symm; subst hh)
        | ((with_reducible refine HkTag.mk (n := 32) ?_); rintro _ _ ⟨rfl, hh⟩; replace hh := hh.symm; subst hh)
        | ((with_reducible refine HkTag.mk (n := 33) ?_); rintro _ _ ⟨u, kk, E2, rfl, rfl, hgu⟩)
        | ((with_reducible refine HkTag.mk (n := 34) ?_); rintro _ _ ⟨rfl, hh⟩; replace hh := hh.symm; subst hh)
        | ((with_reducible refine HkTag.mk (n := 35) ?_); rintro _ _ ⟨w, E3, rfl, rfl⟩)
        | ((with_reducible refine HkTag.mk (n := 36) ?_); rintro _ _ ⟨rfl, hh⟩; replace hh := hh.symm; subst hh)
        | ((with_reducible refine HkTag.mk (n := 37) ?_); rintro _ _ ⟨rfl, hh⟩; replace hh := hh.symm; subst hh)
        )
      refine ⟨by first | assumption | omega, ?_, ?_⟩
      · simp only [List.forall_mem_cons, List.not_mem_nil, false_implies, implies_true, and_true, and_self, stp, ev, put_some, put_none, argT_list, List.getD_cons_zero, List.getD_cons_succ, reduceIte, Nat.reduceEqDiff, Option.map_some, Array.map_empty, List.map_toArray, List.map_cons, List.map_nil, List.append_toArray, Array.append_empty, Array.empty_append, List.nil_append, List.append_nil, and_self, if_true, decide_true, decide_false, Int.toNat_natCast, Int.natCast_nonneg, List.length_map, binV_add, binV_sub, binV_and, binV_shr, binV_shl, binV_str_eql, binV_str_neq, binV_mul, binV_eql, binV_neq, binV_lss, binV_leq, binV_gtr, binV_geq, unV_not, Bool.not_true, Bool.not_false, Bool.cond_true, Bool.cond_false, *]
      refine ⟨⟨_, by simp only [List.append_assoc, List.cons_append, List.nil_append]; rfl⟩, ?_⟩
      simp only [put_some, reduceIte, Nat.reduceEqDiff]
    · have hk1 : ¬ (k : Int) ≤ 4 := by omega
      rw [List.append_assoc]
      repeat' (first
        | ((with_reducible refine eq_go ?_); simp only [stp, ev, put_some, put_none, argT_list, List.getD_cons_zero, List.getD_cons_succ, reduceIte, Nat.reduceEqDiff, Option.map_some, Array.map_empty, List.map_toArray, List.map_cons, List.map_nil, List.append_toArray, Array.append_empty, Array.empty_append, List.nil_append, List.append_nil, and_self, if_true, decide_true, decide_false, Int.toNat_natCast, Int.natCast_nonneg, List.length_map, binV_add, binV_sub, binV_and, binV_shr, binV_shl, binV_str_eql, binV_str_neq, binV_mul, binV_eql, binV_neq, binV_lss, binV_leq, binV_gtr, binV_geq, unV_not, Bool.not_true, Bool.not_false, Bool.cond_true, Bool.cond_false, binV_bool_neq, binV_bool_eql, Ty.un4, List.getElem?_toArray, List.getElem?_cons_zero, List.getElem?_cons_succ, ldv, stv, vcs, fldA, blt, lenV, List.size_toArray, List.length_cons, List.length_nil, Nat.zero_add, Array.getD_eq_getD_getElem?, List.getElem?_toArray, List.getElem?_cons_zero, List.getElem?_cons_succ, Option.getD_some, Option.isSome_some, Nat.add_assoc, List.toList_toArray, eq_self, Option.bind_some, List.append_assoc, List.cons_append, List.length_append, List.length_cons, List.length_nil, Nat.zero_add, Nat.add_zero, Nat.reduceAdd, Nat.reduceMul, Nat.reduceLeDiff, mset_some, mset_none, set_at, set_at0, killL_nil, killL_cons, getC_succ2, getC_succ3, getC_succ4, getC_succ5, getC_succ6, loadCs_succ2, loadCs_succ3, loadCs_succ4, loadCs_succ5, loadCs_succ6, setCs_succ2, setCs_succ3, setCs_succ4, setCs_succ5, setCs_succ6, getC_at, getC_at0, getC_zero, getC_succ, loadCs_at, loadCs_at0, loadCs_zero, loadCs_succ, setCs_at, setCs_at0, setCs_zero, setCs_succ, splice, List.set_cons_succ, List.set_cons_zero, List.getElem?_cons_zero, List.getElem?_cons_succ, List.drop_zero, List.drop_succ_cons, List.take_succ_cons, List.take_zero, newB, vcs, flat_int, flat_bool, flat_string, flat_slice, flat_pointer, flat_func, flat_nilFunc, List.all_cons, List.all_nil, Bool.and_true, Bool.and_self, Ty.ld3, Ty.sz3, Ty.zc3, Ty.by3, Ty.ld4, Ty.sz4, Ty.zc4, Ty.by4, Ty.ld5, Ty.sz5, Ty.zc5, Ty.by5, Ty.ld24, Ty.sz24, Ty.sl24, Ty.zc24, Ty.by24, Ty.ld25, Ty.sz25, Ty.zc25, Ty.by25, Ty.fl25_0, Ty.fl25_1, Ty.fl25_2, Ty.fl25_3, Ty.fl25_4, Ty.fl25_5, Ty.ld26, Ty.sz26, Ty.sl26, Ty.zc26, Ty.by26, Ty.ld37, Ty.sz37, Ty.sl37, Ty.zc37, Ty.by37, Grp.cells_length, Grp.cells_flat, Grp.cells_take, Grp.cells_splice, Grp.get3, Grp.get4, grp_neq, grp_eql, beq_self_eq_true, Bool.false_and, Bool.true_and, Bool.and_false, Bool.false_eq_true, if_false, if_true, Int.zero_add, Int.add_zero, *]; rfl)
        | (with_reducible refine aw_then ?_) | (with_reducible refine aw_skip ?_) | (with_reducible refine aw_ret ?_) | (with_reducible refine aw_exit ?_) | (with_reducible refine aw_block ?_) | (with_reducible refine xr_reg (by decide +kernel) ?_)
        | (with_reducible refine xr_nil ?_) | (with_reducible refine k_norm ?_) | (with_reducible refine k_ret ?_) | (with_reducible refine k_exit ?_) | (with_reducible refine b_norm ?_) | (with_reducible refine b_ret ?_) | (with_reducible refine b_exit ?_) | (with_reducible refine b_past (by decide) ?_)
        | (with_reducible refine xd_nil ?_)
        | (refine xr_cl (f := ?_) (fs := ?_) (cs := ?_) (args := ?_) (K := ?_) ?_ ?_ ?_ ?_ ?_
           rotate_left 5
           · simp only [ev]; rfl
           first
           | (· with_reducible exact Ty.ok14
              rotate_left 2
              refine hk_tag 14 ?_
              rotate_right 2)
           | (· with_reducible exact Ty.ok17
              rotate_left 2
              refine hk_tag 17 ?_
              rotate_right 2)
           | (· with_reducible exact Ty.ok24
              rotate_left 2
              refine hk_tag 24 ?_
              rotate_right 2)
           | (· with_reducible exact Ty.ok25
              rotate_left 2
              refine hk_tag 25 ?_
              rotate_right 2)
           | (· with_reducible exact Ty.ok26
              rotate_left 2
              refine hk_tag 26 ?_
              rotate_right 2)
           | (· with_reducible exact Ty.ok27
              rotate_left 2
              refine hk_tag 27 ?_
              rotate_right 2)
           | (· with_reducible exact Ty.ok28
              rotate_left 2
              refine hk_tag 28 ?_
              rotate_right 2)
           | (· with_reducible exact Ty.ok29
              rotate_left 2
              refine hk_tag 29 ?_
              rotate_right 2)
           | (· with_reducible exact Ty.ok30
              rotate_left 2
              refine hk_tag 30 ?_
              rotate_right 2)
           | (· with_reducible exact Ty.ok31
              rotate_left 2
              refine hk_tag 31 ?_
              rotate_right 2)
           | (· with_reducible exact Ty.ok32
              rotate_left 2
              refine hk_tag 32 ?_
              rotate_right 2)
           | (· with_reducible exact Ty.ok33
              rotate_left 2
              refine hk_tag 33 ?_
              rotate_right 2)
           | (· with_reducible exact Ty.ok34
              rotate_left 2
              refine hk_tag 34 ?_
              rotate_right 2)
           | (· with_reducible exact Ty.ok35
              rotate_left 2
              refine hk_tag 35 ?_
              rotate_right 2)
           | (· with_reducible exact Ty.ok36
              rotate_left 2
              refine hk_tag 36 ?_
              rotate_right 2)
           | (· with_reducible exact Ty.ok37
              rotate_left 2
              refine hk_tag 37 ?_
              rotate_right 2)
           )
        | (refine xr_gcl (f := ?_) (fs := ?_) (cs := ?_) (args := ?_) (K := ?_) (by exact rfl) ?_ ?_ ?_ ?_ ?_ ?_
           rotate_left 5
           · simp only [ev, put_some, reduceIte, Nat.reduceEqDiff, Bool.not_true, Bool.not_false, *]
           · simp only [ev]; rfl
           first
           | (· with_reducible exact Ty.ok14
              rotate_left 2
              refine hk_tag 14 ?_
              rotate_right 2)
           | (· with_reducible exact Ty.ok17
              rotate_left 2
              refine hk_tag 17 ?_
              rotate_right 2)
           | (· with_reducible exact Ty.ok24
              rotate_left 2
              refine hk_tag 24 ?_
              rotate_right 2)
           | (· with_reducible exact Ty.ok25
              rotate_left 2
              refine hk_tag 25 ?_
              rotate_right 2)
           | (· with_reducible exact Ty.ok26
              rotate_left 2
              refine hk_tag 26 ?_
              rotate_right 2)
           | (· with_reducible exact Ty.ok27
              rotate_left 2
              refine hk_tag 27 ?_
              rotate_right 2)
           | (· with_reducible exact Ty.ok28
              rotate_left 2
              refine hk_tag 28 ?_
              rotate_right 2)
           | (· with_reducible exact Ty.ok29
              rotate_left 2
              refine hk_tag 29 ?_
              rotate_right 2)
           | (· with_reducible exact Ty.ok30
              rotate_left 2
              refine hk_tag 30 ?_
              rotate_right 2)
           | (· with_reducible exact Ty.ok31
              rotate_left 2
              refine hk_tag 31 ?_
              rotate_right 2)
           | (· with_reducible exact Ty.ok32
              rotate_left 2
              refine hk_tag 32 ?_
              rotate_right 2)
           | (· with_reducible exact Ty.ok33
              rotate_left 2
              refine hk_tag 33 ?_
              rotate_right 2)
           | (· with_reducible exact Ty.ok34
              rotate_left 2
              refine hk_tag 34 ?_
              rotate_right 2)
           | (· with_reducible exact Ty.ok35
              rotate_left 2
              refine hk_tag 35 ?_
              rotate_right 2)
           | (· with_reducible exact Ty.ok36
              rotate_left 2
              refine hk_tag 36 ?_
              rotate_right 2)
           | (· with_reducible exact Ty.ok37
              rotate_left 2
              refine hk_tag 37 ?_
              rotate_right 2)
           )
        | (refine xd_cl (f := ?_) (fs := ?_) (cs := ?_) (args := ?_) (v := ?_) ?_ ?_ ?_ ?_ ?_ ?_
           rotate_left 5
           · simp only [ev]; rfl
           · first | with_reducible exact Ty.ok14 | with_reducible exact Ty.ok17 | with_reducible exact Ty.ok24 | with_reducible exact Ty.ok25 | with_reducible exact Ty.ok26 | with_reducible exact Ty.ok27 | with_reducible exact Ty.ok28 | with_reducible exact Ty.ok29 | with_reducible exact Ty.ok30 | with_reducible exact Ty.ok31 | with_reducible exact Ty.ok32 | with_reducible exact Ty.ok33 | with_reducible exact Ty.ok34 | with_reducible exact Ty.ok35 | with_reducible exact Ty.ok36 | with_reducible exact Ty.ok37
           rotate_left 1
           · decide +kernel
           rotate_right 1)
        | (refine xd_gcl (f := ?_) (fs := ?_) (cs := ?_) (args := ?_) (v := ?_) (by exact rfl) ?_ ?_ ?_ ?_ ?_ ?_ ?_
           rotate_left 5
           · simp only [ev, put_some, reduceIte, Nat.reduceEqDiff, Bool.not_true, Bool.not_false, *]
           · simp only [ev]; rfl
           · first | with_reducible exact Ty.ok14 | with_reducible exact Ty.ok17 | with_reducible exact Ty.ok24 | with_reducible exact Ty.ok25 | with_reducible exact Ty.ok26 | with_reducible exact Ty.ok27 | with_reducible exact Ty.ok28 | with_reducible exact Ty.ok29 | with_reducible exact Ty.ok30 | with_reducible exact Ty.ok31 | with_reducible exact Ty.ok32 | with_reducible exact Ty.ok33 | with_reducible exact Ty.ok34 | with_reducible exact Ty.ok35 | with_reducible exact Ty.ok36 | with_reducible exact Ty.ok37
           rotate_left 1
           · decide +kernel
           rotate_right 1)
        | (refine xr_do (v := ?_) (h' := ?_) (by exact rfl) ?_ ?_; rotate_left 2)
        | (refine xr_st (v := ?_) (h' := ?_) (by exact rfl) ?_ ?_; rotate_left 2)
        | (refine xd_reg (ms := [0, 0, 3, 7, 15, 15, 63, 127, 255, 511, 511, 2047, 4095, 8191, 16383, 32767, 65535, 32767, 262143, 524287, 1048575]) Ty.mx (by decide +kernel) (by decide +kernel) ?_)
        | (refine xd_do (v := ?_) (by exact rfl) (by decide +kernel) ?_ ?_; rotate_left 1)
        | (refine xd_gdo (v := ?_) (by exact rfl) (by decide +kernel) (by exact rfl) ?_ ?_ ?_
           rotate_left 1
           · simp only [ev, put_some, reduceIte, Nat.reduceEqDiff, Bool.not_true, Bool.not_false, *])
        | (refine xd_goff (by exact rfl) ?_ ?_
           · simp only [ev, put_some, reduceIte, Nat.reduceEqDiff, Bool.not_true, Bool.not_false, *])
        | (refine xd_gund (by exact rfl) ?_ ?_
           · simp only [ev, put_some, reduceIte, Nat.reduceEqDiff, Bool.not_true, Bool.not_false, *])
        | (refine xd_gif (b := ?_) (by exact rfl) ?_ (fun hb => ?_) (fun hb => ?_)
           rotate_left 1
           · simp only [ev, put_some, reduceIte, Nat.reduceEqDiff, Bool.not_true, Bool.not_false, *]; rfl)
        | (refine xr_gdo (v := ?_) (h' := ?_) (by exact rfl) (by exact rfl) ?_ ?_ ?_
           rotate_left 2
           · simp only [ev, put_some, reduceIte, Nat.reduceEqDiff, Bool.not_true, Bool.not_false, *])
        | (refine xr_gst (v := ?_) (h' := ?_) (by exact rfl) (by exact rfl) ?_ ?_ ?_
           rotate_left 2
           · simp only [ev, put_some, reduceIte, Nat.reduceEqDiff, Bool.not_true, Bool.not_false, *])
        | (refine xr_goff (by exact rfl) ?_ ?_
           · simp only [ev, put_some, reduceIte, Nat.reduceEqDiff, Bool.not_true, Bool.not_false, *])
        | (refine xr_gsoff (by exact rfl) ?_ ?_
           · simp only [ev, put_some, reduceIte, Nat.reduceEqDiff, Bool.not_true, Bool.not_false, *])
        | (refine xr_gund (by exact rfl) ?_ ?_
           · simp only [ev, put_some, reduceIte, Nat.reduceEqDiff, Bool.not_true, Bool.not_false, *])
        | (refine xr_gsund (by exact rfl) ?_ ?_
           · simp only [ev, put_some, reduceIte, Nat.reduceEqDiff, Bool.not_true, Bool.not_false, *])
        | (refine xr_gif (b := ?_) (by exact rfl) ?_ (fun hb => ?_) (fun hb => ?_)
           rotate_left 1
           · simp only [ev, put_some, reduceIte, Nat.reduceEqDiff, Bool.not_true, Bool.not_false, *]; rfl)
        | (refine aw_ift (by decide) ?_ ?_
           · simp only [ev, put_some, reduceIte, Nat.reduceEqDiff, *])
        | (refine aw_iff (by decide) ?_ ?_
           · simp only [ev, put_some, reduceIte, Nat.reduceEqDiff, *])
        | (refine aw_if (b := ?_) (by decide) ?_ (fun hb => ?_) (fun hb => ?_)
           rotate_left 1
           · simp only [ev, put_some, reduceIte, Nat.reduceEqDiff, *]; rfl)
        | (refine r_ret (vs := ?_) ?_ ?_
           rotate_left 1
           · simp only [resV, ev, put_some, reduceIte, Nat.reduceEqDiff, Option.map_some, *]; rfl)
        | (with_reducible refine specPlay_n _ l _ _ ?_ ?_
           · first | exact Sl.old hsl1 _ | exact Sl.old3 hsl1 _
           · first | omega | (simp only [List.length_nil]; omega)
           )
        | (with_reducible refine implPlay_n _ l _ _ ?_ ?_
           · first | exact Sl.old hsl1 _ | exact Sl.old3 hsl1 _
           · first | omega | (simp only [List.length_nil]; omega)
           )
        | (with_reducible refine big_ok _ _ _ _ _ _ _ ?_ ?_
           · assumption
           · assumption
           )
        | (with_reducible refine drawPlay_e l1 _ _ ?_ ?_ ?_ ?_
           · first | assumption | exact hs1.old _
           · (intro k hq; have hz := hb1 _ hq; (try (simp only [List.length_append, List.length_cons] at hz)); omega)
           · assumption
           · assumption
           )
        | (with_reducible refine sameBools_ok bs1 bs2 _ _ _ ?_ ?_ ?_ ?_
           · (refine Sl.ext hsb1 ⟨?_, ?_⟩; rotate_left 1; simp only [List.append_assoc, List.cons_append, List.nil_append]; rfl)
           · (refine Sl.ext hsb2 ⟨?_, ?_⟩; rotate_left 1; simp only [List.append_assoc, List.cons_append, List.nil_append]; rfl)
           · first | omega | (simp only [List.length_nil]; omega)
           · first | omega | (simp only [List.length_nil]; omega)
           )
        | (with_reducible exact implGoodGroup_ok _ _)
        | (with_reducible exact specGoodGroup_ok _ _)
        | (with_reducible exact isOver_ok _ _)
        | (with_reducible exact leftIn_ok _ _)
        | (with_reducible exact drawnFrom_ok _ _)
        | (with_reducible exact implStepW_ok _ _ _)
        | (with_reducible refine drawStep_c l2 _ _ ?_ ?_ ?_ ?_
           · first | assumption | exact hs2.old _
           · (intro k hq; have hz := hb2 _ hq; (try (simp only [List.length_append, List.length_cons] at hz)); omega)
           · assumption
           · assumption
           )
        | (with_reducible exact specStepW_ok _ _ _)
        | (with_reducible refine drawLeftIn_ok l2 _ _ ?_ ?_ ?_ ?_
           · first | assumption | exact hs2.old _
           · (intro k hq; have hz := hb2 _ hq; (try (simp only [List.length_append, List.length_cons] at hz)); omega)
           · assumption
           · assumption
           )
        | (with_reducible exact specLeftIn_ok _ _)
        | (with_reducible exact specDrawnFrom_ok _ _)
        | ((with_reducible refine HkTag.mk (n := 14) ?_); rintro _ _ ⟨vb2, F2, bs2, rfl, rfl, hbs2, hlen2, hsb2⟩)
        | ((with_reducible refine HkTag.mk (n := 17) ?_); rintro _ _ ⟨vb1, F1, bs1, rfl, rfl, hbs1, hlen1, hsb1⟩)
        | ((with_reducible refine HkTag.mk (n := 24) ?_); rintro _ _ ⟨rfl, hh⟩; replace hh := hh.symm; subst hh)
        | ((with_reducible refine HkTag.mk (n := 25) ?_); rintro _ _ ⟨g, l, vl, E1, rfl, rfl, hsl1, hll, ⟨hok, hgx, hwx, ⟨hov, hst⟩ | hov⟩ | hok⟩)
        | ((with_reducible refine HkTag.mk (n := 26) ?_); rintro _ _ ⟨rfl, hh⟩; replace hh := hh.symm; subst hh)
        | ((with_reducible refine HkTag.mk (n := 27) ?_); rintro _ _ ⟨rfl, hh⟩; replace hh := hh.symm; subst hh)
        | ((with_reducible refine HkTag.mk (n := 28) ?_); rintro _ _ ⟨rfl, hh⟩; replace hh := hh.symm; subst hh)
        | ((with_reducible refine HkTag.mk (n := 29) ?_); rintro _ _ ⟨rfl, hh⟩; replace hh := hh.symm; subst hh)
        | ((with_reducible refine HkTag.mk (n := 30) ?_); rintro _ _ ⟨rfl, hh⟩; replace hh := hh.symm; subst hh)
        | ((with_reducible refine HkTag.mk (n := 31) ?_); rintro _ _ ⟨rfl, hh⟩; replace hh := hh.symm; subst hh)
        | ((with_reducible refine HkTag.mk (n := 32) ?_); rintro _ _ ⟨rfl, hh⟩; replace hh := hh.symm; subst hh)
        | ((with_reducible refine HkTag.mk (n := 33) ?_); rintro _ _ ⟨u, kk, E2, rfl, rfl, hgu⟩)
        | ((with_reducible refine HkTag.mk (n := 34) ?_); rintro _ _ ⟨rfl, hh⟩; replace hh := hh.symm; subst hh)
        | ((with_reducible refine HkTag.mk (n := 35) ?_); rintro _ _ ⟨w, E3, rfl, rfl⟩)
        | ((with_reducible refine HkTag.mk (n := 36) ?_); rintro _ _ ⟨rfl, hh⟩; replace hh := hh.symm; subst hh)
        | ((with_reducible refine HkTag.mk (n := 37) ?_); rintro _ _ ⟨rfl, hh⟩; replace hh := hh.symm; subst hh)
        )
      rfl
  · refine aw_grow [1, 7, 13] (fun k T => T 19 = .int .i64 (k : Nat)) 5 rfl ?_
    rintro k T L hk hR h19
    simp only [List.forall_mem_cons, List.not_mem_nil, false_implies, implies_true, and_true, stp, ev, put_some, put_none, argT_list, List.getD_cons_zero, List.getD_cons_succ, reduceIte, Nat.reduceEqDiff, Option.map_some, Array.map_empty, List.map_toArray, List.map_cons, List.map_nil, List.append_toArray, Array.append_empty, Array.empty_append, List.nil_append, List.append_nil, and_self, if_true, decide_true, decide_false, Int.toNat_natCast, Int.natCast_nonneg, List.length_map, binV_add, binV_sub, binV_and, binV_shr, binV_shl, binV_str_eql, binV_str_neq, binV_mul, binV_eql, binV_neq, binV_lss, binV_leq, binV_gtr, binV_geq, unV_not, Bool.not_true, Bool.not_false, Bool.cond_true, Bool.cond_false] at hR
    rcases Nat.lt_or_ge k 5 with hkn | hkn
    · have hk1 : (k : Int) ≤ 4 := by omega
      have hw19 : IntKind.i64.wrap ((k : Int) + 1) = ((k + 1 : Nat) : Int) := by rw [wrap_id (by omega)]; omega
      rw [List.append_assoc]
      repeat' (first
        | ((with_reducible refine eq_go ?_); simp only [stp, ev, put_some, put_none, argT_list, List.getD_cons_zero, List.getD_cons_succ, reduceIte, Nat.reduceEqDiff, Option.map_some, Array.map_empty, List.map_toArray, List.map_cons, List.map_nil, List.append_toArray, Array.append_empty, Array.empty_append, List.nil_append, List.append_nil, and_self, if_true, decide_true, decide_false, Int.toNat_natCast, Int.natCast_nonneg, List.length_map, binV_add, binV_sub, binV_and, binV_shr, binV_shl, binV_str_eql, binV_str_neq, binV_mul, binV_eql, binV_neq, binV_lss, binV_leq, binV_gtr, binV_geq, unV_not, Bool.not_true, Bool.not_false, Bool.cond_true, Bool.cond_false, binV_bool_neq, binV_bool_eql, Ty.un4, List.getElem?_toArray, List.getElem?_cons_zero, List.getElem?_cons_succ, ldv, stv, vcs, fldA, blt, lenV, List.size_toArray, List.length_cons, List.length_nil, Nat.zero_add, Array.getD_eq_getD_getElem?, List.getElem?_toArray, List.getElem?_cons_zero, List.getElem?_cons_succ, Option.getD_some, Option.isSome_some, Nat.add_assoc, List.toList_toArray, eq_self, Option.bind_some, List.append_assoc, List.cons_append, List.length_append, List.length_cons, List.length_nil, Nat.zero_add, Nat.add_zero, Nat.reduceAdd, Nat.reduceMul, Nat.reduceLeDiff, mset_some, mset_none, set_at, set_at0, killL_nil, killL_cons, getC_succ2, getC_succ3, getC_succ4, getC_succ5, getC_succ6, loadCs_succ2, loadCs_succ3, loadCs_succ4, loadCs_succ5, loadCs_succ6, setCs_succ2, setCs_succ3, setCs_succ4, setCs_succ5, setCs_succ6, getC_at, getC_at0, getC_zero, getC_succ, loadCs_at, loadCs_at0, loadCs_zero, loadCs_succ, setCs_at, setCs_at0, setCs_zero, setCs_succ, splice, List.set_cons_succ, List.set_cons_zero, List.getElem?_cons_zero, List.getElem?_cons_succ, List.drop_zero, List.drop_succ_cons, List.take_succ_cons, List.take_zero, newB, vcs, flat_int, flat_bool, flat_string, flat_slice, flat_pointer, flat_func, flat_nilFunc, List.all_cons, List.all_nil, Bool.and_true, Bool.and_self, Ty.ld3, Ty.sz3, Ty.zc3, Ty.by3, Ty.ld4, Ty.sz4, Ty.zc4, Ty.by4, Ty.ld5, Ty.sz5, Ty.zc5, Ty.by5, Ty.ld24, Ty.sz24, Ty.sl24, Ty.zc24, Ty.by24, Ty.ld25, Ty.sz25, Ty.zc25, Ty.by25, Ty.fl25_0, Ty.fl25_1, Ty.fl25_2, Ty.fl25_3, Ty.fl25_4, Ty.fl25_5, Ty.ld26, Ty.sz26, Ty.sl26, Ty.zc26, Ty.by26, Ty.ld37, Ty.sz37, Ty.sl37, Ty.zc37, Ty.by37, Grp.cells_length, Grp.cells_flat, Grp.cells_take, Grp.cells_splice, Grp.get3, Grp.get4, grp_neq, grp_eql, beq_self_eq_true, Bool.false_and, Bool.true_and, Bool.and_false, Bool.false_eq_true, if_false, if_true, Int.zero_add, Int.add_zero, *]; rfl)
        | (with_reducible refine aw_then ?_) | (with_reducible refine aw_skip ?_) | (with_reducible refine aw_ret ?_) | (with_reducible refine aw_exit ?_) | (with_reducible refine aw_block ?_) | (with_reducible refine xr_reg (by decide +kernel) ?_)
        | (with_reducible refine xr_nil ?_) | (with_reducible refine k_norm ?_) | (with_reducible refine k_ret ?_) | (with_reducible refine k_exit ?_) | (with_reducible refine b_norm ?_) | (with_reducible refine b_ret ?_) | (with_reducible refine b_exit ?_) | (with_reducible refine b_past (by decide) ?_)
        | (with_reducible refine xd_nil ?_)
        | (refine xr_cl (f := ?_) (fs := ?_) (cs := ?_) (args := ?_) (K := ?_) ?_ ?_ ?_ ?_ ?_
           rotate_left 5
           · simp only [ev]; rfl
           first
           | (· with_reducible exact Ty.ok14
              rotate_left 2
              refine hk_tag 14 ?_
              rotate_right 2)
           | (· with_reducible exact Ty.ok17
              rotate_left 2
              refine hk_tag 17 ?_
              rotate_right 2)
           | (· with_reducible exact Ty.ok24
              rotate_left 2
              refine hk_tag 24 ?_
              rotate_right 2)
           | (· with_reducible exact Ty.ok25
              rotate_left 2
              refine hk_tag 25 ?_
              rotate_right 2)
           | (· with_reducible exact Ty.ok26
              rotate_left 2
              refine hk_tag 26 ?_
              rotate_right 2)
           | (· with_reducible exact Ty.ok27
              rotate_left 2
              refine hk_tag 27 ?_
              rotate_right 2)
           | (· with_reducible exact Ty.ok28
              rotate_left 2
              refine hk_tag 28 ?_
              rotate_right 2)
           | (· with_reducible exact Ty.ok29
              rotate_left 2
              refine hk_tag 29 ?_
              rotate_right 2)
           | (· with_reducible exact Ty.ok30
              rotate_left 2
              refine hk_tag 30 ?_
              rotate_right 2)
           | (· with_reducible exact Ty.ok31
              rotate_left 2
              refine hk_tag 31 ?_
              rotate_right 2)
           | (· with_reducible exact Ty.ok32
              rotate_left 2
              refine hk_tag 32 ?_
              rotate_right 2)
           | (· with_reducible exact Ty.ok33
              rotate_left 2
              refine hk_tag 33 ?_
              rotate_right 2)
           | (· with_reducible exact Ty.ok34
              rotate_left 2
              refine hk_tag 34 ?_
              rotate_right 2)
           | (· with_reducible exact Ty.ok35
              rotate_left 2
              refine hk_tag 35 ?_
              rotate_right 2)
           | (· with_reducible exact Ty.ok36
              rotate_left 2
              refine hk_tag 36 ?_
              rotate_right 2)
           | (· with_reducible exact Ty.ok37
              rotate_left 2
              refine hk_tag 37 ?_
              rotate_right 2)
           )
        | (refine xr_gcl (f := ?_) (fs := ?_) (cs := ?_) (args := ?_) (K := ?_) (by exact rfl) ?_ ?_ ?_ ?_ ?_ ?_
           rotate_left 5
           · simp only [ev, put_some, reduceIte, Nat.reduceEqDiff, Bool.not_true, Bool.not_false, *]
           · simp only [ev]; rfl
           first
           | (· with_reducible exact Ty.ok14
              rotate_left 2
              refine hk_tag 14 ?_
              rotate_right 2)
           | (· with_reducible exact Ty.ok17
              rotate_left 2
              refine hk_tag 17 ?_
              rotate_right 2)
           | (· with_reducible exact Ty.ok24
              rotate_left 2
              refine hk_tag 24 ?_
              rotate_right 2)
           | (· with_reducible exact Ty.ok25
              rotate_left 2
              refine hk_tag 25 ?_
              rotate_right 2)
           | (· with_reducible exact Ty.ok26
              rotate_left 2
              refine hk_tag 26 ?_
              rotate_right 2)
           | (· with_reducible exact Ty.ok27
              rotate_left 2
              refine hk_tag 27 ?_
              rotate_right 2)
           | (· with_reducible exact Ty.ok28
              rotate_left 2
              refine hk_tag 28 ?_
              rotate_right 2)
           | (· with_reducible exact Ty.ok29
              rotate_left 2
              refine hk_tag 29 ?_
              rotate_right 2)
           | (· with_reducible exact Ty.ok30
              rotate_left 2
              refine hk_tag 30 ?_
              rotate_right 2)
           | (· with_reducible exact Ty.ok31
              rotate_left 2
              refine hk_tag 31 ?_
              rotate_right 2)
           | (· with_reducible exact Ty.ok32
              rotate_left 2
              refine hk_tag 32 ?_
              rotate_right 2)
           | (· with_reducible exact Ty.ok33
              rotate_left 2
              refine hk_tag 33 ?_
              rotate_right 2)
           | (· with_reducible exact Ty.ok34
              rotate_left 2
              refine hk_tag 34 ?_
              rotate_right 2)
           | (· with_reducible exact Ty.ok35
              rotate_left 2
              refine hk_tag 35 ?_
              rotate_right 2)
           | (· with_reducible exact Ty.ok36
              rotate_left 2
              refine hk_tag 36 ?_
              rotate_right 2)
           | (· with_reducible exact Ty.ok37
              rotate_left 2
              refine hk_tag 37 ?_
              rotate_right 2)
           )
        | (refine xd_cl (f := ?_) (fs := ?_) (cs := ?_) (args := ?_) (v := ?_) ?_ ?_ ?_ ?_ ?_ ?_
           rotate_left 5
           · simp only [ev]; rfl
           · first | with_reducible exact Ty.ok14 | with_reducible exact Ty.ok17 | with_reducible exact Ty.ok24 | with_reducible exact Ty.ok25 | with_reducible exact Ty.ok26 | with_reducible exact Ty.ok27 | with_reducible exact Ty.ok28 | with_reducible exact Ty.ok29 | with_reducible exact Ty.ok30 | with_reducible exact Ty.ok31 | with_reducible exact Ty.ok32 | with_reducible exact Ty.ok33 | with_reducible exact Ty.ok34 | with_reducible exact Ty.ok35 | with_reducible exact Ty.ok36 | with_reducible exact Ty.ok37
           rotate_left 1
           · decide +kernel
           rotate_right 1)
        | (refine xd_gcl (f := ?_) (fs := ?_) (cs := ?_) (args := ?_) (v := ?_) (by exact rfl) ?_ ?_ ?_ ?_ ?_ ?_ ?_
           rotate_left 5
           · simp only [ev, put_some, reduceIte, Nat.reduceEqDiff, Bool.not_true, Bool.not_false, *]
           · simp only [ev]; rfl
           · first | with_reducible exact Ty.ok14 | with_reducible exact Ty.ok17 | with_reducible exact Ty.ok24 | with_reducible exact Ty.ok25 | with_reducible exact Ty.ok26 | with_reducible exact Ty.ok27 | with_reducible exact Ty.ok28 | with_reducible exact Ty.ok29 | with_reducible exact Ty.ok30 | with_reducible exact Ty.ok31 | with_reducible exact Ty.ok32 | with_reducible exact Ty.ok33 | with_reducible exact Ty.ok34 | with_reducible exact Ty.ok35 | with_reducible exact Ty.ok36 | with_reducible exact Ty.ok37
           rotate_left 1
           · decide +kernel
           rotate_right 1)
        | (refine xr_do (v := ?_) (h' := ?_) (by exact rfl) ?_ ?_; rotate_left 2)
        | (refine xr_st (v := ?_) (h' := ?_) (by exact rfl) ?_ ?_; rotate_left 2)
        | (refine xd_reg (ms := [0, 0, 3, 7, 15, 15, 63, 127, 255, 511, 511, 2047, 4095, 8191, 16383, 32767, 65535, 32767, 262143, 524287, 1048575]) Ty.mx (by decide +kernel) (by decide +kernel) ?_)
        | (refine xd_do (v := ?_) (by exact rfl) (by decide +kernel) ?_ ?_; rotate_left 1)
        | (refine xd_gdo (v := ?_) (by exact rfl) (by decide +kernel) (by exact rfl) ?_ ?_ ?_
           rotate_left 1
           · simp only [ev, put_some, reduceIte, Nat.reduceEqDiff, Bool.not_true, Bool.not_false, *])
        | (refine xd_goff (by exact rfl) ?_ ?_
           · simp only [ev, put_some, reduceIte, Nat.reduceEqDiff, Bool.not_true, Bool.not_false, *])
        | (refine xd_gund (by exact rfl) ?_ ?_
           · simp only [ev, put_some, reduceIte, Nat.reduceEqDiff, Bool.not_true, Bool.not_false, *])
        | (refine xd_gif (b := ?_) (by exact rfl) ?_ (fun hb => ?_) (fun hb => ?_)
           rotate_left 1
           · simp only [ev, put_some, reduceIte, Nat.reduceEqDiff, Bool.not_true, Bool.not_false, *]; rfl)
        | (refine xr_gdo (v := ?_) (h' := ?_) (by exact rfl) (by exact rfl) ?_ ?_ ?_
           rotate_left 2
           · simp only [ev, put_some, reduceIte, Nat.reduceEqDiff, Bool.not_true, Bool.not_false, *])
        | (refine xr_gst (v := ?_) (h' := ?_) (by exact rfl) (by exact rfl) ?_ ?_ ?_
           rotate_left 2
           · simp only [ev, put_some, reduceIte, Nat.reduceEqDiff, Bool.not_true, Bool.not_false, *])
        | (refine xr_goff (by exact rfl) ?_ ?_
           · simp only [ev, put_some, reduceIte, Nat.reduceEqDiff, Bool.not_true, Bool.not_false, *])
        | (refine xr_gsoff (by exact rfl) ?_ ?_
           · simp only [ev, put_some, reduceIte, Nat.reduceEqDiff, Bool.not_true, Bool.not_false, *])
        | (refine xr_gund (by exact rfl) ?_ ?_
           · simp only [ev, put_some, reduceIte, Nat.reduceEqDiff, Bool.not_true, Bool.not_false, *])
        | (refine xr_gsund (by exact rfl) ?_ ?_
           · simp only [ev, put_some, reduceIte, Nat.reduceEqDiff, Bool.not_true, Bool.not_false, *])
        | (refine xr_gif (b := ?_) (by exact rfl) ?_ (fun hb => ?_) (fun hb => ?_)
           rotate_left 1
           · simp only [ev, put_some, reduceIte, Nat.reduceEqDiff, Bool.not_true, Bool.not_false, *]; rfl)
        | (refine aw_ift (by decide) ?_ ?_
           · simp only [ev, put_some, reduceIte, Nat.reduceEqDiff, *])
        | (refine aw_iff (by decide) ?_ ?_
           · simp only [ev, put_some, reduceIte, Nat.reduceEqDiff, *])
        | (refine aw_if (b := ?_) (by decide) ?_ (fun hb => ?_) (fun hb => ?_)
           rotate_left 1
           · simp only [ev, put_some, reduceIte, Nat.reduceEqDiff, *]; rfl)
        | (refine r_ret (vs := ?_) ?_ ?_
           rotate_left 1
           · simp only [resV, ev, put_some, reduceIte, Nat.reduceEqDiff, Option.map_some, *]; rfl)
        | (with_reducible refine specPlay_n _ l _ _ ?_ ?_
           · first | exact Sl.old hsl1 _ | exact Sl.old3 hsl1 _
           · first | omega | (simp only [List.length_nil]; omega)
           )
        | (with_reducible refine implPlay_n _ l _ _ ?_ ?_
           · first | exact Sl.old hsl1 _ | exact Sl.old3 hsl1 _
           · first | omega | (simp only [List.length_nil]; omega)
           )
        | (with_reducible refine big_ok _ _ _ _ _ _ _ ?_ ?_
           · assumption
           · assumption
           )
        | (with_reducible refine drawPlay_e l1 _ _ ?_ ?_ ?_ ?_
           · first | assumption | exact hs1.old _
           · (intro k hq; have hz := hb1 _ hq; (try (simp only [List.length_append, List.length_cons] at hz)); omega)
           · assumption
           · assumption
           )
        | (with_reducible refine sameBools_ok bs1 bs2 _ _ _ ?_ ?_ ?_ ?_
           · (refine Sl.ext hsb1 ⟨?_, ?_⟩; rotate_left 1; simp only [List.append_assoc, List.cons_append, List.nil_append]; rfl)
           · (refine Sl.ext hsb2 ⟨?_, ?_⟩; rotate_left 1; simp only [List.append_assoc, List.cons_append, List.nil_append]; rfl)
           · first | omega | (simp only [List.length_nil]; omega)
           · first | omega | (simp only [List.length_nil]; omega)
           )
        | (with_reducible exact implGoodGroup_ok _ _)
        | (with_reducible exact specGoodGroup_ok _ _)
        | (with_reducible exact isOver_ok _ _)
        | (with_reducible exact leftIn_ok _ _)
        | (with_reducible exact drawnFrom_ok _ _)
        | (with_reducible exact implStepW_ok _ _ _)
        | (with_reducible refine drawStep_c l2 _ _ ?_ ?_ ?_ ?_
           · first | assumption | exact hs2.old _
           · (intro k hq; have hz := hb2 _ hq; (try (simp only [List.length_append, List.length_cons] at hz)); omega)
           · assumption
           · assumption
           )
        | (with_reducible exact specStepW_ok _ _ _)
        | (with_reducible refine drawLeftIn_ok l2 _ _ ?_ ?_ ?_ ?_
           · first | assumption | exact hs2.old _
           · (intro k hq; have hz := hb2 _ hq; (try (simp only [List.length_append, List.length_cons] at hz)); omega)
           · assumption
           · assumption
           )
        | (with_reducible exact specLeftIn_ok _ _)
        | (with_reducible exact specDrawnFrom_ok _ _)
        | ((with_reducible refine HkTag.mk (n := 14) ?_); rintro _ _ ⟨vb2, F2, bs2, rfl, rfl, hbs2, hlen2, hsb2⟩)
        | ((with_reducible refine HkTag.mk (n := 17) ?_); rintro _ _ ⟨vb1, F1, bs1, rfl, rfl, hbs1, hlen1, hsb1⟩)
        | ((with_reducible refine HkTag.mk (n := 24) ?_); rintro _ _ ⟨rfl, hh⟩; replace hh := hh.symm; subst hh)
        | ((with_reducible refine HkTag.mk (n := 25) ?_); rintro _ _ ⟨g, l, vl, E1, rfl, rfl, hsl1, hll, ⟨hok, hgx, hwx, ⟨hov, hst⟩ | hov⟩ | hok⟩)
        | ((with_reducible refine HkTag.mk (n := 26) ?_); rintro _ _ ⟨rfl, hh⟩; replace hh := hh.symm; subst hh)
        | ((with_reducible refine HkTag.mk (n := 27) ?_); rintro _ _ ⟨rfl, hh⟩; replace hh := hh.symm; subst hh)
        | ((with_reducible refine HkTag.mk (n := 28) ?_); rintro _ _ ⟨rfl, hh⟩; replace hh := hh.symm; subst hh)
        | ((with_reducible refine HkTag.mk (n := 29) ?_); rintro _ _ ⟨rfl, hh⟩; replace hh := hh.symm; subst hh)
        | ((with_reducible refine HkTag.mk (n := 30) ?_); rintro _ _ ⟨rfl, hh⟩; replace hh := hh.symm; subst hh)
        | ((with_reducible refine HkTag.mk (n := 31) ?_); rintro _ _ ⟨rfl, hh⟩; replace hh := hh.symm; subst hh)
        | ((with_reducible refine HkTag.mk (n := 32) ?_); rintro _ _ ⟨rfl, hh⟩; replace hh := hh.symm; subst hh)
        | ((with_reducible refine HkTag.mk (n := 33) ?_); rintro _ _ ⟨u, kk, E2, rfl, rfl, hgu⟩)
        | ((with_reducible refine HkTag.mk (n := 34) ?_); rintro _ _ ⟨rfl, hh⟩; replace hh := hh.symm; subst hh)
        | ((with_reducible refine HkTag.mk (n := 35) ?_); rintro _ _ ⟨w, E3, rfl, rfl⟩)
        | ((with_reducible refine HkTag.mk (n := 36) ?_); rintro _ _ ⟨rfl, hh⟩; replace hh := hh.symm; subst hh)
        | ((with_reducible refine HkTag.mk (n := 37) ?_); rintro _ _ ⟨rfl, hh⟩; replace hh := hh.symm; subst hh)
        )
      refine ⟨by first | assumption | omega, ?_, ?_⟩
      · simp only [List.forall_mem_cons, List.not_mem_nil, false_implies, implies_true, and_true, and_self, stp, ev, put_some, put_none, argT_list, List.getD_cons_zero, List.getD_cons_succ, reduceIte, Nat.reduceEqDiff, Option.map_some, Array.map_empty, List.map_toArray, List.map_cons, List.map_nil, List.append_toArray, Array.append_empty, Array.empty_append, List.nil_append, List.append_nil, and_self, if_true, decide_true, decide_false, Int.toNat_natCast, Int.natCast_nonneg, List.length_map, binV_add, binV_sub, binV_and, binV_shr, binV_shl, binV_str_eql, binV_str_neq, binV_mul, binV_eql, binV_neq, binV_lss, binV_leq, binV_gtr, binV_geq, unV_not, Bool.not_true, Bool.not_false, Bool.cond_true, Bool.cond_false, *]
      refine ⟨⟨_, by simp only [List.append_assoc, List.cons_append, List.nil_append]; rfl⟩, ?_⟩
      simp only [put_some, reduceIte, Nat.reduceEqDiff]
    · have hk1 : ¬ (k : Int) ≤ 4 := by omega
      rw [List.append_assoc]
      repeat' (first
        | ((with_reducible refine eq_go ?_); simp only [stp, ev, put_some, put_none, argT_list, List.getD_cons_zero, List.getD_cons_succ, reduceIte, Nat.reduceEqDiff, Option.map_some, Array.map_empty, List.map_toArray, List.map_cons, List.map_nil, List.append_toArray, Array.append_empty, Array.empty_append, List.nil_append, List.append_nil, and_self, if_true, decide_true, decide_false, Int.toNat_natCast, Int.natCast_nonneg, List.length_map, binV_add, binV_sub, binV_and, binV_shr, binV_shl, binV_str_eql, binV_str_neq, binV_mul, binV_eql, binV_neq, binV_lss, binV_leq, binV_gtr, binV_geq, unV_not, Bool.not_true, Bool.not_false, Bool.cond_true, Bool.cond_false, binV_bool_neq, binV_bool_eql, Ty.un4, List.getElem?_toArray, List.getElem?_cons_zero, List.getElem?_cons_succ, ldv, stv, vcs, fldA, blt, lenV, List.size_toArray, List.length_cons, List.length_nil, Nat.zero_add, Array.getD_eq_getD_getElem?, List.getElem?_toArray, List.getElem?_cons_zero, List.getElem?_cons_succ, Option.getD_some, Option.isSome_some, Nat.add_assoc, List.toList_toArray, eq_self, Option.bind_some, List.append_assoc, List.cons_append, List.length_append, List.length_cons, List.length_nil, Nat.zero_add, Nat.add_zero, Nat.reduceAdd, Nat.reduceMul, Nat.reduceLeDiff, mset_some, mset_none, set_at, set_at0, killL_nil, killL_cons, getC_succ2, getC_succ3, getC_succ4, getC_succ5, getC_succ6, loadCs_succ2, loadCs_succ3, loadCs_succ4, loadCs_succ5, loadCs_succ6, setCs_succ2, setCs_succ3, setCs_succ4, setCs_succ5, setCs_succ6, getC_at, getC_at0, getC_zero, getC_succ, loadCs_at, loadCs_at0, loadCs_zero, loadCs_succ, setCs_at, setCs_at0, setCs_zero, setCs_succ, splice, List.set_cons_succ, List.set_cons_zero, List.getElem?_cons_zero, List.getElem?_cons_succ, List.drop_zero, List.drop_succ_cons, List.take_succ_cons, List.take_zero, newB, vcs, flat_int, flat_bool, flat_string, flat_slice, flat_pointer, flat_func, flat_nilFunc, List.all_cons, List.all_nil, Bool.and_true, Bool.and_self, Ty.ld3, Ty.sz3, Ty.zc3, Ty.by3, Ty.ld4, Ty.sz4, Ty.zc4, Ty.by4, Ty.ld5, Ty.sz5, Ty.zc5, Ty.by5, Ty.ld24, Ty.sz24, Ty.sl24, Ty.zc24, Ty.by24, Ty.ld25, Ty.sz25, Ty.zc25, Ty.by25, Ty.fl25_0, Ty.fl25_1, Ty.fl25_2, Ty.fl25_3, Ty.fl25_4, Ty.fl25_5, Ty.ld26, Ty.sz26, Ty.sl26, Ty.zc26, Ty.by26, Ty.ld37, Ty.sz37, Ty.sl37, Ty.zc37, Ty.by37, Grp.cells_length, Grp.cells_flat, Grp.cells_take, Grp.cells_splice, Grp.get3, Grp.get4, grp_neq, grp_eql, beq_self_eq_true, Bool.false_and, Bool.true_and, Bool.and_false, Bool.false_eq_true, if_false, if_true, Int.zero_add, Int.add_zero, *]; rfl)
        | (with_reducible refine aw_then ?_) | (with_reducible refine aw_skip ?_) | (with_reducible refine aw_ret ?_) | (with_reducible refine aw_exit ?_) | (with_reducible refine aw_block ?_) | (with_reducible refine xr_reg (by decide +kernel) ?_)
        | (with_reducible refine xr_nil ?_) | (with_reducible refine k_norm ?_) | (with_reducible refine k_ret ?_) | (with_reducible refine k_exit ?_) | (with_reducible refine b_norm ?_) | (with_reducible refine b_ret ?_) | (with_reducible refine b_exit ?_) | (with_reducible refine b_past (by decide) ?_)
        | (with_reducible refine xd_nil ?_)
        | (refine xr_cl (f := ?_) (fs := ?_) (cs := ?_) (args := ?_) (K := ?_) ?_ ?_ ?_ ?_ ?_
           rotate_left 5
           · simp only [ev]; rfl
           first
           | (· with_reducible exact Ty.ok14
              rotate_left 2
              refine hk_tag 14 ?_
              rotate_right 2)
           | (· with_reducible exact Ty.ok17
              rotate_left 2
              refine hk_tag 17 ?_
              rotate_right 2)
           | (· with_reducible exact Ty.ok24
              rotate_left 2
              refine hk_tag 24 ?_
              rotate_right 2)
           | (· with_reducible exact Ty.ok25
              rotate_left 2
              refine hk_tag 25 ?_
              rotate_right 2)
           | (· with_reducible exact Ty.ok26
              rotate_left 2
              refine hk_tag 26 ?_
              rotate_right 2)
           | (· with_reducible exact Ty.ok27
              rotate_left 2
              refine hk_tag 27 ?_
              rotate_right 2)
           | (· with_reducible exact Ty.ok28
              rotate_left 2
              refine hk_tag 28 ?_
              rotate_right 2)
           | (· with_reducible exact Ty.ok29
              rotate_left 2
              refine hk_tag 29 ?_
              rotate_right 2)
           | (· with_reducible exact Ty.ok30
              rotate_left 2
              refine hk_tag 30 ?_
              rotate_right 2)
           | (· with_reducible exact Ty.ok31
              rotate_left 2
              refine hk_tag 31 ?_
              rotate_right 2)
           | (· with_reducible exact Ty.ok32
              rotate_left 2
              refine hk_tag 32 ?_
              rotate_right 2)
           | (· with_reducible exact Ty.ok33
              rotate_left 2
              refine hk_tag 33 ?_
              rotate_right 2)
           | (· with_reducible exact Ty.ok34
              rotate_left 2
              refine hk_tag 34 ?_
              rotate_right 2)
           | (· with_reducible exact Ty.ok35
              rotate_left 2
              refine hk_tag 35 ?_
              rotate_right 2)
           | (· with_reducible exact Ty.ok36
              rotate_left 2
              refine hk_tag 36 ?_
              rotate_right 2)
           | (· with_reducible exact Ty.ok37
              rotate_left 2
              refine hk_tag 37 ?_
              rotate_right 2)
           )
        | (refine xr_gcl (f := ?_) (fs := ?_) (cs := ?_) (args := ?_) (K := ?_) (by exact rfl) ?_ ?_ ?_ ?_ ?_ ?_
           rotate_left 5
           · simp only [ev, put_some, reduceIte, Nat.reduceEqDiff, Bool.not_true, Bool.not_false, *]
           · simp only [ev]; rfl
           first
           | (· with_reducible exact Ty.ok14
              rotate_left 2
              refine hk_tag 14 ?_
              rotate_right 2)
           | (· with_reducible exact Ty.ok17
              rotate_left 2
              refine hk_tag 17 ?_
              rotate_right 2)
           | (· with_reducible exact Ty.ok24
              rotate_left 2
              refine hk_tag 24 ?_
              rotate_right 2)
           | (· with_reducible exact Ty.ok25
              rotate_left 2
              refine hk_tag 25 ?_
              rotate_right 2)
           | (· with_reducible exact Ty.ok26
              rotate_left 2
              refine hk_tag 26 ?_
              rotate_right 2)
           | (· with_reducible exact Ty.ok27
              rotate_left 2
              refine hk_tag 27 ?_
              rotate_right 2)
           | (· with_reducible exact Ty.ok28
              rotate_left 2
              refine hk_tag 28 ?_
              rotate_right 2)
           | (· with_reducible exact Ty.ok29
              rotate_left 2
              refine hk_tag 29 ?_
              rotate_right 2)
           | (· with_reducible exact Ty.ok30
              rotate_left 2
              refine hk_tag 30 ?_
              rotate_right 2)
           | (· with_reducible exact Ty.ok31
              rotate_left 2
              refine hk_tag 31 ?_
              rotate_right 2)
           | (· with_reducible exact Ty.ok32
              rotate_left 2
              refine hk_tag 32 ?_
              rotate_right 2)
           | (· with_reducible exact Ty.ok33
              rotate_left 2
              refine hk_tag 33 ?_
              rotate_right 2)
           | (· with_reducible exact Ty.ok34
              rotate_left 2
              refine hk_tag 34 ?_
              rotate_right 2)
           | (· with_reducible exact Ty.ok35
              rotate_left 2
              refine hk_tag 35 ?_
              rotate_right 2)
           | (· with_reducible exact Ty.ok36
              rotate_left 2
              refine hk_tag 36 ?_
              rotate_right 2)
           | (· with_reducible exact Ty.ok37
              rotate_left 2
              refine hk_tag 37 ?_
              rotate_right 2)
           )
        | (refine xd_cl (f := ?_) (fs := ?_) (cs := ?_) (args := ?_) (v := ?_) ?_ ?_ ?_ ?_ ?_ ?_
           rotate_left 5
           · simp only [ev]; rfl
           · first | with_reducible exact Ty.ok14 | with_reducible exact Ty.ok17 | with_reducible exact Ty.ok24 | with_reducible exact Ty.ok25 | with_reducible exact Ty.ok26 | with_reducible exact Ty.ok27 | with_reducible exact Ty.ok28 | with_reducible exact Ty.ok29 | with_reducible exact Ty.ok30 | with_reducible exact Ty.ok31 | with_reducible exact Ty.ok32 | with_reducible exact Ty.ok33 | with_reducible exact Ty.ok34 | with_reducible exact Ty.ok35 | with_reducible exact Ty.ok36 | with_reducible exact Ty.ok37
           rotate_left 1
           · decide +kernel
           rotate_right 1)
        | (refine xd_gcl (f := ?_) (fs := ?_) (cs := ?_) (args := ?_) (v := ?_) (by exact rfl) ?_ ?_ ?_ ?_ ?_ ?_ ?_
           rotate_left 5
           · simp only [ev, put_some, reduceIte, Nat.reduceEqDiff, Bool.not_true, Bool.not_false, *]
           · simp only [ev]; rfl
           · first | with_reducible exact Ty.ok14 | with_reducible exact Ty.ok17 | with_reducible exact Ty.ok24 | with_reducible exact Ty.ok25 | with_reducible exact Ty.ok26 | with_reducible exact Ty.ok27 | with_reducible exact Ty.ok28 | with_reducible exact Ty.ok29 | with_reducible exact Ty.ok30 | with_reducible exact Ty.ok31 | with_reducible exact Ty.ok32 | with_reducible exact Ty.ok33 | with_reducible exact Ty.ok34 | with_reducible exact Ty.ok35 | with_reducible exact Ty.ok36 | with_reducible exact Ty.ok37
           rotate_left 1
           · decide +kernel
           rotate_right 1)
        | (refine xr_do (v := ?_) (h' := ?_) (by exact rfl) ?_ ?_; rotate_left 2)
        | (refine xr_st (v := ?_) (h' := ?_) (by exact rfl) ?_ ?_; rotate_left 2)
        | (refine xd_reg (ms := [0, 0, 3, 7, 15, 15, 63, 127, 255, 511, 511, 2047, 4095, 8191, 16383, 32767, 65535, 32767, 262143, 524287, 1048575]) Ty.mx (by decide +kernel) (by decide +kernel) ?_)
        | (refine xd_do (v := ?_) (by exact rfl) (by decide +kernel) ?_ ?_; rotate_left 1)
        | (refine xd_gdo (v := ?_) (by exact rfl) (by decide +kernel) (by exact rfl) ?_ ?_ ?_
           rotate_left 1
           · simp only [ev, put_some, reduceIte, Nat.reduceEqDiff, Bool.not_true, Bool.not_false, *])
        | (refine xd_goff (by exact rfl) ?_ ?_
           · simp only [ev, put_some, reduceIte, Nat.reduceEqDiff, Bool.not_true, Bool.not_false, *])
        | (refine xd_gund (by exact rfl) ?_ ?_
           · simp only [ev, put_some, reduceIte, Nat.reduceEqDiff, Bool.not_true, Bool.not_false, *])
        | (refine xd_gif (b := ?_) (by exact rfl) ?_ (fun hb => ?_) (fun hb => ?_)
           rotate_left 1
           · simp only [ev, put_some, reduceIte, Nat.reduceEqDiff, Bool.not_true, Bool.not_false, *]; rfl)
        | (refine xr_gdo (v := ?_) (h' := ?_) (by exact rfl) (by exact rfl) ?_ ?_ ?_
           rotate_left 2
           · simp only [ev, put_some, reduceIte, Nat.reduceEqDiff, Bool.not_true, Bool.not_false, *])
        | (refine xr_gst (v := ?_) (h' := ?_) (by exact rfl) (by exact rfl) ?_ ?_ ?_
           rotate_left 2
           · simp only [ev, put_some, reduceIte, Nat.reduceEqDiff, Bool.not_true, Bool.not_false, *])
        | (refine xr_goff (by exact rfl) ?_ ?_
           · simp only [ev, put_some, reduceIte, Nat.reduceEqDiff, Bool.not_true, Bool.not_false, *])
        | (refine xr_gsoff (by exact rfl) ?_ ?_
           · simp only [ev, put_some, reduceIte, Nat.reduceEqDiff, Bool.not_true, Bool.not_false, *])
        | (refine xr_gund (by exact rfl) ?_ ?_
           · simp only [ev, put_some, reduceIte, Nat.reduceEqDiff, Bool.not_true, Bool.not_false, *])
        | (refine xr_gsund (by exact rfl) ?_ ?_
           · simp only [ev, put_some, reduceIte, Nat.reduceEqDiff, Bool.not_true, Bool.not_false, *])
        | (refine xr_gif (b := ?_) (by exact rfl) ?_ (fun hb => ?_) (fun hb => ?_)
           rotate_left 1
           · simp only [ev, put_some, reduceIte, Nat.reduceEqDiff, Bool.not_true, Bool.not_false, *]; rfl)
        | (refine aw_ift (by decide) ?_ ?_
           · simp only [ev, put_some, reduceIte, Nat.reduceEqDiff, *])
        | (refine aw_iff (by decide) ?_ ?_
           · simp only [ev, put_some, reduceIte, Nat.reduceEqDiff, *])
        | (refine aw_if (b := ?_) (by decide) ?_ (fun hb => ?_) (fun hb => ?_)
           rotate_left 1
           · simp only [ev, put_some, reduceIte, Nat.reduceEqDiff, *]; rfl)
        | (refine r_ret (vs := ?_) ?_ ?_
           rotate_left 1
           · simp only [resV, ev, put_some, reduceIte, Nat.reduceEqDiff, Option.map_some, *]; rfl)
        | (with_reducible refine specPlay_n _ l _ _ ?_ ?_
           · first | exact Sl.old hsl1 _ | exact Sl.old3 hsl1 _
           · first | omega | (simp only [List.length_nil]; omega)
           )
        | (with_reducible refine implPlay_n _ l _ _ ?_ ?_
           · first | exact Sl.old hsl1 _ | exact Sl.old3 hsl1 _
           · first | omega | (simp only [List.length_nil]; omega)
           )
        | (with_reducible refine big_ok _ _ _ _ _ _ _ ?_ ?_
           · assumption
           · assumption
           )
        | (with_reducible refine drawPlay_e l1 _ _ ?_ ?_ ?_ ?_
           · first | assumption | exact hs1.old _
           · (intro k hq; have hz := hb1 _ hq; (try (simp only [List.length_append, List.length_cons] at hz)); omega)
           · assumption
           · assumption
           )
        | (with_reducible refine sameBools_ok bs1 bs2 _ _ _ ?_ ?_ ?_ ?_
           · (refine Sl.ext hsb1 ⟨?_, ?_⟩; rotate_left 1; simp only [List.append_assoc, List.cons_append, List.nil_append]; rfl)
           · (refine Sl.ext hsb2 ⟨?_, ?_⟩; rotate_left 1; simp only [List.append_assoc, List.cons_append, List.nil_append]; rfl)
           · first | omega | (simp only [List.length_nil]; omega)
           · first | omega | (simp only [List.length_nil]; omega)
           )
        | (with_reducible exact implGoodGroup_ok _ _)
        | (with_reducible exact specGoodGroup_ok _ _)
        | (with_reducible exact isOver_ok _ _)
        | (with_reducible exact leftIn_ok _ _)
        | (with_reducible exact drawnFrom_ok _ _)
        | (with_reducible exact implStepW_ok _ _ _)
        | (with_reducible refine drawStep_c l2 _ _ ?_ ?_ ?_ ?_
           · first | assumption | exact hs2.old _
           · (intro k hq; have hz := hb2 _ hq; (try (simp only [List.length_append, List.length_cons] at hz)); omega)
           · assumption
           · assumption
           )
        | (with_reducible exact specStepW_ok _ _ _)
        | (with_reducible refine drawLeftIn_ok l2 _ _ ?_ ?_ ?_ ?_
           · first | assumption | exact hs2.old _
           · (intro k hq; have hz := hb2 _ hq; (try (simp only [List.length_append, List.length_cons] at hz)); omega)
           · assumption
           · assumption
           )
        | (with_reducible exact specLeftIn_ok _ _)
        | (with_reducible exact specDrawnFrom_ok _ _)
        | ((with_reducible refine HkTag.mk (n := 14) ?_); rintro _ _ ⟨vb2, F2, bs2, rfl, rfl, hbs2, hlen2, hsb2⟩)
        | ((with_reducible refine HkTag.mk (n := 17) ?_); rintro _ _ ⟨vb1, F1, bs1, rfl, rfl, hbs1, hlen1, hsb1⟩)
        | ((with_reducible refine HkTag.mk (n := 24) ?_); rintro _ _ ⟨rfl, hh⟩; replace hh := hh.symm; subst hh)
        | ((with_reducible refine HkTag.mk (n := 25) ?_); rintro _ _ ⟨g, l, vl, E1, rfl, rfl, hsl1, hll, ⟨hok, hgx, hwx, ⟨hov, hst⟩ | hov⟩ | hok⟩)
        | ((with_reducible refine HkTag.mk (n := 26) ?_); rintro _ _ ⟨rfl, hh⟩; replace hh := hh.symm; subst hh)
        | ((with_reducible refine HkTag.mk (n := 27) ?_); rintro _ _ ⟨rfl, hh⟩; replace hh := hh.symm; subst hh)
        | ((with_reducible refine HkTag.mk (n := 28) ?_); rintro _ _ ⟨rfl, hh⟩; replace hh := hh.symm; subst hh)
        | ((with_reducible refine HkTag.mk (n := 29) ?_); rintro _ _ ⟨rfl, hh⟩; replace hh := hh.symm; subst hh)
        | ((with_reducible refine HkTag.mk (n := 30) ?_); rintro _ _ ⟨rfl, hh⟩; replace hh := hh.symm; subst hh)
        | ((with_reducible refine HkTag.mk (n := 31) ?_); rintro _ _ ⟨rfl, hh⟩; replace hh := hh.symm; subst hh)
        | ((with_reducible refine HkTag.mk (n := 32) ?_); rintro _ _ ⟨rfl, hh⟩; replace hh := hh.symm; subst hh)
        | ((with_reducible refine HkTag.mk (n := 33) ?_); rintro _ _ ⟨u, kk, E2, rfl, rfl, hgu⟩)
        | ((with_reducible refine HkTag.mk (n := 34) ?_); rintro _ _ ⟨rfl, hh⟩; replace hh := hh.symm; subst hh)
        | ((with_reducible refine HkTag.mk (n := 35) ?_); rintro _ _ ⟨w, E3, rfl, rfl⟩)
        | ((with_reducible refine HkTag.mk (n := 36) ?_); rintro _ _ ⟨rfl, hh⟩; replace hh := hh.symm; subst hh)
        | ((with_reducible refine HkTag.mk (n := 37) ?_); rintro _ _ ⟨rfl, hh⟩; replace hh := hh.symm; subst hh)
        )
      rfl
  · rfl
end Go.Proofs.Ytodpfcgjlcecmaa.Am

