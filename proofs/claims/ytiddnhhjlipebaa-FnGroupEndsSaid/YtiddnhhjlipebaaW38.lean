/- The law FnGroupEnds. Conditions: none. -/
import Derived.Test.YtiddnhhjlipebaaW37
import Derived.Test.YtiddnhhjlipebaaAmFr
namespace Go.Proofs.Ytiddnhhjlipebaa.Am
open Go Go.Proofs
set_option linter.unusedVariables false
set_option linter.unusedSimpArgs false
set_option maxRecDepth 100000
set_option maxHeartbeats 16000000

/-- One more behind a fresh slice. -/
theorem fr_step {P : Program} {h2 : Heap} {t e : TypeId} {z : List Value} {b' : Nat} (hs : slT P t = some e) (hz : zcT P e = some z) (hb : byT P e = some b') {L E : Heap} {v : Value} {cs xs : List Value} {len j ix : Nat}
    (hv : Fr h2.length L v z.length cs len) (hx : E[j]? = some ⟨2, z.length, xs⟩) (hxl : xs.length = z.length) (hix : ix = h2.length + (L.length + j))
    (hle : (len + 1) * b' ≤ 70368744177664) (hl2 : len + 1 ≤ 4611686018427387904) :
    ∃ v' L', apS P (h2 ++ (L ++ E)) t t v (.slice (some ⟨ix, 0, none⟩) 1 1) = some (v', h2 ++ L') ∧ Fr h2.length L' v' z.length (cs ++ xs) (len + 1) := by
  rcases hv with ⟨rfl, rfl, rfl⟩ | ⟨h1, h3, k, sp, rfl | rfl, rfl, h4⟩
  · obtain ⟨v', L', q1, q2⟩ := app_step hs hz hb (App.nil h2.length L z.length) hx hxl hix hle hl2
    exact ⟨v', L', q1, q2.fr⟩
  · have q := apS_full_none (P := P) (H := h2 ++ (L ++ E)) (id1 := h2.length + k) (id2 := ix) (sp := none) (n := len) (m := 1) hs hz hb (by rw [get_at]; exact get_old h4) (by rw [hix, get_at, get_at]; exact hx) h3 (by rw [hxl, Nat.one_mul]) (by omega) hle hl2
    refine ⟨.slice (some ⟨(h2 ++ (L ++ E)).length, 0, some 0⟩) (len + 1) (len + 1), L ++ E ++ [⟨2, z.length, cs ++ xs⟩], by rw [q]; simp only [List.append_assoc], ?_⟩
    rw [show (h2 ++ (L ++ E)).length = h2.length + (L ++ E).length by simp]
    exact Fr.at (by simp) (by rw [List.length_append, h3, hxl, Nat.succ_mul]) (by omega) (.inr rfl)
  · obtain ⟨v', L', q1, q2⟩ := app_step hs hz hb (.inr ⟨h1, h3, k, rfl, h4⟩) hx hxl hix hle hl2
    exact ⟨v', L', q1, q2.fr⟩

theorem ints_flatM : ∀ l : List Int, (ints l).flatten = l.map (Value.int .i64)
  | [] => rfl
  | x :: l => by
      have := ints_flatM l
      simp only [ints] at this
      simp [ints, this]
theorem cut_in {P : Program} {t e : TypeId} {h : Heap} {id n : Nat} {bk : Blk} (hs : slT P t = some e) (hz : szT P e = some 1) (hb : h[id]? = some bk) (hk : bk.k = 2 ∧ bk.e = 1) :
    cut P t h (.slice (some ⟨id, 0, some 0⟩) (n + 1) (n + 1)) (some (.int .i64 1)) none none = some (.slice (some ⟨id, 1, some 0⟩) n n) := by
  have hb1 : bnd (n + 1) 0 (some (.int .i64 1)) = some 1 := by
    simp only [bnd]
    rw [if_pos ⟨by omega, by omega⟩]; rfl
  simp [cut, hs, hz, cutB, bnd_none, hb1, hb, hk]
theorem fr_slice {n : Nat} {L : Heap} {v : Value} {e len : Nat} {cs : List Value} (h : Fr n L v e cs len) : ∃ b, v = .slice b len len := by
  rcases h with ⟨rfl, rfl, _⟩ | ⟨_, _, k, sp, _, rfl, _⟩
  · exact ⟨_, rfl⟩
  · exact ⟨_, rfl⟩
theorem fr_sl {h2 L : Heap} {v : Value} (l : List Int) (hv : Fr h2.length L v 1 (l.map (Value.int .i64)) l.length) : Sl (h2 ++ L) v 1 (ints l) := by
  have hfl : (ints l).flatten = l.map (Value.int .i64) := ints_flatM l
  rcases hv with ⟨rfl, h1, _⟩ | ⟨h1, h3, k, sp, hsp, rfl, h4⟩
  · obtain rfl := List.length_eq_zero_iff.1 h1
    exact Sl.nil _ 1
  · have := Sl.of_block (h := h2 ++ L) (id := h2.length + k) (k := 2) (c := l.length) (sp := sp) (rows := ints l) (by rw [get_at, hfl]; exact h4) (.inr rfl) (ints_len l) (by simp [ints])
    simpa [ints] using this

theorem Sl.old3 {h E : Heap} {v : Value} {e : Nat} {rows : List (List Value)} (hs : Sl (h ++ E) v e rows) (L : Heap) : Sl (h ++ (E ++ L)) v e rows := by
  rw [← List.append_assoc]; exact hs.old L
theorem bl_flat (l : List Bool) : (l.map fun b => [Value.bool b]).flatten = bools l := by
  induction l with
  | nil => rfl
  | cons b l ih => simp only [List.map_cons, List.flatten_cons, ih]; rfl
theorem sl_bl {h : Heap} {k c n : Nat} {sp : Option Nat} {l : List Bool} {L : Heap} (hc : n ≤ c) (hb : L[k]? = some ⟨2, 1, bools l⟩) (hn : l.length = n) : Sl (h ++ L) (.slice (some ⟨h.length + k, 0, sp⟩) n c) 1 (l.map fun b => [.bool b]) :=
  sl_at (by rw [bl_flat]; exact hb) (by intro r hr; obtain ⟨b, _, rfl⟩ := List.mem_map.1 hr; rfl) (by simp [hn]) hc
theorem sl_bl0 {h : Heap} {c n : Nat} {sp : Option Nat} {l : List Bool} {L : Heap} (hc : n ≤ c) (hb : L[0]? = some ⟨2, 1, bools l⟩) (hn : l.length = n) : Sl (h ++ L) (.slice (some ⟨h.length, 0, sp⟩) n c) 1 (l.map fun b => [.bool b]) := sl_bl (k := 0) hc hb hn
theorem sl_nil1 {h : Heap} : Sl h (.slice none 0 0) 1 (([] : List Bool).map fun b => [.bool b]) := Sl.nil h 1

theorem Sl.ext {H H' : Heap} {v : Value} {e : Nat} {rows : List (List Value)} (hs : Sl H v e rows) (h : ∃ L, H' = H ++ L) : Sl H' v e rows := by
  obtain ⟨L, rfl⟩ := h; exact hs.old L

def finG (g : Grp) (l : List Int) : Grp := if playOk g l then (playG g l).1 else .zero
def finB (g : Grp) (l : List Int) : List Bool := if playOk g l then (playG g l).2 else []
theorem finB_len (g : Grp) (l : List Int) (h : l.length ≤ 1048576) : (finB g l).length ≤ 1048576 := by
  unfold finB
  split
  · rename_i hok
    have hg : goodG g = true := by simp only [playOk, Bool.and_eq_true] at hok; exact hok.1
    have hi := (playG_inv g hg l l.length (Nat.le_refl _)).2
    rw [List.take_length] at hi; omega
  · simp
theorem play_sl (g : Grp) (l : List Int) (nn : Bool) (h : Heap) (hne : nn = true ∨ True) : ∃ vb, playV h.length g l nn = .tuple #[.agg (finG g l).cells.toArray, vb, .bool (playOk g l)] ∧ Sl (h ++ playL g l nn) vb 1 ((finB g l).map fun b => [.bool b]) := by
  rcases Bool.eq_false_or_eq_true (playOk g l) with hok | hok
  · have hg : goodG g = true := by simp only [playOk, Bool.and_eq_true] at hok; exact hok.1
    have hi := (playG_inv g hg l l.length (Nat.le_refl _)).2
    rw [List.take_length] at hi
    rcases Bool.eq_false_or_eq_true (nn && l.isEmpty) with hn | hn
    · simp only [playV, playL, finG, finB, hok, hn, if_true]
      refine ⟨_, rfl, ?_⟩
      have : (playG g l).2 = [] := by
        rw [Bool.and_eq_true, List.isEmpty_iff] at hn
        rw [hn.2]; rfl
      rw [this]; exact Sl.nil _ 1
    · simp only [playV, playL, finG, finB, hok, hn, if_true, Bool.false_eq_true, if_false]
      exact ⟨_, rfl, sl_bl0 (Nat.le_refl _) rfl hi⟩
  · simp only [playV, playL, finG, finB, hok, Bool.false_eq_true, if_false]
    exact ⟨_, rfl, Sl.nil _ 1⟩
theorem implPlay_n (g : Grp) (l : List Int) (vk : Value) (h : Heap) (hs : Sl h vk 1 (ints l)) (hl : l.length ≤ 1048576) :
    ACalls Try.prog 0 18 #[.agg g.cells.toArray, vk] h fun v h' => ∃ (vb : Value) (E : Heap) (bs : List Bool), v = .tuple #[.agg (finG g l).cells.toArray, vb, .bool (playOk g l)] ∧ h' = h ++ E ∧ bs = finB g l ∧ bs.length ≤ 1048576 ∧ Sl (h ++ E) vb 1 (bs.map fun b => [.bool b]) := by
  refine (implPlayGroup_ok g l vk h hs hl).mono ?_
  rintro v h' ⟨rfl, rfl⟩
  obtain ⟨vb, h1, h2⟩ := play_sl g l false h (.inr trivial)
  exact ⟨vb, _, _, h1, rfl, rfl, finB_len g l hl, h2⟩
theorem implPlay_k (a b c d : Int) (o : Bool) (vk : Value) (h : Heap) (hg : goodG ⟨a, b, c, d, 0, o⟩ = true) (hs : Sl h vk 1 (ints (3 :: List.replicate d.toNat 2))) :
    ACalls Try.prog 0 18 #[.agg (Grp.mk a b c d 0 o).cells.toArray, vk] h fun v h' => v = .tuple #[.agg (endG a b c d d.toNat).cells.toArray, .slice (some ⟨h.length, 0, some 0⟩) (d.toNat + 1) (d.toNat + 1), .bool true] ∧ h' = h ++ [⟨2, 1, bools (endB c d o d.toNat)⟩] := by
  have hg' := hg
  simp only [goodG, decide_eq_true_eq] at hg'
  have hp := play_ends a b c d o hg d.toNat (by omega)
  have hok : playOk ⟨a, b, c, d, 0, o⟩ (3 :: List.replicate d.toNat 2) = true := by
    simp only [playOk, hg, Bool.true_and, decide_eq_true_eq, List.length_cons, List.length_replicate]
    omega
  have hlen : (endB c d o d.toNat).length = d.toNat + 1 := by
    simp only [endB, List.length_cons, List.length_append, List.length_replicate]
    omega
  refine (implPlayGroup_ok _ _ vk h hs (by simp; omega)).mono ?_
  rintro v h' ⟨rfl, rfl⟩
  simp only [playV, playL, hok, hp, if_true, Bool.false_and, Bool.false_eq_true, if_false, List.length_cons, List.length_replicate]
  exact ⟨trivial, trivial⟩
theorem drawNew_c (code : List Int) (vc : Value) (h : Heap) (hsl : Sl h vc 1 (bytesR code)) (hbid : ∀ k, bid vc ≠ some (h.length + k)) (hcl : code.length ≤ 9223372036854775807) (hcw : ∀ x ∈ code, 0 ≤ x ∧ x ≤ 255) :
    ACalls Try.prog 0 73 #[vc] h fun v h' => ∃ (a b c d : Int) (o : Bool) (E : Heap), v = .tuple #[.int .i64 a, .int .i64 b, .int .i64 c, .int .i64 d, .bool o] ∧ h' = h ++ E ∧ (goodG ⟨a, b, c, d, 0, o⟩ = true ∨ goodG ⟨a, b, c, d, 0, o⟩ = false) := by
  refine (drawNewGroup_ok code vc h hsl hbid hcl hcw).mono ?_
  rintro v h' ⟨a, b, c, d, o, E, h1, h2⟩
  refine ⟨a, b, c, d, o, E, h1, h2, ?_⟩
  cases goodG ⟨a, b, c, d, 0, o⟩
  · exact .inr rfl
  · exact .inl rfl
theorem lawFnGroupEnds_ok (l1 l2 : List Int) (v1 v2 : Value) (h : Heap) (hs1 : Sl h v1 1 (bytesR l1)) (hs2 : Sl h v2 1 (bytesR l2)) (hb1 : ∀ b, bid v1 = some b → b < h.length) (hb2 : ∀ b, bid v2 = some b → b < h.length)
    (hl1 : l1.length ≤ 9223372036854775807) (hl2 : l2.length ≤ 9223372036854775807) (hw1 : ∀ x ∈ l1, 0 ≤ x ∧ x ≤ 255) (hw2 : ∀ x ∈ l2, 0 ≤ x ∧ x ≤ 255) :
    ACalls Try.prog 0 14 #[v1, v2] h fun v _ => v = .bool true := by
  obtain ⟨b1, c1, rfl, hc1, _⟩ := id hs1
  obtain ⟨b2, c2, rfl, hc2, _⟩ := id hs2
  have e1 : (bytesR l1).length = l1.length := List.length_map _
  have e2 : (bytesR l2).length = l2.length := List.length_map _
  rw [e1] at hs1 hb1 hc1 ⊢
  rw [e2] at hs2 hb2 hc2 ⊢
  clear e1 e2 hc1 hc2
  have hz0 : decide ((0 : Int) < 0) = false := rfl
  refine acalls_fn Try.func14 rfl Try.ntmps14 (by simp) (by dsimp only [Try.f14]) ?_
  repeat' (first
    | ((with_reducible refine eq_go ?_); simp only [stp, ev, put_some, put_none, argT_list, List.getD_cons_zero, List.getD_cons_succ, reduceIte, Nat.reduceEqDiff, Option.map_some, Array.map_empty, List.map_toArray, List.map_cons, List.map_nil, List.append_toArray, Array.append_empty, Array.empty_append, List.nil_append, List.append_nil, and_self, if_true, decide_true, decide_false, Int.toNat_natCast, Int.natCast_nonneg, List.length_map, binV_add, binV_sub, binV_and, binV_shr, binV_shl, binV_str_eql, binV_str_neq, binV_mul, binV_eql, binV_neq, binV_lss, binV_leq, binV_gtr, binV_geq, unV_not, Bool.not_true, Bool.not_false, Bool.cond_true, Bool.cond_false, binV_bool_neq, binV_bool_eql, Ty.un4, Option.map_none, List.getElem?_toArray, List.getElem?_cons_zero, List.getElem?_cons_succ, ldv, stv, vcs, fldA, idxA, blt, lenV, List.size_toArray, List.length_cons, List.length_nil, Nat.zero_add, Array.getD_eq_getD_getElem?, List.getElem?_toArray, List.getElem?_cons_zero, List.getElem?_cons_succ, Option.getD_some, Option.isSome_some, Nat.add_assoc, List.toList_toArray, eq_self, Option.bind_some, List.append_assoc, List.cons_append, List.length_append, List.length_cons, List.length_nil, Nat.zero_add, Nat.add_zero, Nat.reduceAdd, Nat.reduceMul, Nat.reduceLeDiff, mset_some, mset_none, set_at, set_at0, killL_nil, killL_cons, getC_succ2, getC_succ3, getC_succ4, getC_succ5, getC_succ6, loadCs_succ2, loadCs_succ3, loadCs_succ4, loadCs_succ5, loadCs_succ6, setCs_succ2, setCs_succ3, setCs_succ4, setCs_succ5, setCs_succ6, getC_at, getC_at0, getC_zero, getC_succ, loadCs_at, loadCs_at0, loadCs_zero, loadCs_succ, setCs_at, setCs_at0, setCs_zero, setCs_succ, splice, List.set_cons_succ, List.set_cons_zero, List.getElem?_cons_zero, List.getElem?_cons_succ, List.drop_zero, List.drop_succ_cons, List.take_succ_cons, List.take_zero, newB, vcs, flat_int, flat_bool, flat_string, flat_slice, flat_pointer, flat_func, flat_nilFunc, List.all_cons, List.all_nil, Bool.and_true, Bool.and_self, Ty.ld3, Ty.sz3, Ty.zc3, Ty.by3, Ty.ld4, Ty.sz4, Ty.zc4, Ty.by4, Ty.ld5, Ty.sz5, Ty.zc5, Ty.by5, Ty.ld24, Ty.sz24, Ty.sl24, Ty.zc24, Ty.by24, Ty.ld25, Ty.sz25, Ty.zc25, Ty.by25, Ty.fl25_0, Ty.fl25_1, Ty.fl25_2, Ty.fl25_3, Ty.fl25_4, Ty.fl25_5, Ty.ld26, Ty.sz26, Ty.sl26, Ty.zc26, Ty.by26, Ty.ld37, Ty.sz37, Ty.sl37, Ty.zc37, Ty.by37, newV, Grp.cells_length, Grp.cells_flat, Grp.cells_take, Grp.cells_splice, Grp.get3, Grp.get4, grp_neq, grp_eql, beq_self_eq_true, Bool.false_and, Bool.true_and, Bool.and_false, Bool.false_eq_true, if_false, if_true, Int.zero_add, Int.add_zero, *]; rfl)
    | (with_reducible refine aw_then ?_) | (with_reducible refine aw_skip ?_) | (with_reducible refine aw_ret ?_) | (with_reducible refine aw_exit ?_) | (with_reducible refine aw_block ?_) | (with_reducible refine xr_reg (by decide +kernel) ?_)
    | (with_reducible refine xr_nil ?_) | (with_reducible refine k_norm ?_) | (with_reducible refine k_ret ?_) | (with_reducible refine k_exit ?_) | (with_reducible refine b_norm ?_) | (with_reducible refine b_ret ?_) | (with_reducible refine b_exit ?_) | (with_reducible refine b_past (by decide) ?_)
    | (refine xr_cl (f := ?_) (fs := ?_) (cs := ?_) (args := ?_) (K := ?_) ?_ ?_ ?_ ?_ ?_
       rotate_left 5
       · simp only [ev]; rfl
       first
       | (· with_reducible exact Ty.ok18
          rotate_left 2
          refine hk_tag 18 ?_
          rotate_right 2)
       | (· with_reducible exact Ty.ok25
          rotate_left 2
          refine hk_tag 25 ?_
          rotate_right 2)
       | (· with_reducible exact Ty.ok30
          rotate_left 2
          refine hk_tag 30 ?_
          rotate_right 2)
       | (· with_reducible exact Ty.ok73
          rotate_left 2
          refine hk_tag 73 ?_
          rotate_right 2)
       | (· with_reducible exact Ty.ok74
          rotate_left 2
          refine hk_tag 74 ?_
          rotate_right 2)
       | (· with_reducible exact Ty.ok75
          rotate_left 2
          refine hk_tag 75 ?_
          rotate_right 2)
       | (· with_reducible exact Ty.ok76
          rotate_left 2
          refine hk_tag 76 ?_
          rotate_right 2)
       | (· with_reducible exact Ty.ok77
          rotate_left 2
          refine hk_tag 77 ?_
          rotate_right 2)
       )
    | (refine xr_gcl (f := ?_) (fs := ?_) (cs := ?_) (args := ?_) (K := ?_) (by exact rfl) ?_ ?_ ?_ ?_ ?_ ?_
       rotate_left 5
       · simp only [ev, put_some, reduceIte, Nat.reduceEqDiff, Bool.not_true, Bool.not_false, *]
       · simp only [ev]; rfl
       first
       | (· with_reducible exact Ty.ok18
          rotate_left 2
          refine hk_tag 18 ?_
          rotate_right 2)
       | (· with_reducible exact Ty.ok25
          rotate_left 2
          refine hk_tag 25 ?_
          rotate_right 2)
       | (· with_reducible exact Ty.ok30
          rotate_left 2
          refine hk_tag 30 ?_
          rotate_right 2)
       | (· with_reducible exact Ty.ok73
          rotate_left 2
          refine hk_tag 73 ?_
          rotate_right 2)
       | (· with_reducible exact Ty.ok74
          rotate_left 2
          refine hk_tag 74 ?_
          rotate_right 2)
       | (· with_reducible exact Ty.ok75
          rotate_left 2
          refine hk_tag 75 ?_
          rotate_right 2)
       | (· with_reducible exact Ty.ok76
          rotate_left 2
          refine hk_tag 76 ?_
          rotate_right 2)
       | (· with_reducible exact Ty.ok77
          rotate_left 2
          refine hk_tag 77 ?_
          rotate_right 2)
       )
    | (refine xr_do (v := ?_) (h' := ?_) (by exact rfl) ?_ ?_; rotate_left 2)
    | (refine xr_st (v := ?_) (h' := ?_) (by exact rfl) ?_ ?_; rotate_left 2)
    | (refine xr_gdo (v := ?_) (h' := ?_) (by exact rfl) (by exact rfl) ?_ ?_ ?_
       rotate_left 2
       · simp only [ev, put_some, reduceIte, Nat.reduceEqDiff, Bool.not_true, Bool.not_false, *])
    | (refine xr_gst (v := ?_) (h' := ?_) (by exact rfl) (by exact rfl) ?_ ?_ ?_
       rotate_left 2
       · simp only [ev, put_some, reduceIte, Nat.reduceEqDiff, Bool.not_true, Bool.not_false, *])
    | (refine xr_goff (by exact rfl) ?_ ?_
       · simp only [ev, put_some, reduceIte, Nat.reduceEqDiff, Bool.not_true, Bool.not_false, *])
    | (refine xr_gsoff (by exact rfl) ?_ ?_
       · simp only [ev, put_some, reduceIte, Nat.reduceEqDiff, Bool.not_true, Bool.not_false, *])
    | (refine xr_gund (by exact rfl) ?_ ?_
       · simp only [ev, put_some, reduceIte, Nat.reduceEqDiff, Bool.not_true, Bool.not_false, *])
    | (refine xr_gsund (by exact rfl) ?_ ?_
       · simp only [ev, put_some, reduceIte, Nat.reduceEqDiff, Bool.not_true, Bool.not_false, *])
    | (refine xr_gif (b := ?_) (by exact rfl) ?_ (fun hb => ?_) (fun hb => ?_)
       rotate_left 1
       · simp only [ev, put_some, reduceIte, Nat.reduceEqDiff, Bool.not_true, Bool.not_false, *]; rfl)
    | (refine aw_ift (by decide) ?_ ?_
       · simp only [ev, put_some, reduceIte, Nat.reduceEqDiff, *])
    | (refine aw_iff (by decide) ?_ ?_
       · simp only [ev, put_some, reduceIte, Nat.reduceEqDiff, *])
    | (refine aw_if (b := ?_) (by decide) ?_ (fun hb => ?_) (fun hb => ?_)
       rotate_left 1
       · simp only [ev, put_some, reduceIte, Nat.reduceEqDiff, *]; rfl)
    | (refine r_ret (vs := ?_) ?_ ?_
       rotate_left 1
       · simp only [resV, ev, put_some, reduceIte, Nat.reduceEqDiff, Option.map_some, *]; rfl)
    | (with_reducible refine implPlay_k _ _ _ _ _ _ _ ?_ ?_
       · assumption
       · assumption
       )
    | (with_reducible refine big_ok _ _ _ _ _ _ _ ?_ ?_
       · assumption
       · assumption
       )
    | (with_reducible exact isOver_ok _ _)
    | (with_reducible refine drawNew_c l1 _ _ ?_ ?_ ?_ ?_
       · first | assumption | exact hs1.old _
       · (intro k hq; have hz := hb1 _ hq; (try (simp only [List.length_append, List.length_cons] at hz)); omega)
       · assumption
       · assumption
       )
    | (with_reducible exact implNewGroup_ok _ _ _ _ _ _)
    | (with_reducible exact specNewGroup_ok _ _ _ _ _ _)
    | (with_reducible refine drawIsOver_ok l2 _ _ ?_ ?_ ?_ ?_
       · first | assumption | exact hs2.old _
       · (intro k hq; have hz := hb2 _ hq; (try (simp only [List.length_append, List.length_cons] at hz)); omega)
       · assumption
       · assumption
       )
    | (with_reducible exact specIsOver_ok _ _)
    | ((with_reducible refine HkTag.mk (n := 18) ?_); rintro _ _ ⟨rfl, hh⟩; replace hh := hh.symm; subst hh)
    | ((with_reducible refine HkTag.mk (n := 25) ?_); rintro _ _ ⟨rfl, hh⟩; replace hh := hh.symm; subst hh)
    | ((with_reducible refine HkTag.mk (n := 30) ?_); rintro _ _ ⟨rfl, hh⟩; replace hh := hh.symm; subst hh)
    | ((with_reducible refine HkTag.mk (n := 73) ?_); rintro _ _ ⟨na, nb, nc, nd, no, E1, rfl, rfl, hgd | hgd⟩)
    | ((with_reducible refine HkTag.mk (n := 74) ?_); rintro _ _ ⟨rfl, hh⟩; replace hh := hh.symm; subst hh)
    | ((with_reducible refine HkTag.mk (n := 75) ?_); rintro _ _ ⟨rfl, hh⟩; replace hh := hh.symm; subst hh)
    | ((with_reducible refine HkTag.mk (n := 76) ?_); rintro _ _ ⟨w, E3, rfl, rfl⟩)
    | ((with_reducible refine HkTag.mk (n := 77) ?_); rintro _ _ ⟨rfl, hh⟩; replace hh := hh.symm; subst hh)
    )
  · rfl
  · have hgd' := hgd
    simp only [goodG, decide_eq_true_eq] at hgd'
    generalize hG : (⟨2, 1, (Grp.mk na nb nc nd 0 no).cells⟩ : Blk) = G at *
    refine aw_for [0, 1, 5, 6, 7, 8, 9, 10, 11, 12, 13] (fun k T h' => ∃ L, h' = h ++ (E1 ++ G :: G :: L) ∧ T 15 = .int .i64 (k : Nat) ∧ Fr (h.length + (E1.length + 2)) L (T 14) 1 ((3 :: List.replicate k 2 : List Int).map (Value.int .i64)) (k + 1)) nd.toNat (k0 := 0) (Nat.zero_le _) ⟨[⟨2, 1, [.int .i64 3]⟩], rfl, rfl, Fr.at0 rfl rfl (by omega) (.inl rfl)⟩ ?_
    rintro k T h' hk hR ⟨L, rfl, h15, hfr⟩
    simp only [List.forall_mem_cons, List.not_mem_nil, false_implies, implies_true, and_true, stp, ev, put_some, put_none, argT_list, List.getD_cons_zero, List.getD_cons_succ, reduceIte, Nat.reduceEqDiff, Option.map_some, Array.map_empty, List.map_toArray, List.map_cons, List.map_nil, List.append_toArray, Array.append_empty, Array.empty_append, List.nil_append, List.append_nil, and_self, if_true, decide_true, decide_false, Int.toNat_natCast, Int.natCast_nonneg, List.length_map, binV_add, binV_sub, binV_and, binV_shr, binV_shl, binV_str_eql, binV_str_neq, binV_mul, binV_eql, binV_neq, binV_lss, binV_leq, binV_gtr, binV_geq, unV_not, Bool.not_true, Bool.not_false, Bool.cond_true, Bool.cond_false] at hR
    rcases Nat.lt_or_ge k nd.toNat with hkn | hkn
    · have hlt : (k : Int) < nd := by omega
      have hbs := bsl_one (h := h ++ (E1 ++ G :: G :: L)) (x := .int .i64 2) Ty.sl24 Ty.zc3 rfl rfl
      obtain ⟨v', L', hap', happ⟩ := fr_step (h2 := h ++ (E1 ++ [G, G])) (L := L) (E := [⟨2, 1, [.int .i64 2]⟩]) (j := 0) (ix := h.length + (E1.length + (L.length + 2)))
        Ty.sl24 Ty.zc3 Ty.by3 (by simpa [Nat.add_assoc] using hfr) rfl rfl (by simp; omega) (by omega) (by omega)
      simp only [List.append_assoc, List.cons_append, List.nil_append, List.length_append, List.length_cons, List.length_nil, Nat.zero_add, Nat.add_assoc, Nat.reduceAdd] at hbs hap' happ
      repeat' (first
        | ((with_reducible refine eq_go ?_); simp only [stp, ev, put_some, put_none, argT_list, List.getD_cons_zero, List.getD_cons_succ, reduceIte, Nat.reduceEqDiff, Option.map_some, Array.map_empty, List.map_toArray, List.map_cons, List.map_nil, List.append_toArray, Array.append_empty, Array.empty_append, List.nil_append, List.append_nil, and_self, if_true, decide_true, decide_false, Int.toNat_natCast, Int.natCast_nonneg, List.length_map, binV_add, binV_sub, binV_and, binV_shr, binV_shl, binV_str_eql, binV_str_neq, binV_mul, binV_eql, binV_neq, binV_lss, binV_leq, binV_gtr, binV_geq, unV_not, Bool.not_true, Bool.not_false, Bool.cond_true, Bool.cond_false, binV_bool_neq, binV_bool_eql, Ty.un4, Option.map_none, List.getElem?_toArray, List.getElem?_cons_zero, List.getElem?_cons_succ, ldv, stv, vcs, fldA, idxA, blt, lenV, List.size_toArray, List.length_cons, List.length_nil, Nat.zero_add, Array.getD_eq_getD_getElem?, List.getElem?_toArray, List.getElem?_cons_zero, List.getElem?_cons_succ, Option.getD_some, Option.isSome_some, Nat.add_assoc, List.toList_toArray, eq_self, Option.bind_some, List.append_assoc, List.cons_append, List.length_append, List.length_cons, List.length_nil, Nat.zero_add, Nat.add_zero, Nat.reduceAdd, Nat.reduceMul, Nat.reduceLeDiff, mset_some, mset_none, set_at, set_at0, killL_nil, killL_cons, getC_succ2, getC_succ3, getC_succ4, getC_succ5, getC_succ6, loadCs_succ2, loadCs_succ3, loadCs_succ4, loadCs_succ5, loadCs_succ6, setCs_succ2, setCs_succ3, setCs_succ4, setCs_succ5, setCs_succ6, getC_at, getC_at0, getC_zero, getC_succ, loadCs_at, loadCs_at0, loadCs_zero, loadCs_succ, setCs_at, setCs_at0, setCs_zero, setCs_succ, splice, List.set_cons_succ, List.set_cons_zero, List.getElem?_cons_zero, List.getElem?_cons_succ, List.drop_zero, List.drop_succ_cons, List.take_succ_cons, List.take_zero, newB, vcs, flat_int, flat_bool, flat_string, flat_slice, flat_pointer, flat_func, flat_nilFunc, List.all_cons, List.all_nil, Bool.and_true, Bool.and_self, Ty.ld3, Ty.sz3, Ty.zc3, Ty.by3, Ty.ld4, Ty.sz4, Ty.zc4, Ty.by4, Ty.ld5, Ty.sz5, Ty.zc5, Ty.by5, Ty.ld24, Ty.sz24, Ty.sl24, Ty.zc24, Ty.by24, Ty.ld25, Ty.sz25, Ty.zc25, Ty.by25, Ty.fl25_0, Ty.fl25_1, Ty.fl25_2, Ty.fl25_3, Ty.fl25_4, Ty.fl25_5, Ty.ld26, Ty.sz26, Ty.sl26, Ty.zc26, Ty.by26, Ty.ld37, Ty.sz37, Ty.sl37, Ty.zc37, Ty.by37, newV, *]; rfl)
        | (with_reducible refine aw_then ?_) | (with_reducible refine aw_skip ?_) | (with_reducible refine aw_ret ?_) | (with_reducible refine aw_exit ?_) | (with_reducible refine aw_block ?_) | (with_reducible refine xr_reg (by decide +kernel) ?_)
        | (with_reducible refine xr_nil ?_) | (with_reducible refine k_norm ?_) | (with_reducible refine k_ret ?_) | (with_reducible refine k_exit ?_) | (with_reducible refine b_norm ?_) | (with_reducible refine b_ret ?_) | (with_reducible refine b_exit ?_) | (with_reducible refine b_past (by decide) ?_)
        | (refine xr_cl (f := ?_) (fs := ?_) (cs := ?_) (args := ?_) (K := ?_) ?_ ?_ ?_ ?_ ?_
           rotate_left 5
           · simp only [ev]; rfl
           first
           | (· with_reducible exact Ty.ok18
              rotate_left 2
              refine hk_tag 18 ?_
              rotate_right 2)
           | (· with_reducible exact Ty.ok25
              rotate_left 2
              refine hk_tag 25 ?_
              rotate_right 2)
           | (· with_reducible exact Ty.ok30
              rotate_left 2
              refine hk_tag 30 ?_
              rotate_right 2)
           | (· with_reducible exact Ty.ok73
              rotate_left 2
              refine hk_tag 73 ?_
              rotate_right 2)
           | (· with_reducible exact Ty.ok74
              rotate_left 2
              refine hk_tag 74 ?_
              rotate_right 2)
           | (· with_reducible exact Ty.ok75
              rotate_left 2
              refine hk_tag 75 ?_
              rotate_right 2)
           | (· with_reducible exact Ty.ok76
              rotate_left 2
              refine hk_tag 76 ?_
              rotate_right 2)
           | (· with_reducible exact Ty.ok77
              rotate_left 2
              refine hk_tag 77 ?_
              rotate_right 2)
           )
        | (refine xr_gcl (f := ?_) (fs := ?_) (cs := ?_) (args := ?_) (K := ?_) (by exact rfl) ?_ ?_ ?_ ?_ ?_ ?_
           rotate_left 5
           · simp only [ev, put_some, reduceIte, Nat.reduceEqDiff, Bool.not_true, Bool.not_false, *]
           · simp only [ev]; rfl
           first
           | (· with_reducible exact Ty.ok18
              rotate_left 2
              refine hk_tag 18 ?_
              rotate_right 2)
           | (· with_reducible exact Ty.ok25
              rotate_left 2
              refine hk_tag 25 ?_
              rotate_right 2)
           | (· with_reducible exact Ty.ok30
              rotate_left 2
              refine hk_tag 30 ?_
              rotate_right 2)
           | (· with_reducible exact Ty.ok73
              rotate_left 2
              refine hk_tag 73 ?_
              rotate_right 2)
           | (· with_reducible exact Ty.ok74
              rotate_left 2
              refine hk_tag 74 ?_
              rotate_right 2)
           | (· with_reducible exact Ty.ok75
              rotate_left 2
              refine hk_tag 75 ?_
              rotate_right 2)
           | (· with_reducible exact Ty.ok76
              rotate_left 2
              refine hk_tag 76 ?_
              rotate_right 2)
           | (· with_reducible exact Ty.ok77
              rotate_left 2
              refine hk_tag 77 ?_
              rotate_right 2)
           )
        | (refine xr_do (v := ?_) (h' := ?_) (by exact rfl) ?_ ?_; rotate_left 2)
        | (refine xr_st (v := ?_) (h' := ?_) (by exact rfl) ?_ ?_; rotate_left 2)
        | (refine xr_gdo (v := ?_) (h' := ?_) (by exact rfl) (by exact rfl) ?_ ?_ ?_
           rotate_left 2
           · simp only [ev, put_some, reduceIte, Nat.reduceEqDiff, Bool.not_true, Bool.not_false, *])
        | (refine xr_gst (v := ?_) (h' := ?_) (by exact rfl) (by exact rfl) ?_ ?_ ?_
           rotate_left 2
           · simp only [ev, put_some, reduceIte, Nat.reduceEqDiff, Bool.not_true, Bool.not_false, *])
        | (refine xr_goff (by exact rfl) ?_ ?_
           · simp only [ev, put_some, reduceIte, Nat.reduceEqDiff, Bool.not_true, Bool.not_false, *])
        | (refine xr_gsoff (by exact rfl) ?_ ?_
           · simp only [ev, put_some, reduceIte, Nat.reduceEqDiff, Bool.not_true, Bool.not_false, *])
        | (refine xr_gund (by exact rfl) ?_ ?_
           · simp only [ev, put_some, reduceIte, Nat.reduceEqDiff, Bool.not_true, Bool.not_false, *])
        | (refine xr_gsund (by exact rfl) ?_ ?_
           · simp only [ev, put_some, reduceIte, Nat.reduceEqDiff, Bool.not_true, Bool.not_false, *])
        | (refine xr_gif (b := ?_) (by exact rfl) ?_ (fun hb => ?_) (fun hb => ?_)
           rotate_left 1
           · simp only [ev, put_some, reduceIte, Nat.reduceEqDiff, Bool.not_true, Bool.not_false, *]; rfl)
        | (refine aw_ift (by decide) ?_ ?_
           · simp only [ev, put_some, reduceIte, Nat.reduceEqDiff, *])
        | (refine aw_iff (by decide) ?_ ?_
           · simp only [ev, put_some, reduceIte, Nat.reduceEqDiff, *])
        | (refine aw_if (b := ?_) (by decide) ?_ (fun hb => ?_) (fun hb => ?_)
           rotate_left 1
           · simp only [ev, put_some, reduceIte, Nat.reduceEqDiff, *]; rfl)
        | (refine r_ret (vs := ?_) ?_ ?_
           rotate_left 1
           · simp only [resV, ev, put_some, reduceIte, Nat.reduceEqDiff, Option.map_some, *]; rfl)
        | (with_reducible refine implPlay_k _ _ _ _ _ _ _ ?_ ?_
           · assumption
           · assumption
           )
        | (with_reducible refine big_ok _ _ _ _ _ _ _ ?_ ?_
           · assumption
           · assumption
           )
        | (with_reducible exact isOver_ok _ _)
        | (with_reducible refine drawNew_c l1 _ _ ?_ ?_ ?_ ?_
           · first | assumption | exact hs1.old _
           · (intro k hq; have hz := hb1 _ hq; (try (simp only [List.length_append, List.length_cons] at hz)); omega)
           · assumption
           · assumption
           )
        | (with_reducible exact implNewGroup_ok _ _ _ _ _ _)
        | (with_reducible exact specNewGroup_ok _ _ _ _ _ _)
        | (with_reducible refine drawIsOver_ok l2 _ _ ?_ ?_ ?_ ?_
           · first | assumption | exact hs2.old _
           · (intro k hq; have hz := hb2 _ hq; (try (simp only [List.length_append, List.length_cons] at hz)); omega)
           · assumption
           · assumption
           )
        | (with_reducible exact specIsOver_ok _ _)
        | ((with_reducible refine HkTag.mk (n := 18) ?_); rintro _ _ ⟨rfl, hh⟩; replace hh := hh.symm; subst hh)
        | ((with_reducible refine HkTag.mk (n := 25) ?_); rintro _ _ ⟨rfl, hh⟩; replace hh := hh.symm; subst hh)
        | ((with_reducible refine HkTag.mk (n := 30) ?_); rintro _ _ ⟨rfl, hh⟩; replace hh := hh.symm; subst hh)
        | ((with_reducible refine HkTag.mk (n := 73) ?_); rintro _ _ ⟨na, nb, nc, nd, no, E1, rfl, rfl, hgd | hgd⟩)
        | ((with_reducible refine HkTag.mk (n := 74) ?_); rintro _ _ ⟨rfl, hh⟩; replace hh := hh.symm; subst hh)
        | ((with_reducible refine HkTag.mk (n := 75) ?_); rintro _ _ ⟨rfl, hh⟩; replace hh := hh.symm; subst hh)
        | ((with_reducible refine HkTag.mk (n := 76) ?_); rintro _ _ ⟨w, E3, rfl, rfl⟩)
        | ((with_reducible refine HkTag.mk (n := 77) ?_); rintro _ _ ⟨rfl, hh⟩; replace hh := hh.symm; subst hh)
        )
      refine ⟨by first | assumption | omega, ?_, ?_⟩
      · simp only [List.forall_mem_cons, List.not_mem_nil, false_implies, implies_true, and_true, and_self, stp, ev, put_some, put_none, argT_list, List.getD_cons_zero, List.getD_cons_succ, reduceIte, Nat.reduceEqDiff, Option.map_some, Array.map_empty, List.map_toArray, List.map_cons, List.map_nil, List.append_toArray, Array.append_empty, Array.empty_append, List.nil_append, List.append_nil, and_self, if_true, decide_true, decide_false, Int.toNat_natCast, Int.natCast_nonneg, List.length_map, binV_add, binV_sub, binV_and, binV_shr, binV_shl, binV_str_eql, binV_str_neq, binV_mul, binV_eql, binV_neq, binV_lss, binV_leq, binV_gtr, binV_geq, unV_not, Bool.not_true, Bool.not_false, Bool.cond_true, Bool.cond_false, *]
      refine ⟨L', rfl, ?_, ?_⟩
      · simp only [put_some, reduceIte, Nat.reduceEqDiff]
        rw [wrap_id (by omega)]; rfl
      · simp only [put_some, reduceIte, Nat.reduceEqDiff]
        rw [show ((3 :: List.replicate (k + 1) 2 : List Int).map (Value.int .i64)) = (Value.int .i64 3 :: (List.replicate k (Value.int .i64 2) ++ [Value.int .i64 2])) by simp [List.replicate_succ']]
        exact happ
    · obtain rfl : k = nd.toNat := by omega
      have hlt : ¬ ((nd.toNat : Nat) : Int) < nd := by omega
      have hsl : Sl (h ++ (E1 ++ G :: G :: L)) (T 14) 1 (ints (3 :: List.replicate nd.toNat 2)) := by
        have := fr_sl (h2 := h ++ (E1 ++ [G, G])) (L := L) (v := T 14) (3 :: List.replicate nd.toNat 2) (by simpa [Nat.add_assoc] using hfr)
        simpa using this
      obtain ⟨bk, h14⟩ := fr_slice hfr
      rw [h14] at hsl
      clear hfr hk hkn
      subst hG
      have hcut : cut Try.prog 26 (h ++ (E1 ++ ⟨2, 1, (Grp.mk na nb nc nd 0 no).cells⟩ :: ⟨2, 1, (Grp.mk na nb nc nd 0 no).cells⟩ :: (L ++ [⟨2, 1, bools (endB nc nd no nd.toNat)⟩, ⟨2, 1, (endG na nb nc nd nd.toNat).cells⟩]))) (.slice (some ⟨h.length + (E1.length + (L.length + 2)), 0, some 0⟩) (nd.toNat + 1) (nd.toNat + 1)) (some (.int .i64 1)) none none = some (.slice (some ⟨h.length + (E1.length + (L.length + 2)), 1, some 0⟩) nd.toNat nd.toNat) :=
        cut_in Ty.sl26 Ty.sz4 (bk := ⟨2, 1, bools (endB nc nd no nd.toNat)⟩) (by rw [get_at, get_at]; simp) ⟨rfl, rfl⟩
      have hgood : goodG (endG na nb nc nd nd.toNat) = true := by
        have q1 : ((min nd.toNat (min nc.toNat nd.toNat) : Nat) : Int) ≤ nd := by omega
        have q2 : (0 : Int) ≤ ((min nd.toNat (min nc.toNat nd.toNat) : Nat) : Int) := Int.natCast_nonneg _
        have q3 : ((min nd.toNat (min nc.toNat nd.toNat) : Nat) : Int) ≤ nc := by omega
        unfold goodG
        exact decide_eq_true ⟨hgd'.1, hgd'.2.1, hgd'.2.2.1, hgd'.2.2.2.1, q2, q1, q3⟩
      have hover := endG_over na nb nc nd nd.toNat (by omega) (by omega)
      have htl : (endB nc nd no nd.toNat).length = nd.toNat + 1 := by
        simp only [endB, List.length_cons, List.length_append, List.length_replicate]; omega
      have hcnt := endB_count nc nd no nd.toNat
      repeat' (first
        | ((with_reducible refine eq_go ?_); simp only [stp, ev, put_some, put_none, argT_list, List.getD_cons_zero, List.getD_cons_succ, reduceIte, Nat.reduceEqDiff, Option.map_some, Array.map_empty, List.map_toArray, List.map_cons, List.map_nil, List.append_toArray, Array.append_empty, Array.empty_append, List.nil_append, List.append_nil, and_self, if_true, decide_true, decide_false, Int.toNat_natCast, Int.natCast_nonneg, List.length_map, binV_add, binV_sub, binV_and, binV_shr, binV_shl, binV_str_eql, binV_str_neq, binV_mul, binV_eql, binV_neq, binV_lss, binV_leq, binV_gtr, binV_geq, unV_not, Bool.not_true, Bool.not_false, Bool.cond_true, Bool.cond_false, binV_bool_neq, binV_bool_eql, Ty.un4, Option.map_none, List.getElem?_toArray, List.getElem?_cons_zero, List.getElem?_cons_succ, ldv, stv, vcs, fldA, idxA, blt, lenV, List.size_toArray, List.length_cons, List.length_nil, Nat.zero_add, Array.getD_eq_getD_getElem?, List.getElem?_toArray, List.getElem?_cons_zero, List.getElem?_cons_succ, Option.getD_some, Option.isSome_some, Nat.add_assoc, List.toList_toArray, eq_self, Option.bind_some, List.append_assoc, List.cons_append, List.length_append, List.length_cons, List.length_nil, Nat.zero_add, Nat.add_zero, Nat.reduceAdd, Nat.reduceMul, Nat.reduceLeDiff, mset_some, mset_none, set_at, set_at0, killL_nil, killL_cons, getC_succ2, getC_succ3, getC_succ4, getC_succ5, getC_succ6, loadCs_succ2, loadCs_succ3, loadCs_succ4, loadCs_succ5, loadCs_succ6, setCs_succ2, setCs_succ3, setCs_succ4, setCs_succ5, setCs_succ6, getC_at, getC_at0, getC_zero, getC_succ, loadCs_at, loadCs_at0, loadCs_zero, loadCs_succ, setCs_at, setCs_at0, setCs_zero, setCs_succ, splice, List.set_cons_succ, List.set_cons_zero, List.getElem?_cons_zero, List.getElem?_cons_succ, List.drop_zero, List.drop_succ_cons, List.take_succ_cons, List.take_zero, newB, vcs, flat_int, flat_bool, flat_string, flat_slice, flat_pointer, flat_func, flat_nilFunc, List.all_cons, List.all_nil, Bool.and_true, Bool.and_self, Ty.ld3, Ty.sz3, Ty.zc3, Ty.by3, Ty.ld4, Ty.sz4, Ty.zc4, Ty.by4, Ty.ld5, Ty.sz5, Ty.zc5, Ty.by5, Ty.ld24, Ty.sz24, Ty.sl24, Ty.zc24, Ty.by24, Ty.ld25, Ty.sz25, Ty.zc25, Ty.by25, Ty.fl25_0, Ty.fl25_1, Ty.fl25_2, Ty.fl25_3, Ty.fl25_4, Ty.fl25_5, Ty.ld26, Ty.sz26, Ty.sl26, Ty.zc26, Ty.by26, Ty.ld37, Ty.sz37, Ty.sl37, Ty.zc37, Ty.by37, newV, Grp.cells_length, Grp.cells_flat, Grp.cells_take, Grp.cells_splice, Grp.get3, Grp.get4, Bool.and_self, *]; rfl)
        | (with_reducible refine aw_then ?_) | (with_reducible refine aw_skip ?_) | (with_reducible refine aw_ret ?_) | (with_reducible refine aw_exit ?_) | (with_reducible refine aw_block ?_) | (with_reducible refine xr_reg (by decide +kernel) ?_)
        | (with_reducible refine xr_nil ?_) | (with_reducible refine k_norm ?_) | (with_reducible refine k_ret ?_) | (with_reducible refine k_exit ?_) | (with_reducible refine b_norm ?_) | (with_reducible refine b_ret ?_) | (with_reducible refine b_exit ?_) | (with_reducible refine b_past (by decide) ?_)
        | (refine xr_cl (f := ?_) (fs := ?_) (cs := ?_) (args := ?_) (K := ?_) ?_ ?_ ?_ ?_ ?_
           rotate_left 5
           · simp only [ev]; rfl
           first
           | (· with_reducible exact Ty.ok18
              rotate_left 2
              refine hk_tag 18 ?_
              rotate_right 2)
           | (· with_reducible exact Ty.ok25
              rotate_left 2
              refine hk_tag 25 ?_
              rotate_right 2)
           | (· with_reducible exact Ty.ok30
              rotate_left 2
              refine hk_tag 30 ?_
              rotate_right 2)
           | (· with_reducible exact Ty.ok73
              rotate_left 2
              refine hk_tag 73 ?_
              rotate_right 2)
           | (· with_reducible exact Ty.ok74
              rotate_left 2
              refine hk_tag 74 ?_
              rotate_right 2)
           | (· with_reducible exact Ty.ok75
              rotate_left 2
              refine hk_tag 75 ?_
              rotate_right 2)
           | (· with_reducible exact Ty.ok76
              rotate_left 2
              refine hk_tag 76 ?_
              rotate_right 2)
           | (· with_reducible exact Ty.ok77
              rotate_left 2
              refine hk_tag 77 ?_
              rotate_right 2)
           )
        | (refine xr_gcl (f := ?_) (fs := ?_) (cs := ?_) (args := ?_) (K := ?_) (by exact rfl) ?_ ?_ ?_ ?_ ?_ ?_
           rotate_left 5
           · simp only [ev, put_some, reduceIte, Nat.reduceEqDiff, Bool.not_true, Bool.not_false, *]
           · simp only [ev]; rfl
           first
           | (· with_reducible exact Ty.ok18
              rotate_left 2
              refine hk_tag 18 ?_
              rotate_right 2)
           | (· with_reducible exact Ty.ok25
              rotate_left 2
              refine hk_tag 25 ?_
              rotate_right 2)
           | (· with_reducible exact Ty.ok30
              rotate_left 2
              refine hk_tag 30 ?_
              rotate_right 2)
           | (· with_reducible exact Ty.ok73
              rotate_left 2
              refine hk_tag 73 ?_
              rotate_right 2)
           | (· with_reducible exact Ty.ok74
              rotate_left 2
              refine hk_tag 74 ?_
              rotate_right 2)
           | (· with_reducible exact Ty.ok75
              rotate_left 2
              refine hk_tag 75 ?_
              rotate_right 2)
           | (· with_reducible exact Ty.ok76
              rotate_left 2
              refine hk_tag 76 ?_
              rotate_right 2)
           | (· with_reducible exact Ty.ok77
              rotate_left 2
              refine hk_tag 77 ?_
              rotate_right 2)
           )
        | (refine xr_do (v := ?_) (h' := ?_) (by exact rfl) ?_ ?_; rotate_left 2)
        | (refine xr_st (v := ?_) (h' := ?_) (by exact rfl) ?_ ?_; rotate_left 2)
        | (refine xr_gdo (v := ?_) (h' := ?_) (by exact rfl) (by exact rfl) ?_ ?_ ?_
           rotate_left 2
           · simp only [ev, put_some, reduceIte, Nat.reduceEqDiff, Bool.not_true, Bool.not_false, *])
        | (refine xr_gst (v := ?_) (h' := ?_) (by exact rfl) (by exact rfl) ?_ ?_ ?_
           rotate_left 2
           · simp only [ev, put_some, reduceIte, Nat.reduceEqDiff, Bool.not_true, Bool.not_false, *])
        | (refine xr_goff (by exact rfl) ?_ ?_
           · simp only [ev, put_some, reduceIte, Nat.reduceEqDiff, Bool.not_true, Bool.not_false, *])
        | (refine xr_gsoff (by exact rfl) ?_ ?_
           · simp only [ev, put_some, reduceIte, Nat.reduceEqDiff, Bool.not_true, Bool.not_false, *])
        | (refine xr_gund (by exact rfl) ?_ ?_
           · simp only [ev, put_some, reduceIte, Nat.reduceEqDiff, Bool.not_true, Bool.not_false, *])
        | (refine xr_gsund (by exact rfl) ?_ ?_
           · simp only [ev, put_some, reduceIte, Nat.reduceEqDiff, Bool.not_true, Bool.not_false, *])
        | (refine xr_gif (b := ?_) (by exact rfl) ?_ (fun hb => ?_) (fun hb => ?_)
           rotate_left 1
           · simp only [ev, put_some, reduceIte, Nat.reduceEqDiff, Bool.not_true, Bool.not_false, *]; rfl)
        | (refine aw_ift (by decide) ?_ ?_
           · simp only [ev, put_some, reduceIte, Nat.reduceEqDiff, *])
        | (refine aw_iff (by decide) ?_ ?_
           · simp only [ev, put_some, reduceIte, Nat.reduceEqDiff, *])
        | (refine aw_if (b := ?_) (by decide) ?_ (fun hb => ?_) (fun hb => ?_)
           rotate_left 1
           · simp only [ev, put_some, reduceIte, Nat.reduceEqDiff, *]; rfl)
        | (refine r_ret (vs := ?_) ?_ ?_
           rotate_left 1
           · simp only [resV, ev, put_some, reduceIte, Nat.reduceEqDiff, Option.map_some, *]; rfl)
        | (with_reducible refine implPlay_k _ _ _ _ _ _ _ ?_ ?_
           · assumption
           · assumption
           )
        | (with_reducible refine big_ok _ _ _ _ _ _ _ ?_ ?_
           · assumption
           · assumption
           )
        | (with_reducible exact isOver_ok _ _)
        | (with_reducible refine drawNew_c l1 _ _ ?_ ?_ ?_ ?_
           · first | assumption | exact hs1.old _
           · (intro k hq; have hz := hb1 _ hq; (try (simp only [List.length_append, List.length_cons] at hz)); omega)
           · assumption
           · assumption
           )
        | (with_reducible exact implNewGroup_ok _ _ _ _ _ _)
        | (with_reducible exact specNewGroup_ok _ _ _ _ _ _)
        | (with_reducible refine drawIsOver_ok l2 _ _ ?_ ?_ ?_ ?_
           · first | assumption | exact hs2.old _
           · (intro k hq; have hz := hb2 _ hq; (try (simp only [List.length_append, List.length_cons] at hz)); omega)
           · assumption
           · assumption
           )
        | (with_reducible exact specIsOver_ok _ _)
        | ((with_reducible refine HkTag.mk (n := 18) ?_); rintro _ _ ⟨rfl, hh⟩; replace hh := hh.symm; subst hh)
        | ((with_reducible refine HkTag.mk (n := 25) ?_); rintro _ _ ⟨rfl, hh⟩; replace hh := hh.symm; subst hh)
        | ((with_reducible refine HkTag.mk (n := 30) ?_); rintro _ _ ⟨rfl, hh⟩; replace hh := hh.symm; subst hh)
        | ((with_reducible refine HkTag.mk (n := 73) ?_); rintro _ _ ⟨na, nb, nc, nd, no, E1, rfl, rfl, hgd | hgd⟩)
        | ((with_reducible refine HkTag.mk (n := 74) ?_); rintro _ _ ⟨rfl, hh⟩; replace hh := hh.symm; subst hh)
        | ((with_reducible refine HkTag.mk (n := 75) ?_); rintro _ _ ⟨rfl, hh⟩; replace hh := hh.symm; subst hh)
        | ((with_reducible refine HkTag.mk (n := 76) ?_); rintro _ _ ⟨w, E3, rfl, rfl⟩)
        | ((with_reducible refine HkTag.mk (n := 77) ?_); rintro _ _ ⟨rfl, hh⟩; replace hh := hh.symm; subst hh)
        )
      · rfl
      refine aw_for [1, 7, 8, 16, 18, 19, 20, 104, 105] (fun k T h' => h' = h ++ (E1 ++ ⟨2, 1, (Grp.mk na nb nc nd 0 no).cells⟩ :: ⟨2, 1, (Grp.mk na nb nc nd 0 no).cells⟩ :: (L ++ [⟨2, 1, bools (endB nc nd no nd.toNat)⟩, ⟨2, 1, (endG na nb nc nd nd.toNat).cells⟩])) ∧ T 106 = .int .i64 (k : Nat) ∧ T 21 = .int .i64 ((((endB nc nd no nd.toNat).tail.take k).filter id).length : Nat)) nd.toNat (k0 := 0) (Nat.zero_le _) ⟨rfl, rfl, rfl⟩ ?_
      have h1r := hR.2.1
      have h7r := hR.2.2.2.2.1
      have h8r := hR.2.2.2.2.2.1
      clear hcut hR
      rintro k T2 h2 hk hR ⟨rfl, h106, h21⟩
      simp only [List.forall_mem_cons, List.not_mem_nil, false_implies, implies_true, and_true, stp, ev, put_some, put_none, argT_list, List.getD_cons_zero, List.getD_cons_succ, reduceIte, Nat.reduceEqDiff, Option.map_some, Array.map_empty, List.map_toArray, List.map_cons, List.map_nil, List.append_toArray, Array.append_empty, Array.empty_append, List.nil_append, List.append_nil, and_self, if_true, decide_true, decide_false, Int.toNat_natCast, Int.natCast_nonneg, List.length_map, binV_add, binV_sub, binV_and, binV_shr, binV_shl, binV_str_eql, binV_str_neq, binV_mul, binV_eql, binV_neq, binV_lss, binV_leq, binV_gtr, binV_geq, unV_not, Bool.not_true, Bool.not_false, Bool.cond_true, Bool.cond_false] at hR
      have hdon : (endG na nb nc nd nd.toNat).don = ((min nd.toNat (min nc.toNat nd.toNat) : Nat) : Int) := rfl
      have hbl : (bools (endB nc nd no nd.toNat)).length = nd.toNat + 1 := by rw [bools_len, htl]
      have htt : (endB nc nd no nd.toNat).tail.length = nd.toNat := by rw [List.length_tail, htl]; omega
      rcases Nat.lt_or_ge k nd.toNat with hkn | hkn
      · have hlt2 : (k : Int) < (nd.toNat : Nat) := by omega
        have hx : (bools (endB nc nd no nd.toNat))[1 + k]? = some (.bool ((endB nc nd no nd.toNat).tail[k]'(by omega))) := by
          rw [bools, List.getElem?_map, Nat.add_comm, ← List.getElem?_tail, List.getElem?_eq_getElem (by omega)]; rfl
        have hsn : (((endB nc nd no nd.toNat).tail.take (k + 1)).filter id).length = (((endB nc nd no nd.toNat).tail.take k).filter id).length + (if (endB nc nd no nd.toNat).tail[k]'(by omega) then 1 else 0) := by
          rw [← List.take_append_getElem (by omega : k < (endB nc nd no nd.toNat).tail.length), List.filter_append, List.length_append]
          congr 1
          cases (endB nc nd no nd.toNat).tail[k]'(by omega) <;> rfl
        have hcl : (((endB nc nd no nd.toNat).tail.take k).filter id).length ≤ 1048576 := by
          refine Nat.le_trans (List.length_filter_le _ _) ?_
          rw [List.length_take]; omega
        have hwc : IntKind.i64.wrap (((((endB nc nd no nd.toNat).tail.take k).filter id).length : Nat) + 1 : Int) = (((((endB nc nd no nd.toNat).tail.take k).filter id).length + 1 : Nat) : Int) := by rw [wrap_id (by omega)]; omega
        generalize hbq : (endB nc nd no nd.toNat).tail[k]'(by omega) = bq at hx hsn
        clear hbq hcnt hover hgood htl htt hs1 hs2 hsl
        rcases Bool.eq_false_or_eq_true bq with rfl | rfl
        · rw [if_pos rfl] at hsn
          repeat' (first
            | ((with_reducible refine eq_go ?_); simp only [stp, ev, put_some, put_none, argT_list, List.getD_cons_zero, List.getD_cons_succ, reduceIte, Nat.reduceEqDiff, Option.map_some, Array.map_empty, List.map_toArray, List.map_cons, List.map_nil, List.append_toArray, Array.append_empty, Array.empty_append, List.nil_append, List.append_nil, and_self, if_true, decide_true, decide_false, Int.toNat_natCast, Int.natCast_nonneg, List.length_map, binV_add, binV_sub, binV_and, binV_shr, binV_shl, binV_str_eql, binV_str_neq, binV_mul, binV_eql, binV_neq, binV_lss, binV_leq, binV_gtr, binV_geq, unV_not, Bool.not_true, Bool.not_false, Bool.cond_true, Bool.cond_false, binV_bool_neq, binV_bool_eql, Ty.un4, Option.map_none, List.getElem?_toArray, List.getElem?_cons_zero, List.getElem?_cons_succ, ldv, stv, vcs, fldA, idxA, blt, lenV, List.size_toArray, List.length_cons, List.length_nil, Nat.zero_add, Array.getD_eq_getD_getElem?, List.getElem?_toArray, List.getElem?_cons_zero, List.getElem?_cons_succ, Option.getD_some, Option.isSome_some, Nat.add_assoc, List.toList_toArray, eq_self, Option.bind_some, List.append_assoc, List.cons_append, List.length_append, List.length_cons, List.length_nil, Nat.zero_add, Nat.add_zero, Nat.reduceAdd, Nat.reduceMul, Nat.reduceLeDiff, mset_some, mset_none, set_at, set_at0, killL_nil, killL_cons, getC_succ2, getC_succ3, getC_succ4, getC_succ5, getC_succ6, loadCs_succ2, loadCs_succ3, loadCs_succ4, loadCs_succ5, loadCs_succ6, setCs_succ2, setCs_succ3, setCs_succ4, setCs_succ5, setCs_succ6, getC_at, getC_at0, getC_zero, getC_succ, loadCs_at, loadCs_at0, loadCs_zero, loadCs_succ, setCs_at, setCs_at0, setCs_zero, setCs_succ, splice, List.set_cons_succ, List.set_cons_zero, List.getElem?_cons_zero, List.getElem?_cons_succ, List.drop_zero, List.drop_succ_cons, List.take_succ_cons, List.take_zero, newB, vcs, flat_int, flat_bool, flat_string, flat_slice, flat_pointer, flat_func, flat_nilFunc, List.all_cons, List.all_nil, Bool.and_true, Bool.and_self, Ty.ld3, Ty.sz3, Ty.zc3, Ty.by3, Ty.ld4, Ty.sz4, Ty.zc4, Ty.by4, Ty.ld5, Ty.sz5, Ty.zc5, Ty.by5, Ty.ld24, Ty.sz24, Ty.sl24, Ty.zc24, Ty.by24, Ty.ld25, Ty.sz25, Ty.zc25, Ty.by25, Ty.fl25_0, Ty.fl25_1, Ty.fl25_2, Ty.fl25_3, Ty.fl25_4, Ty.fl25_5, Ty.ld26, Ty.sz26, Ty.sl26, Ty.zc26, Ty.by26, Ty.ld37, Ty.sz37, Ty.sl37, Ty.zc37, Ty.by37, Nat.mul_one, *]; rfl)
            | (with_reducible refine aw_then ?_) | (with_reducible refine aw_skip ?_) | (with_reducible refine aw_ret ?_) | (with_reducible refine aw_exit ?_) | (with_reducible refine aw_block ?_) | (with_reducible refine xr_reg (by decide +kernel) ?_)
            | (with_reducible refine xr_nil ?_) | (with_reducible refine k_norm ?_) | (with_reducible refine k_ret ?_) | (with_reducible refine k_exit ?_) | (with_reducible refine b_norm ?_) | (with_reducible refine b_ret ?_) | (with_reducible refine b_exit ?_) | (with_reducible refine b_past (by decide) ?_)
            | (refine xr_cl (f := ?_) (fs := ?_) (cs := ?_) (args := ?_) (K := ?_) ?_ ?_ ?_ ?_ ?_
               rotate_left 5
               · simp only [ev]; rfl
               first
               | (· with_reducible exact Ty.ok18
                  rotate_left 2
                  refine hk_tag 18 ?_
                  rotate_right 2)
               | (· with_reducible exact Ty.ok25
                  rotate_left 2
                  refine hk_tag 25 ?_
                  rotate_right 2)
               | (· with_reducible exact Ty.ok30
                  rotate_left 2
                  refine hk_tag 30 ?_
                  rotate_right 2)
               | (· with_reducible exact Ty.ok73
                  rotate_left 2
                  refine hk_tag 73 ?_
                  rotate_right 2)
               | (· with_reducible exact Ty.ok74
                  rotate_left 2
                  refine hk_tag 74 ?_
                  rotate_right 2)
               | (· with_reducible exact Ty.ok75
                  rotate_left 2
                  refine hk_tag 75 ?_
                  rotate_right 2)
               | (· with_reducible exact Ty.ok76
                  rotate_left 2
                  refine hk_tag 76 ?_
                  rotate_right 2)
               | (· with_reducible exact Ty.ok77
                  rotate_left 2
                  refine hk_tag 77 ?_
                  rotate_right 2)
               )
            | (refine xr_gcl (f := ?_) (fs := ?_) (cs := ?_) (args := ?_) (K := ?_) (by exact rfl) ?_ ?_ ?_ ?_ ?_ ?_
               rotate_left 5
               · simp only [ev, put_some, reduceIte, Nat.reduceEqDiff, Bool.not_true, Bool.not_false, *]
               · simp only [ev]; rfl
               first
               | (· with_reducible exact Ty.ok18
                  rotate_left 2
                  refine hk_tag 18 ?_
                  rotate_right 2)
               | (· with_reducible exact Ty.ok25
                  rotate_left 2
                  refine hk_tag 25 ?_
                  rotate_right 2)
               | (· with_reducible exact Ty.ok30
                  rotate_left 2
                  refine hk_tag 30 ?_
                  rotate_right 2)
               | (· with_reducible exact Ty.ok73
                  rotate_left 2
                  refine hk_tag 73 ?_
                  rotate_right 2)
               | (· with_reducible exact Ty.ok74
                  rotate_left 2
                  refine hk_tag 74 ?_
                  rotate_right 2)
               | (· with_reducible exact Ty.ok75
                  rotate_left 2
                  refine hk_tag 75 ?_
                  rotate_right 2)
               | (· with_reducible exact Ty.ok76
                  rotate_left 2
                  refine hk_tag 76 ?_
                  rotate_right 2)
               | (· with_reducible exact Ty.ok77
                  rotate_left 2
                  refine hk_tag 77 ?_
                  rotate_right 2)
               )
            | (refine xr_do (v := ?_) (h' := ?_) (by exact rfl) ?_ ?_; rotate_left 2)
            | (refine xr_st (v := ?_) (h' := ?_) (by exact rfl) ?_ ?_; rotate_left 2)
            | (refine xr_gdo (v := ?_) (h' := ?_) (by exact rfl) (by exact rfl) ?_ ?_ ?_
               rotate_left 2
               · simp only [ev, put_some, reduceIte, Nat.reduceEqDiff, Bool.not_true, Bool.not_false, *])
            | (refine xr_gst (v := ?_) (h' := ?_) (by exact rfl) (by exact rfl) ?_ ?_ ?_
               rotate_left 2
               · simp only [ev, put_some, reduceIte, Nat.reduceEqDiff, Bool.not_true, Bool.not_false, *])
            | (refine xr_goff (by exact rfl) ?_ ?_
               · simp only [ev, put_some, reduceIte, Nat.reduceEqDiff, Bool.not_true, Bool.not_false, *])
            | (refine xr_gsoff (by exact rfl) ?_ ?_
               · simp only [ev, put_some, reduceIte, Nat.reduceEqDiff, Bool.not_true, Bool.not_false, *])
            | (refine xr_gund (by exact rfl) ?_ ?_
               · simp only [ev, put_some, reduceIte, Nat.reduceEqDiff, Bool.not_true, Bool.not_false, *])
            | (refine xr_gsund (by exact rfl) ?_ ?_
               · simp only [ev, put_some, reduceIte, Nat.reduceEqDiff, Bool.not_true, Bool.not_false, *])
            | (refine xr_gif (b := ?_) (by exact rfl) ?_ (fun hb => ?_) (fun hb => ?_)
               rotate_left 1
               · simp only [ev, put_some, reduceIte, Nat.reduceEqDiff, Bool.not_true, Bool.not_false, *]; rfl)
            | (refine aw_ift (by decide) ?_ ?_
               · simp only [ev, put_some, reduceIte, Nat.reduceEqDiff, *])
            | (refine aw_iff (by decide) ?_ ?_
               · simp only [ev, put_some, reduceIte, Nat.reduceEqDiff, *])
            | (refine aw_if (b := ?_) (by decide) ?_ (fun hb => ?_) (fun hb => ?_)
               rotate_left 1
               · simp only [ev, put_some, reduceIte, Nat.reduceEqDiff, *]; rfl)
            | (refine r_ret (vs := ?_) ?_ ?_
               rotate_left 1
               · simp only [resV, ev, put_some, reduceIte, Nat.reduceEqDiff, Option.map_some, *]; rfl)
            | (with_reducible refine implPlay_k _ _ _ _ _ _ _ ?_ ?_
               · assumption
               · assumption
               )
            | (with_reducible refine big_ok _ _ _ _ _ _ _ ?_ ?_
               · assumption
               · assumption
               )
            | (with_reducible exact isOver_ok _ _)
            | (with_reducible refine drawNew_c l1 _ _ ?_ ?_ ?_ ?_
               · first | assumption | exact hs1.old _
               · (intro k hq; have hz := hb1 _ hq; (try (simp only [List.length_append, List.length_cons] at hz)); omega)
               · assumption
               · assumption
               )
            | (with_reducible exact implNewGroup_ok _ _ _ _ _ _)
            | (with_reducible exact specNewGroup_ok _ _ _ _ _ _)
            | (with_reducible refine drawIsOver_ok l2 _ _ ?_ ?_ ?_ ?_
               · first | assumption | exact hs2.old _
               · (intro k hq; have hz := hb2 _ hq; (try (simp only [List.length_append, List.length_cons] at hz)); omega)
               · assumption
               · assumption
               )
            | (with_reducible exact specIsOver_ok _ _)
            | ((with_reducible refine HkTag.mk (n := 18) ?_); rintro _ _ ⟨rfl, hh⟩; replace hh := hh.symm; subst hh)
            | ((with_reducible refine HkTag.mk (n := 25) ?_); rintro _ _ ⟨rfl, hh⟩; replace hh := hh.symm; subst hh)
            | ((with_reducible refine HkTag.mk (n := 30) ?_); rintro _ _ ⟨rfl, hh⟩; replace hh := hh.symm; subst hh)
            | ((with_reducible refine HkTag.mk (n := 73) ?_); rintro _ _ ⟨na, nb, nc, nd, no, E1, rfl, rfl, hgd | hgd⟩)
            | ((with_reducible refine HkTag.mk (n := 74) ?_); rintro _ _ ⟨rfl, hh⟩; replace hh := hh.symm; subst hh)
            | ((with_reducible refine HkTag.mk (n := 75) ?_); rintro _ _ ⟨rfl, hh⟩; replace hh := hh.symm; subst hh)
            | ((with_reducible refine HkTag.mk (n := 76) ?_); rintro _ _ ⟨w, E3, rfl, rfl⟩)
            | ((with_reducible refine HkTag.mk (n := 77) ?_); rintro _ _ ⟨rfl, hh⟩; replace hh := hh.symm; subst hh)
            )
          refine ⟨by first | assumption | omega, ?_, ?_⟩
          · simp only [List.forall_mem_cons, List.not_mem_nil, false_implies, implies_true, and_true, and_self, stp, ev, put_some, put_none, argT_list, List.getD_cons_zero, List.getD_cons_succ, reduceIte, Nat.reduceEqDiff, Option.map_some, Array.map_empty, List.map_toArray, List.map_cons, List.map_nil, List.append_toArray, Array.append_empty, Array.empty_append, List.nil_append, List.append_nil, and_self, if_true, decide_true, decide_false, Int.toNat_natCast, Int.natCast_nonneg, List.length_map, binV_add, binV_sub, binV_and, binV_shr, binV_shl, binV_str_eql, binV_str_neq, binV_mul, binV_eql, binV_neq, binV_lss, binV_leq, binV_gtr, binV_geq, unV_not, Bool.not_true, Bool.not_false, Bool.cond_true, Bool.cond_false, *]
          refine ⟨rfl, ?_, ?_⟩
          · simp only [put_some, reduceIte, Nat.reduceEqDiff]
            rw [wrap_id (by omega)]; rfl
          · simp only [put_some, reduceIte, Nat.reduceEqDiff]
            rw [hsn]
        · rw [if_neg (by simp), Nat.add_zero] at hsn
          repeat' (first
            | ((with_reducible refine eq_go ?_); simp only [stp, ev, put_some, put_none, argT_list, List.getD_cons_zero, List.getD_cons_succ, reduceIte, Nat.reduceEqDiff, Option.map_some, Array.map_empty, List.map_toArray, List.map_cons, List.map_nil, List.append_toArray, Array.append_empty, Array.empty_append, List.nil_append, List.append_nil, and_self, if_true, decide_true, decide_false, Int.toNat_natCast, Int.natCast_nonneg, List.length_map, binV_add, binV_sub, binV_and, binV_shr, binV_shl, binV_str_eql, binV_str_neq, binV_mul, binV_eql, binV_neq, binV_lss, binV_leq, binV_gtr, binV_geq, unV_not, Bool.not_true, Bool.not_false, Bool.cond_true, Bool.cond_false, binV_bool_neq, binV_bool_eql, Ty.un4, Option.map_none, List.getElem?_toArray, List.getElem?_cons_zero, List.getElem?_cons_succ, ldv, stv, vcs, fldA, idxA, blt, lenV, List.size_toArray, List.length_cons, List.length_nil, Nat.zero_add, Array.getD_eq_getD_getElem?, List.getElem?_toArray, List.getElem?_cons_zero, List.getElem?_cons_succ, Option.getD_some, Option.isSome_some, Nat.add_assoc, List.toList_toArray, eq_self, Option.bind_some, List.append_assoc, List.cons_append, List.length_append, List.length_cons, List.length_nil, Nat.zero_add, Nat.add_zero, Nat.reduceAdd, Nat.reduceMul, Nat.reduceLeDiff, mset_some, mset_none, set_at, set_at0, killL_nil, killL_cons, getC_succ2, getC_succ3, getC_succ4, getC_succ5, getC_succ6, loadCs_succ2, loadCs_succ3, loadCs_succ4, loadCs_succ5, loadCs_succ6, setCs_succ2, setCs_succ3, setCs_succ4, setCs_succ5, setCs_succ6, getC_at, getC_at0, getC_zero, getC_succ, loadCs_at, loadCs_at0, loadCs_zero, loadCs_succ, setCs_at, setCs_at0, setCs_zero, setCs_succ, splice, List.set_cons_succ, List.set_cons_zero, List.getElem?_cons_zero, List.getElem?_cons_succ, List.drop_zero, List.drop_succ_cons, List.take_succ_cons, List.take_zero, newB, vcs, flat_int, flat_bool, flat_string, flat_slice, flat_pointer, flat_func, flat_nilFunc, List.all_cons, List.all_nil, Bool.and_true, Bool.and_self, Ty.ld3, Ty.sz3, Ty.zc3, Ty.by3, Ty.ld4, Ty.sz4, Ty.zc4, Ty.by4, Ty.ld5, Ty.sz5, Ty.zc5, Ty.by5, Ty.ld24, Ty.sz24, Ty.sl24, Ty.zc24, Ty.by24, Ty.ld25, Ty.sz25, Ty.zc25, Ty.by25, Ty.fl25_0, Ty.fl25_1, Ty.fl25_2, Ty.fl25_3, Ty.fl25_4, Ty.fl25_5, Ty.ld26, Ty.sz26, Ty.sl26, Ty.zc26, Ty.by26, Ty.ld37, Ty.sz37, Ty.sl37, Ty.zc37, Ty.by37, Nat.mul_one, *]; rfl)
            | (with_reducible refine aw_then ?_) | (with_reducible refine aw_skip ?_) | (with_reducible refine aw_ret ?_) | (with_reducible refine aw_exit ?_) | (with_reducible refine aw_block ?_) | (with_reducible refine xr_reg (by decide +kernel) ?_)
            | (with_reducible refine xr_nil ?_) | (with_reducible refine k_norm ?_) | (with_reducible refine k_ret ?_) | (with_reducible refine k_exit ?_) | (with_reducible refine b_norm ?_) | (with_reducible refine b_ret ?_) | (with_reducible refine b_exit ?_) | (with_reducible refine b_past (by decide) ?_)
            | (refine xr_cl (f := ?_) (fs := ?_) (cs := ?_) (args := ?_) (K := ?_) ?_ ?_ ?_ ?_ ?_
               rotate_left 5
               · simp only [ev]; rfl
               first
               | (· with_reducible exact Ty.ok18
                  rotate_left 2
                  refine hk_tag 18 ?_
                  rotate_right 2)
               | (· with_reducible exact Ty.ok25
                  rotate_left 2
                  refine hk_tag 25 ?_
                  rotate_right 2)
               | (· with_reducible exact Ty.ok30
                  rotate_left 2
                  refine hk_tag 30 ?_
                  rotate_right 2)
               | (· with_reducible exact Ty.ok73
                  rotate_left 2
                  refine hk_tag 73 ?_
                  rotate_right 2)
               | (· with_reducible exact Ty.ok74
                  rotate_left 2
                  refine hk_tag 74 ?_
                  rotate_right 2)
               | (· with_reducible exact Ty.ok75
                  rotate_left 2
                  refine hk_tag 75 ?_
                  rotate_right 2)
               | (· with_reducible exact Ty.ok76
                  rotate_left 2
                  refine hk_tag 76 ?_
                  rotate_right 2)
               | (· with_reducible exact Ty.ok77
                  rotate_left 2
                  refine hk_tag 77 ?_
                  rotate_right 2)
               )
            | (refine xr_gcl (f := ?_) (fs := ?_) (cs := ?_) (args := ?_) (K := ?_) (by exact rfl) ?_ ?_ ?_ ?_ ?_ ?_
               rotate_left 5
               · simp only [ev, put_some, reduceIte, Nat.reduceEqDiff, Bool.not_true, Bool.not_false, *]
               · simp only [ev]; rfl
               first
               | (· with_reducible exact Ty.ok18
                  rotate_left 2
                  refine hk_tag 18 ?_
                  rotate_right 2)
               | (· with_reducible exact Ty.ok25
                  rotate_left 2
                  refine hk_tag 25 ?_
                  rotate_right 2)
               | (· with_reducible exact Ty.ok30
                  rotate_left 2
                  refine hk_tag 30 ?_
                  rotate_right 2)
               | (· with_reducible exact Ty.ok73
                  rotate_left 2
                  refine hk_tag 73 ?_
                  rotate_right 2)
               | (· with_reducible exact Ty.ok74
                  rotate_left 2
                  refine hk_tag 74 ?_
                  rotate_right 2)
               | (· with_reducible exact Ty.ok75
                  rotate_left 2
                  refine hk_tag 75 ?_
                  rotate_right 2)
               | (· with_reducible exact Ty.ok76
                  rotate_left 2
                  refine hk_tag 76 ?_
                  rotate_right 2)
               | (· with_reducible exact Ty.ok77
                  rotate_left 2
                  refine hk_tag 77 ?_
                  rotate_right 2)
               )
            | (refine xr_do (v := ?_) (h' := ?_) (by exact rfl) ?_ ?_; rotate_left 2)
            | (refine xr_st (v := ?_) (h' := ?_) (by exact rfl) ?_ ?_; rotate_left 2)
            | (refine xr_gdo (v := ?_) (h' := ?_) (by exact rfl) (by exact rfl) ?_ ?_ ?_
               rotate_left 2
               · simp only [ev, put_some, reduceIte, Nat.reduceEqDiff, Bool.not_true, Bool.not_false, *])
            | (refine xr_gst (v := ?_) (h' := ?_) (by exact rfl) (by exact rfl) ?_ ?_ ?_
               rotate_left 2
               · simp only [ev, put_some, reduceIte, Nat.reduceEqDiff, Bool.not_true, Bool.not_false, *])
            | (refine xr_goff (by exact rfl) ?_ ?_
               · simp only [ev, put_some, reduceIte, Nat.reduceEqDiff, Bool.not_true, Bool.not_false, *])
            | (refine xr_gsoff (by exact rfl) ?_ ?_
               · simp only [ev, put_some, reduceIte, Nat.reduceEqDiff, Bool.not_true, Bool.not_false, *])
            | (refine xr_gund (by exact rfl) ?_ ?_
               · simp only [ev, put_some, reduceIte, Nat.reduceEqDiff, Bool.not_true, Bool.not_false, *])
            | (refine xr_gsund (by exact rfl) ?_ ?_
               · simp only [ev, put_some, reduceIte, Nat.reduceEqDiff, Bool.not_true, Bool.not_false, *])
            | (refine xr_gif (b := ?_) (by exact rfl) ?_ (fun hb => ?_) (fun hb => ?_)
               rotate_left 1
               · simp only [ev, put_some, reduceIte, Nat.reduceEqDiff, Bool.not_true, Bool.not_false, *]; rfl)
            | (refine aw_ift (by decide) ?_ ?_
               · simp only [ev, put_some, reduceIte, Nat.reduceEqDiff, *])
            | (refine aw_iff (by decide) ?_ ?_
               · simp only [ev, put_some, reduceIte, Nat.reduceEqDiff, *])
            | (refine aw_if (b := ?_) (by decide) ?_ (fun hb => ?_) (fun hb => ?_)
               rotate_left 1
               · simp only [ev, put_some, reduceIte, Nat.reduceEqDiff, *]; rfl)
            | (refine r_ret (vs := ?_) ?_ ?_
               rotate_left 1
               · simp only [resV, ev, put_some, reduceIte, Nat.reduceEqDiff, Option.map_some, *]; rfl)
            | (with_reducible refine implPlay_k _ _ _ _ _ _ _ ?_ ?_
               · assumption
               · assumption
               )
            | (with_reducible refine big_ok _ _ _ _ _ _ _ ?_ ?_
               · assumption
               · assumption
               )
            | (with_reducible exact isOver_ok _ _)
            | (with_reducible refine drawNew_c l1 _ _ ?_ ?_ ?_ ?_
               · first | assumption | exact hs1.old _
               · (intro k hq; have hz := hb1 _ hq; (try (simp only [List.length_append, List.length_cons] at hz)); omega)
               · assumption
               · assumption
               )
            | (with_reducible exact implNewGroup_ok _ _ _ _ _ _)
            | (with_reducible exact specNewGroup_ok _ _ _ _ _ _)
            | (with_reducible refine drawIsOver_ok l2 _ _ ?_ ?_ ?_ ?_
               · first | assumption | exact hs2.old _
               · (intro k hq; have hz := hb2 _ hq; (try (simp only [List.length_append, List.length_cons] at hz)); omega)
               · assumption
               · assumption
               )
            | (with_reducible exact specIsOver_ok _ _)
            | ((with_reducible refine HkTag.mk (n := 18) ?_); rintro _ _ ⟨rfl, hh⟩; replace hh := hh.symm; subst hh)
            | ((with_reducible refine HkTag.mk (n := 25) ?_); rintro _ _ ⟨rfl, hh⟩; replace hh := hh.symm; subst hh)
            | ((with_reducible refine HkTag.mk (n := 30) ?_); rintro _ _ ⟨rfl, hh⟩; replace hh := hh.symm; subst hh)
            | ((with_reducible refine HkTag.mk (n := 73) ?_); rintro _ _ ⟨na, nb, nc, nd, no, E1, rfl, rfl, hgd | hgd⟩)
            | ((with_reducible refine HkTag.mk (n := 74) ?_); rintro _ _ ⟨rfl, hh⟩; replace hh := hh.symm; subst hh)
            | ((with_reducible refine HkTag.mk (n := 75) ?_); rintro _ _ ⟨rfl, hh⟩; replace hh := hh.symm; subst hh)
            | ((with_reducible refine HkTag.mk (n := 76) ?_); rintro _ _ ⟨w, E3, rfl, rfl⟩)
            | ((with_reducible refine HkTag.mk (n := 77) ?_); rintro _ _ ⟨rfl, hh⟩; replace hh := hh.symm; subst hh)
            )
          refine ⟨by first | assumption | omega, ?_, ?_⟩
          · simp only [List.forall_mem_cons, List.not_mem_nil, false_implies, implies_true, and_true, and_self, stp, ev, put_some, put_none, argT_list, List.getD_cons_zero, List.getD_cons_succ, reduceIte, Nat.reduceEqDiff, Option.map_some, Array.map_empty, List.map_toArray, List.map_cons, List.map_nil, List.append_toArray, Array.append_empty, Array.empty_append, List.nil_append, List.append_nil, and_self, if_true, decide_true, decide_false, Int.toNat_natCast, Int.natCast_nonneg, List.length_map, binV_add, binV_sub, binV_and, binV_shr, binV_shl, binV_str_eql, binV_str_neq, binV_mul, binV_eql, binV_neq, binV_lss, binV_leq, binV_gtr, binV_geq, unV_not, Bool.not_true, Bool.not_false, Bool.cond_true, Bool.cond_false, *]
          refine ⟨rfl, ?_, ?_⟩
          · simp only [put_some, reduceIte, Nat.reduceEqDiff]
            rw [wrap_id (by omega)]; rfl
          · simp only [put_some, reduceIte, Nat.reduceEqDiff]
            rw [hsn]; exact h21
      · have hlt2 : ¬ (k : Int) < (nd.toNat : Nat) := by omega
        rw [List.take_of_length_le (by omega), hcnt, ← hdon] at h21
        have hdc : (endG na nb nc nd nd.toNat).don = nc ∨ ((endG na nb nc nd nd.toNat).don = nd ∧ ¬ nd = nc) := by rw [hdon]; omega
        clear hdon hcnt hbl htt htl hsl
        generalize endG na nb nc nd nd.toNat = ge at *
        rcases hdc with hdc | ⟨hdc, hne⟩
        · repeat' (first
            | ((with_reducible refine eq_go ?_); simp only [stp, ev, put_some, put_none, argT_list, List.getD_cons_zero, List.getD_cons_succ, reduceIte, Nat.reduceEqDiff, Option.map_some, Array.map_empty, List.map_toArray, List.map_cons, List.map_nil, List.append_toArray, Array.append_empty, Array.empty_append, List.nil_append, List.append_nil, and_self, if_true, decide_true, decide_false, Int.toNat_natCast, Int.natCast_nonneg, List.length_map, binV_add, binV_sub, binV_and, binV_shr, binV_shl, binV_str_eql, binV_str_neq, binV_mul, binV_eql, binV_neq, binV_lss, binV_leq, binV_gtr, binV_geq, unV_not, Bool.not_true, Bool.not_false, Bool.cond_true, Bool.cond_false, binV_bool_neq, binV_bool_eql, Ty.un4, Option.map_none, List.getElem?_toArray, List.getElem?_cons_zero, List.getElem?_cons_succ, ldv, stv, vcs, fldA, idxA, blt, lenV, List.size_toArray, List.length_cons, List.length_nil, Nat.zero_add, Array.getD_eq_getD_getElem?, List.getElem?_toArray, List.getElem?_cons_zero, List.getElem?_cons_succ, Option.getD_some, Option.isSome_some, Nat.add_assoc, List.toList_toArray, eq_self, Option.bind_some, List.append_assoc, List.cons_append, List.length_append, List.length_cons, List.length_nil, Nat.zero_add, Nat.add_zero, Nat.reduceAdd, Nat.reduceMul, Nat.reduceLeDiff, mset_some, mset_none, set_at, set_at0, killL_nil, killL_cons, getC_succ2, getC_succ3, getC_succ4, getC_succ5, getC_succ6, loadCs_succ2, loadCs_succ3, loadCs_succ4, loadCs_succ5, loadCs_succ6, setCs_succ2, setCs_succ3, setCs_succ4, setCs_succ5, setCs_succ6, getC_at, getC_at0, getC_zero, getC_succ, loadCs_at, loadCs_at0, loadCs_zero, loadCs_succ, setCs_at, setCs_at0, setCs_zero, setCs_succ, splice, List.set_cons_succ, List.set_cons_zero, List.getElem?_cons_zero, List.getElem?_cons_succ, List.drop_zero, List.drop_succ_cons, List.take_succ_cons, List.take_zero, newB, vcs, flat_int, flat_bool, flat_string, flat_slice, flat_pointer, flat_func, flat_nilFunc, List.all_cons, List.all_nil, Bool.and_true, Bool.and_self, Ty.ld3, Ty.sz3, Ty.zc3, Ty.by3, Ty.ld4, Ty.sz4, Ty.zc4, Ty.by4, Ty.ld5, Ty.sz5, Ty.zc5, Ty.by5, Ty.ld24, Ty.sz24, Ty.sl24, Ty.zc24, Ty.by24, Ty.ld25, Ty.sz25, Ty.zc25, Ty.by25, Ty.fl25_0, Ty.fl25_1, Ty.fl25_2, Ty.fl25_3, Ty.fl25_4, Ty.fl25_5, Ty.ld26, Ty.sz26, Ty.sl26, Ty.zc26, Ty.by26, Ty.ld37, Ty.sz37, Ty.sl37, Ty.zc37, Ty.by37, newV, Grp.cells_length, Grp.cells_flat, Grp.cells_take, Grp.cells_splice, Grp.get3, Grp.get4, Bool.and_self, *]; rfl)
            | (with_reducible refine aw_then ?_) | (with_reducible refine aw_skip ?_) | (with_reducible refine aw_ret ?_) | (with_reducible refine aw_exit ?_) | (with_reducible refine aw_block ?_) | (with_reducible refine xr_reg (by decide +kernel) ?_)
            | (with_reducible refine xr_nil ?_) | (with_reducible refine k_norm ?_) | (with_reducible refine k_ret ?_) | (with_reducible refine k_exit ?_) | (with_reducible refine b_norm ?_) | (with_reducible refine b_ret ?_) | (with_reducible refine b_exit ?_) | (with_reducible refine b_past (by decide) ?_)
            | (refine xr_cl (f := ?_) (fs := ?_) (cs := ?_) (args := ?_) (K := ?_) ?_ ?_ ?_ ?_ ?_
               rotate_left 5
               · simp only [ev]; rfl
               first
               | (· with_reducible exact Ty.ok18
                  rotate_left 2
                  refine hk_tag 18 ?_
                  rotate_right 2)
               | (· with_reducible exact Ty.ok25
                  rotate_left 2
                  refine hk_tag 25 ?_
                  rotate_right 2)
               | (· with_reducible exact Ty.ok30
                  rotate_left 2
                  refine hk_tag 30 ?_
                  rotate_right 2)
               | (· with_reducible exact Ty.ok73
                  rotate_left 2
                  refine hk_tag 73 ?_
                  rotate_right 2)
               | (· with_reducible exact Ty.ok74
                  rotate_left 2
                  refine hk_tag 74 ?_
                  rotate_right 2)
               | (· with_reducible exact Ty.ok75
                  rotate_left 2
                  refine hk_tag 75 ?_
                  rotate_right 2)
               | (· with_reducible exact Ty.ok76
                  rotate_left 2
                  refine hk_tag 76 ?_
                  rotate_right 2)
               | (· with_reducible exact Ty.ok77
                  rotate_left 2
                  refine hk_tag 77 ?_
                  rotate_right 2)
               )
            | (refine xr_gcl (f := ?_) (fs := ?_) (cs := ?_) (args := ?_) (K := ?_) (by exact rfl) ?_ ?_ ?_ ?_ ?_ ?_
               rotate_left 5
               · simp only [ev, put_some, reduceIte, Nat.reduceEqDiff, Bool.not_true, Bool.not_false, *]
               · simp only [ev]; rfl
               first
               | (· with_reducible exact Ty.ok18
                  rotate_left 2
                  refine hk_tag 18 ?_
                  rotate_right 2)
               | (· with_reducible exact Ty.ok25
                  rotate_left 2
                  refine hk_tag 25 ?_
                  rotate_right 2)
               | (· with_reducible exact Ty.ok30
                  rotate_left 2
                  refine hk_tag 30 ?_
                  rotate_right 2)
               | (· with_reducible exact Ty.ok73
                  rotate_left 2
                  refine hk_tag 73 ?_
                  rotate_right 2)
               | (· with_reducible exact Ty.ok74
                  rotate_left 2
                  refine hk_tag 74 ?_
                  rotate_right 2)
               | (· with_reducible exact Ty.ok75
                  rotate_left 2
                  refine hk_tag 75 ?_
                  rotate_right 2)
               | (· with_reducible exact Ty.ok76
                  rotate_left 2
                  refine hk_tag 76 ?_
                  rotate_right 2)
               | (· with_reducible exact Ty.ok77
                  rotate_left 2
                  refine hk_tag 77 ?_
                  rotate_right 2)
               )
            | (refine xr_do (v := ?_) (h' := ?_) (by exact rfl) ?_ ?_; rotate_left 2)
            | (refine xr_st (v := ?_) (h' := ?_) (by exact rfl) ?_ ?_; rotate_left 2)
            | (refine xr_gdo (v := ?_) (h' := ?_) (by exact rfl) (by exact rfl) ?_ ?_ ?_
               rotate_left 2
               · simp only [ev, put_some, reduceIte, Nat.reduceEqDiff, Bool.not_true, Bool.not_false, *])
            | (refine xr_gst (v := ?_) (h' := ?_) (by exact rfl) (by exact rfl) ?_ ?_ ?_
               rotate_left 2
               · simp only [ev, put_some, reduceIte, Nat.reduceEqDiff, Bool.not_true, Bool.not_false, *])
            | (refine xr_goff (by exact rfl) ?_ ?_
               · simp only [ev, put_some, reduceIte, Nat.reduceEqDiff, Bool.not_true, Bool.not_false, *])
            | (refine xr_gsoff (by exact rfl) ?_ ?_
               · simp only [ev, put_some, reduceIte, Nat.reduceEqDiff, Bool.not_true, Bool.not_false, *])
            | (refine xr_gund (by exact rfl) ?_ ?_
               · simp only [ev, put_some, reduceIte, Nat.reduceEqDiff, Bool.not_true, Bool.not_false, *])
            | (refine xr_gsund (by exact rfl) ?_ ?_
               · simp only [ev, put_some, reduceIte, Nat.reduceEqDiff, Bool.not_true, Bool.not_false, *])
            | (refine xr_gif (b := ?_) (by exact rfl) ?_ (fun hb => ?_) (fun hb => ?_)
               rotate_left 1
               · simp only [ev, put_some, reduceIte, Nat.reduceEqDiff, Bool.not_true, Bool.not_false, *]; rfl)
            | (refine aw_ift (by decide) ?_ ?_
               · simp only [ev, put_some, reduceIte, Nat.reduceEqDiff, *])
            | (refine aw_iff (by decide) ?_ ?_
               · simp only [ev, put_some, reduceIte, Nat.reduceEqDiff, *])
            | (refine aw_if (b := ?_) (by decide) ?_ (fun hb => ?_) (fun hb => ?_)
               rotate_left 1
               · simp only [ev, put_some, reduceIte, Nat.reduceEqDiff, *]; rfl)
            | (refine r_ret (vs := ?_) ?_ ?_
               rotate_left 1
               · simp only [resV, ev, put_some, reduceIte, Nat.reduceEqDiff, Option.map_some, *]; rfl)
            | (with_reducible refine implPlay_k _ _ _ _ _ _ _ ?_ ?_
               · assumption
               · assumption
               )
            | (with_reducible refine big_ok _ _ _ _ _ _ _ ?_ ?_
               · assumption
               · assumption
               )
            | (with_reducible exact isOver_ok _ _)
            | (with_reducible refine drawNew_c l1 _ _ ?_ ?_ ?_ ?_
               · first | assumption | exact hs1.old _
               · (intro k hq; have hz := hb1 _ hq; (try (simp only [List.length_append, List.length_cons] at hz)); omega)
               · assumption
               · assumption
               )
            | (with_reducible exact implNewGroup_ok _ _ _ _ _ _)
            | (with_reducible exact specNewGroup_ok _ _ _ _ _ _)
            | (with_reducible refine drawIsOver_ok l2 _ _ ?_ ?_ ?_ ?_
               · first | assumption | exact hs2.old _
               · (intro k hq; have hz := hb2 _ hq; (try (simp only [List.length_append, List.length_cons] at hz)); omega)
               · assumption
               · assumption
               )
            | (with_reducible exact specIsOver_ok _ _)
            | ((with_reducible refine HkTag.mk (n := 18) ?_); rintro _ _ ⟨rfl, hh⟩; replace hh := hh.symm; subst hh)
            | ((with_reducible refine HkTag.mk (n := 25) ?_); rintro _ _ ⟨rfl, hh⟩; replace hh := hh.symm; subst hh)
            | ((with_reducible refine HkTag.mk (n := 30) ?_); rintro _ _ ⟨rfl, hh⟩; replace hh := hh.symm; subst hh)
            | ((with_reducible refine HkTag.mk (n := 73) ?_); rintro _ _ ⟨na, nb, nc, nd, no, E1, rfl, rfl, hgd | hgd⟩)
            | ((with_reducible refine HkTag.mk (n := 74) ?_); rintro _ _ ⟨rfl, hh⟩; replace hh := hh.symm; subst hh)
            | ((with_reducible refine HkTag.mk (n := 75) ?_); rintro _ _ ⟨rfl, hh⟩; replace hh := hh.symm; subst hh)
            | ((with_reducible refine HkTag.mk (n := 76) ?_); rintro _ _ ⟨w, E3, rfl, rfl⟩)
            | ((with_reducible refine HkTag.mk (n := 77) ?_); rintro _ _ ⟨rfl, hh⟩; replace hh := hh.symm; subst hh)
            )
          all_goals first | rfl | (simp [oneOf]; done) | (exfalso; simp at hb; done)
        · repeat' (first
            | ((with_reducible refine eq_go ?_); simp only [stp, ev, put_some, put_none, argT_list, List.getD_cons_zero, List.getD_cons_succ, reduceIte, Nat.reduceEqDiff, Option.map_some, Array.map_empty, List.map_toArray, List.map_cons, List.map_nil, List.append_toArray, Array.append_empty, Array.empty_append, List.nil_append, List.append_nil, and_self, if_true, decide_true, decide_false, Int.toNat_natCast, Int.natCast_nonneg, List.length_map, binV_add, binV_sub, binV_and, binV_shr, binV_shl, binV_str_eql, binV_str_neq, binV_mul, binV_eql, binV_neq, binV_lss, binV_leq, binV_gtr, binV_geq, unV_not, Bool.not_true, Bool.not_false, Bool.cond_true, Bool.cond_false, binV_bool_neq, binV_bool_eql, Ty.un4, Option.map_none, List.getElem?_toArray, List.getElem?_cons_zero, List.getElem?_cons_succ, ldv, stv, vcs, fldA, idxA, blt, lenV, List.size_toArray, List.length_cons, List.length_nil, Nat.zero_add, Array.getD_eq_getD_getElem?, List.getElem?_toArray, List.getElem?_cons_zero, List.getElem?_cons_succ, Option.getD_some, Option.isSome_some, Nat.add_assoc, List.toList_toArray, eq_self, Option.bind_some, List.append_assoc, List.cons_append, List.length_append, List.length_cons, List.length_nil, Nat.zero_add, Nat.add_zero, Nat.reduceAdd, Nat.reduceMul, Nat.reduceLeDiff, mset_some, mset_none, set_at, set_at0, killL_nil, killL_cons, getC_succ2, getC_succ3, getC_succ4, getC_succ5, getC_succ6, loadCs_succ2, loadCs_succ3, loadCs_succ4, loadCs_succ5, loadCs_succ6, setCs_succ2, setCs_succ3, setCs_succ4, setCs_succ5, setCs_succ6, getC_at, getC_at0, getC_zero, getC_succ, loadCs_at, loadCs_at0, loadCs_zero, loadCs_succ, setCs_at, setCs_at0, setCs_zero, setCs_succ, splice, List.set_cons_succ, List.set_cons_zero, List.getElem?_cons_zero, List.getElem?_cons_succ, List.drop_zero, List.drop_succ_cons, List.take_succ_cons, List.take_zero, newB, vcs, flat_int, flat_bool, flat_string, flat_slice, flat_pointer, flat_func, flat_nilFunc, List.all_cons, List.all_nil, Bool.and_true, Bool.and_self, Ty.ld3, Ty.sz3, Ty.zc3, Ty.by3, Ty.ld4, Ty.sz4, Ty.zc4, Ty.by4, Ty.ld5, Ty.sz5, Ty.zc5, Ty.by5, Ty.ld24, Ty.sz24, Ty.sl24, Ty.zc24, Ty.by24, Ty.ld25, Ty.sz25, Ty.zc25, Ty.by25, Ty.fl25_0, Ty.fl25_1, Ty.fl25_2, Ty.fl25_3, Ty.fl25_4, Ty.fl25_5, Ty.ld26, Ty.sz26, Ty.sl26, Ty.zc26, Ty.by26, Ty.ld37, Ty.sz37, Ty.sl37, Ty.zc37, Ty.by37, newV, Grp.cells_length, Grp.cells_flat, Grp.cells_take, Grp.cells_splice, Grp.get3, Grp.get4, Bool.and_self, *]; rfl)
            | (with_reducible refine aw_then ?_) | (with_reducible refine aw_skip ?_) | (with_reducible refine aw_ret ?_) | (with_reducible refine aw_exit ?_) | (with_reducible refine aw_block ?_) | (with_reducible refine xr_reg (by decide +kernel) ?_)
            | (with_reducible refine xr_nil ?_) | (with_reducible refine k_norm ?_) | (with_reducible refine k_ret ?_) | (with_reducible refine k_exit ?_) | (with_reducible refine b_norm ?_) | (with_reducible refine b_ret ?_) | (with_reducible refine b_exit ?_) | (with_reducible refine b_past (by decide) ?_)
            | (refine xr_cl (f := ?_) (fs := ?_) (cs := ?_) (args := ?_) (K := ?_) ?_ ?_ ?_ ?_ ?_
               rotate_left 5
               · simp only [ev]; rfl
               first
               | (· with_reducible exact Ty.ok18
                  rotate_left 2
                  refine hk_tag 18 ?_
                  rotate_right 2)
               | (· with_reducible exact Ty.ok25
                  rotate_left 2
                  refine hk_tag 25 ?_
                  rotate_right 2)
               | (· with_reducible exact Ty.ok30
                  rotate_left 2
                  refine hk_tag 30 ?_
                  rotate_right 2)
               | (· with_reducible exact Ty.ok73
                  rotate_left 2
                  refine hk_tag 73 ?_
                  rotate_right 2)
               | (· with_reducible exact Ty.ok74
                  rotate_left 2
                  refine hk_tag 74 ?_
                  rotate_right 2)
               | (· with_reducible exact Ty.ok75
                  rotate_left 2
                  refine hk_tag 75 ?_
                  rotate_right 2)
               | (· with_reducible exact Ty.ok76
                  rotate_left 2
                  refine hk_tag 76 ?_
                  rotate_right 2)
               | (· with_reducible exact Ty.ok77
                  rotate_left 2
                  refine hk_tag 77 ?_
                  rotate_right 2)
               )
            | (refine xr_gcl (f := ?_) (fs := ?_) (cs := ?_) (args := ?_) (K := ?_) (by exact rfl) ?_ ?_ ?_ ?_ ?_ ?_
               rotate_left 5
               · simp only [ev, put_some, reduceIte, Nat.reduceEqDiff, Bool.not_true, Bool.not_false, *]
               · simp only [ev]; rfl
               first
               | (· with_reducible exact Ty.ok18
                  rotate_left 2
                  refine hk_tag 18 ?_
                  rotate_right 2)
               | (· with_reducible exact Ty.ok25
                  rotate_left 2
                  refine hk_tag 25 ?_
                  rotate_right 2)
               | (· with_reducible exact Ty.ok30
                  rotate_left 2
                  refine hk_tag 30 ?_
                  rotate_right 2)
               | (· with_reducible exact Ty.ok73
                  rotate_left 2
                  refine hk_tag 73 ?_
                  rotate_right 2)
               | (· with_reducible exact Ty.ok74
                  rotate_left 2
                  refine hk_tag 74 ?_
                  rotate_right 2)
               | (· with_reducible exact Ty.ok75
                  rotate_left 2
                  refine hk_tag 75 ?_
                  rotate_right 2)
               | (· with_reducible exact Ty.ok76
                  rotate_left 2
                  refine hk_tag 76 ?_
                  rotate_right 2)
               | (· with_reducible exact Ty.ok77
                  rotate_left 2
                  refine hk_tag 77 ?_
                  rotate_right 2)
               )
            | (refine xr_do (v := ?_) (h' := ?_) (by exact rfl) ?_ ?_; rotate_left 2)
            | (refine xr_st (v := ?_) (h' := ?_) (by exact rfl) ?_ ?_; rotate_left 2)
            | (refine xr_gdo (v := ?_) (h' := ?_) (by exact rfl) (by exact rfl) ?_ ?_ ?_
               rotate_left 2
               · simp only [ev, put_some, reduceIte, Nat.reduceEqDiff, Bool.not_true, Bool.not_false, *])
            | (refine xr_gst (v := ?_) (h' := ?_) (by exact rfl) (by exact rfl) ?_ ?_ ?_
               rotate_left 2
               · simp only [ev, put_some, reduceIte, Nat.reduceEqDiff, Bool.not_true, Bool.not_false, *])
            | (refine xr_goff (by exact rfl) ?_ ?_
               · simp only [ev, put_some, reduceIte, Nat.reduceEqDiff, Bool.not_true, Bool.not_false, *])
            | (refine xr_gsoff (by exact rfl) ?_ ?_
               · simp only [ev, put_some, reduceIte, Nat.reduceEqDiff, Bool.not_true, Bool.not_false, *])
            | (refine xr_gund (by exact rfl) ?_ ?_
               · simp only [ev, put_some, reduceIte, Nat.reduceEqDiff, Bool.not_true, Bool.not_false, *])
            | (refine xr_gsund (by exact rfl) ?_ ?_
               · simp only [ev, put_some, reduceIte, Nat.reduceEqDiff, Bool.not_true, Bool.not_false, *])
            | (refine xr_gif (b := ?_) (by exact rfl) ?_ (fun hb => ?_) (fun hb => ?_)
               rotate_left 1
               · simp only [ev, put_some, reduceIte, Nat.reduceEqDiff, Bool.not_true, Bool.not_false, *]; rfl)
            | (refine aw_ift (by decide) ?_ ?_
               · simp only [ev, put_some, reduceIte, Nat.reduceEqDiff, *])
            | (refine aw_iff (by decide) ?_ ?_
               · simp only [ev, put_some, reduceIte, Nat.reduceEqDiff, *])
            | (refine aw_if (b := ?_) (by decide) ?_ (fun hb => ?_) (fun hb => ?_)
               rotate_left 1
               · simp only [ev, put_some, reduceIte, Nat.reduceEqDiff, *]; rfl)
            | (refine r_ret (vs := ?_) ?_ ?_
               rotate_left 1
               · simp only [resV, ev, put_some, reduceIte, Nat.reduceEqDiff, Option.map_some, *]; rfl)
            | (with_reducible refine implPlay_k _ _ _ _ _ _ _ ?_ ?_
               · assumption
               · assumption
               )
            | (with_reducible refine big_ok _ _ _ _ _ _ _ ?_ ?_
               · assumption
               · assumption
               )
            | (with_reducible exact isOver_ok _ _)
            | (with_reducible refine drawNew_c l1 _ _ ?_ ?_ ?_ ?_
               · first | assumption | exact hs1.old _
               · (intro k hq; have hz := hb1 _ hq; (try (simp only [List.length_append, List.length_cons] at hz)); omega)
               · assumption
               · assumption
               )
            | (with_reducible exact implNewGroup_ok _ _ _ _ _ _)
            | (with_reducible exact specNewGroup_ok _ _ _ _ _ _)
            | (with_reducible refine drawIsOver_ok l2 _ _ ?_ ?_ ?_ ?_
               · first | assumption | exact hs2.old _
               · (intro k hq; have hz := hb2 _ hq; (try (simp only [List.length_append, List.length_cons] at hz)); omega)
               · assumption
               · assumption
               )
            | (with_reducible exact specIsOver_ok _ _)
            | ((with_reducible refine HkTag.mk (n := 18) ?_); rintro _ _ ⟨rfl, hh⟩; replace hh := hh.symm; subst hh)
            | ((with_reducible refine HkTag.mk (n := 25) ?_); rintro _ _ ⟨rfl, hh⟩; replace hh := hh.symm; subst hh)
            | ((with_reducible refine HkTag.mk (n := 30) ?_); rintro _ _ ⟨rfl, hh⟩; replace hh := hh.symm; subst hh)
            | ((with_reducible refine HkTag.mk (n := 73) ?_); rintro _ _ ⟨na, nb, nc, nd, no, E1, rfl, rfl, hgd | hgd⟩)
            | ((with_reducible refine HkTag.mk (n := 74) ?_); rintro _ _ ⟨rfl, hh⟩; replace hh := hh.symm; subst hh)
            | ((with_reducible refine HkTag.mk (n := 75) ?_); rintro _ _ ⟨rfl, hh⟩; replace hh := hh.symm; subst hh)
            | ((with_reducible refine HkTag.mk (n := 76) ?_); rintro _ _ ⟨w, E3, rfl, rfl⟩)
            | ((with_reducible refine HkTag.mk (n := 77) ?_); rintro _ _ ⟨rfl, hh⟩; replace hh := hh.symm; subst hh)
            )
          all_goals first | rfl | (simp [oneOf]; done) | (exfalso; simp at hb; done)
  · rfl
end Go.Proofs.Ytiddnhhjlipebaa.Am

