/- Walks of the program's reader of an act. Conditions: none. -/
import Derived.Test.YtmjhfklmlcnofaaDoorJ3
import Derived.Test.YtmjhfklmlcnofaaDoorJW
import Derived.Test.YtmjhfklmlcnofaaDoorR3
import Derived.Test.YtmjhfklmlcnofaaDoorR1
namespace Go.Proofs.YtmjhfklmlcnofaaDoor.Am
open Go Go.Proofs Go.RowKit
set_option linter.unusedVariables false
set_option linter.unusedSimpArgs false
set_option maxRecDepth 100000
set_option maxHeartbeats 8000000
def actOf (l : List Int) : Act := ⟨l.getD 0 0, l.getD 1 0, l.getD 2 0, l.getD 3 0, l.getD 4 0, l.getD 5 0, l.getD 6 0⟩
theorem actOf_ints {l : List Int} (h : l.length = 7) : (actOf l).ints = l := by
  match l, h with
  | [a, b, c, d, e, f, g], _ => rfl
def raV (D : List UInt8) : Value := if raOk D = true then .tuple #[.agg (actOf (raL D)).cells.toArray, .bool true] else .tuple #[.agg Act.zero.cells.toArray, .bool false]
theorem raV_af (D : List UInt8) : ∃ vs : Array Value, raV D = .tuple vs ∧ ∀ v, v ∈ vs → af v = true := by
  unfold raV; split <;> exact ⟨_, rfl, by simp [af, af1, Act.cells, Act.zero]⟩
theorem allWithinR (l : List Int) (lo hi : Int) (h : Heap) (v : Value) (hb : l.length ≤ 1000) (hs : Sl h v 1 (ints l)) :
    ACalls Tryd.prog dR 70 #[v, .int .i64 lo, .int .i64 hi] h fun v h' => v = .bool (l.all (inR lo hi)) ∧ h' = h := upPR (allWithin_ok l lo hi h v hb hs)
theorem splitE (s : ByteArray) (l : List ByteArray) (h : Heap) (hl : splW s = l) (hs : s.size ≤ 1048576) : ACalls Tryd.prog dR 69 #[.string s, .string ⟨#[32]⟩] h
    fun v h' => v = .slice (some ⟨h.length, 0, none⟩) l.length l.length ∧ h' = h ++ [⟨2, 1, txs l⟩] := by
  subst hl; exact split_ok s h hs
theorem spl_sizes (c : UInt8) : ∀ (l : List UInt8) (w : List UInt8), w ∈ spl c l → w.length ≤ l.length
  | [], w, h => by simp [spl] at h; subst h; simp
  | x :: xs, w, h => by
      unfold spl at h
      split at h
      · rcases List.mem_cons.1 h with q | q
        · subst q; simp
        · have := spl_sizes c xs w q; simp only [Z3]; omega
      · split at h
        · simp at h; subst h; simp
        · rename_i w0 ws hq
          have ih := fun w hw => spl_sizes c xs w (by rw [hq]; exact hw)
          rcases List.mem_cons.1 h with q | q
          · subst q; have := ih w0 (by simp); simp only [Z3]; omega
          · have := ih w (by simp [q]); simp only [Z3]; omega
theorem spl_length (c : UInt8) : ∀ l : List UInt8, (spl c l).length ≤ l.length + 1
  | [] => Z4 _
  | x :: xs => by
      have ih := spl_length c xs
      unfold spl
      split
      · simp only [Z3]; omega
      · split
        · simp
        · rename_i w0 ws hq; rw [hq] at ih; simp only [Z3] at ih ⊢; omega
theorem sl_get {H : Heap} {b : Option Addr} {n c : Nat} {vs : List Int} (hs : Sl H (.slice b n c) 1 (ints vs)) (hn : vs.length = 7) : ∃ a, b = some a ∧ getC H a.block a.off = some (.int .i64 (vs.getD 0 0)) ∧ ∀ k, k < 7 → getC H a.block (a.off + k) = some (.int .i64 (vs.getD k 0)) := by
  obtain ⟨bb, cc, e, _, hrow⟩ := hs
  simp only [Value.slice.injEq] at e
  obtain ⟨rfl, _, _⟩ := e
  obtain ⟨a, rfl, _⟩ := Sl.row hrow (k := 0) (by simp [ints]; omega)
  have key : ∀ k, k < 7 → getC H a.block (a.off + k) = some (.int .i64 (vs.getD k 0)) := fun k hk => by
    obtain ⟨a', q, hld⟩ := Sl.row hrow (k := k) (by simp [ints]; omega)
    cases q
    simp only [ints, List.getElem_map] at hld
    have := getC_of_load hld
    rw [Nat.mul_one] at this
    rw [this, List.getD_eq_getElem?_getD, List.getElem?_eq_getElem (by omega), Z14]
  exact ⟨a, rfl, key 0 (by omega), key⟩
theorem readAct_ok (s : ByteArray) (h : Heap) (hs : s.size ≤ 1048576) : ACalls Tryd.prog dR 55 #[.string s] h fun v h' => v = raV s.data.toList ∧ h' = h := by
  refine acalls_pure (.inr (raV_af _)) ?_
  have hsl : s.data.toList.length = s.size := by rw [Array.length_toList]; rfl
  obtain ⟨l, hl⟩ : ∃ l, splW s = l := ⟨_, rfl⟩
  have hm := splW_spl s
  rw [hl] at hm
  have hln : l.length = (spl 32 s.data.toList).length := by rw [← hm, Zv]
  have hl1 : l.length ≤ 1048577 := by have := spl_length 32 s.data.toList; omega
  have hz : ∀ x ∈ l, x.size ≤ 1048576 := fun x hx => by
    have := spl_sizes 32 s.data.toList x.data.toList (by rw [← hm]; exact List.mem_map_of_mem hx)
    rw [hsl, show x.data.toList.length = x.size by rw [Array.length_toList]; rfl] at this
    omega
  have hri : riOk l = (spl 32 s.data.toList).all fun w => (riV w).2 := by rw [← hm, List.all_map]; rfl
  have hrl : riL l = (spl 32 s.data.toList).map fun w => (riV w).1 := by rw [← hm, List.map_map]; rfl
  have hraw : raOk s.data.toList = (decide (l.length = 7) && (riOk l && (riL l).all (inR 0 999))) := by
    rw [raOk, ← hln, hri, hrl, List.all_map]
    congr 1
    rw [Bool.eq_iff_iff]
    simp only [List.all_eq_true, Bool.and_eq_true, wOk, Function.comp_apply, inR]
    constructor
    · intro q; exact ⟨fun w hw => (q w hw).1, fun w hw => (q w hw).2⟩
    · intro q w hw; exact ⟨q.1 w hw, q.2 w hw⟩
  have hrok : raOk s.data.toList = true → riL l = raL s.data.toList := fun q => by rw [hrl]; exact (raL_eq q).1
  have hsw : ∀ (b : Blk) , Sl (h ++ [b, ⟨2, 1, txs l⟩]) (.slice (some ⟨h.length + 1, 0, none⟩) l.length l.length) 1 (trs l) := fun b => Tx.slk (k := 1) (Z4 _) rfl
  clear hm hln
  rcases Bool.eq_false_or_eq_true (riOk l) with hok | hok
  · obtain ⟨vs, hvs⟩ : ∃ vs, riL l = vs := ⟨_, rfl⟩
    rw [hvs] at hraw hrok
    have hvl : vs.length = l.length := by rw [← hvs, riL, Zv]
    by_cases h7 : l.length = 7
    · have d7 : decide ((l.length : Int) = 7) = true := decide_eq_true (by omega)
      have h77 : 7 ≤ l.length ∧ l.length ≤ 7 := by omega
      have hv7 : 7 ≤ vs.length ∧ vs.length ≤ 7 := by omega
      rcases Bool.eq_false_or_eq_true (vs.all (inR 0 999)) with hall | hall
      · have hr : raOk s.data.toList = true := by rw [hraw, hok, hall, h7]; rfl
        have hv : raV s.data.toList = .tuple #[.agg (actOf vs).cells.toArray, .bool true] := by rw [raV, if_pos hr, hrok hr]
        rw [hv]
        clear hv hr hraw hrok h7 hvl hsl hri hrl
        refine Z36 Tryd.func55 rfl Tryd.ntmps55 (by simp) (by dsimp only [Tryd.f55]) ?_
        have zq0 := @Act.cells_length
        have zq1 := @Act.cells_flat
        have zq2 := @Act.cells_take
        have zq3 := @Act.cells_splice
        repeat' (first | (with_reducible first | refine aw_parkR 2 ?_) | refine wS ?_ | refine wD ?_ | refine wT ?_ | refine wL ?_ | refine wB ?_ | refine wG ?_ | refine wY ?_ | refine gw_if (fun hb => ?_) (fun hb => ?_) | refine wC ?_ | refine cw_if (fun hb => ?_) (fun hb => ?_) | refine wRc ?_ | refine wV (ms := [0, 1, 3, 0, 8, 24, 0, 64, 192, 0, 512, 1536, 0, 4096, 12288, 0, 32768, 98304, 0, 262144, 786432, 2097151, 4194303, 8388607]) ?_ | refine wX ?_ | (refine wK (K := ?_) ?_ ?_; rotate_left 1) | (refine wM (v := ?_) ?_ ?_; rotate_left 1) | (refine wO (v := ?_) (L := ?_) ?_ ?_; rotate_left 2) | ((with_reducible refine readInts_y l _ _ ?_ ?_ ?_ ?_); (· (simp only [Z7, Zc, Zd]; exact hsw _)); (· assumption); (· assumption); (· assumption)) | ((with_reducible refine splitE _ l _ ?_ ?_); (· assumption); (· assumption)) | ((with_reducible refine allWithinR vs _ _ _ _ ?_ ?_); (· exact pO); (· exact hslv)) | ((with_reducible refine Z2w (n := 68) ?_); rintro _ _ ⟨b, F, rfl, rfl, hslv⟩) | refine hkp ?_)
        rw [hvs] at hslv
        simp only [Z7, Zc, Zd] at hslv
        obtain ⟨a, rfl, g0, hg⟩ := sl_get hslv (by omega)
        have g1 := hg 1 (by omega)
        have g2 := hg 2 (by omega)
        have g3 := hg 3 (by omega)
        have g4 := hg 4 (by omega)
        have g5 := hg 5 (by omega)
        have g6 := hg 6 (by omega)
        have b0 : (0 : Int) < (l.length : Int) := by omega
        have b1 : (1 : Int) < (l.length : Int) := by omega
        have b2 : (2 : Int) < (l.length : Int) := by omega
        have b3 : (3 : Int) < (l.length : Int) := by omega
        have b4 : (4 : Int) < (l.length : Int) := by omega
        have b5 : (5 : Int) < (l.length : Int) := by omega
        have b6 : (6 : Int) < (l.length : Int) := by omega
        clear hg hvs
        refine ⟨?_⟩
        repeat' (first | ((with_reducible refine eq_go ?_); simp only [stp, ev, ZB, reduceIte, Nat.reduceEqDiff, Z2x, Z13, Zy, bld, fillL, vcs, splice, Ze, ZH, Z35, ldv, stv, idxA, blt, lenV, Z10, Zg, Z14, Zw, Z33, Nat.reduceAdd, Nat.reduceMul, Nat.reduceLeDiff, newB, Ty.t3, Ty.t9, Ty.t31, Ty.t52, Ty.t69, Act.cells_length, Act.cells_flat, Act.cells_take, Act.cells_splice, Int.reduceToNat, Nat.mul_one, Nat.zero_mul, *]; rfl) | (with_reducible first | refine aw_then ?_ | refine aw_skip ?_ | refine aw_ret ?_ | refine aw_exit ?_ | refine aw_block ?_ | refine xr_reg (by decide +kernel) ?_ | refine xr_nil ?_ | refine k_norm ?_ | refine k_ret ?_ | refine k_exit ?_ | refine b_norm ?_ | refine b_ret ?_ | refine b_exit ?_ | refine b_past (by decide) ?_ | refine xd_nil ?_) | (refine Ty.c68 (args := ?_) (K := ?_) ?_ ?_ ?_; rotate_left 2) | (refine Ty.d68 (args := ?_) (v := ?_) ?_ (by decide +kernel) ?_ ?_; rotate_left 2) | (refine Ty.c69 (args := ?_) (K := ?_) ?_ ?_ ?_; rotate_left 2) | (refine Ty.l69 (args := ?_) (v := ?_) (L := ?_) ?_ (by decide +kernel) ?_ ?_; rotate_left 3) | (refine Ty.c70 (args := ?_) (K := ?_) ?_ ?_ ?_; rotate_left 2) | (refine Ty.d70 (args := ?_) (v := ?_) ?_ (by decide +kernel) ?_ ?_; rotate_left 2) | (refine xr_do (v := ?_) (h' := ?_) (by exact rfl) ?_ ?_; rotate_left 2) | (refine xr_st (v := ?_) (h' := ?_) (by exact rfl) ?_ ?_; rotate_left 2) | refine xe_reg (ms := [0, 1, 3, 0, 8, 24, 0, 64, 192, 0, 512, 1536, 0, 4096, 12288, 0, 32768, 98304, 0, 262144, 786432, 2097151, 4194303, 8388607]) Ty.mx (by decide +kernel) (by decide +kernel) [[],[],[],[],[],[],[],[],[],[],[],[],[],[],[],[],[],[],[],[],[],[],[h.length],[]] ?_ | (with_reducible first | refine xe_nil ?_) | (refine xe_do (v := ?_) (ids := []) (by exact rfl) (by decide +kernel) (by exact rfl) (by exact rfl) ?_ ?_; rotate_left 1) | (refine xe_st (v := ?_) (a := ?_) (h' := ?_) (ids := []) (by decide +kernel) (by exact rfl) ?_ ?_ ?_ ?_ ?_; rotate_left 3; (· simp only [stp, ev, ZB, reduceIte, Nat.reduceEqDiff, Z2x, Z13, Zy, bld, fillL, vcs, splice, Ze, ZH, Z35, ldv, stv, idxA, blt, lenV, Z10, Zg, Z14, Zw, Z33, Nat.reduceAdd, Nat.reduceMul, Nat.reduceLeDiff, newB, Ty.t3, Ty.t9, Ty.t31, Ty.t52, Ty.t69, Act.cells_length, Act.cells_flat, Act.cells_take, Act.cells_splice, Int.reduceToNat, Nat.mul_one, Nat.zero_mul, *]; rfl); (· exact rfl); (· simp)) | (refine xe_alloc (z := ?_) ?_ ?_ (by exact rfl) ?_; rotate_left 1; (· first | exact Ty.zc3 | exact Ty.zc9 | exact Ty.zc31 | exact Ty.zc52 | exact Ty.zc69); (· decide)) | (refine xe_pure (ids := []) (f := ?_) (fs := ?_) (cs := ?_) (args := ?_) (v := ?_) ?_ ?_ ?_ (by decide +kernel) (by exact rfl) (by exact rfl) ?_ ?_; rotate_left 5; (· simp only [ev]; rfl); (· first | with_reducible exact Ty.ok68 | with_reducible exact Ty.ok70); (· simp only [stp, ev, ZB, reduceIte, Nat.reduceEqDiff, Z2x, Z13, Zy, bld, fillL, vcs, splice, Ze, ZH, Z35, ldv, stv, idxA, blt, lenV, Z10, Zg, Z14, Zw, Z33, Nat.reduceAdd, Nat.reduceMul, Nat.reduceLeDiff, newB, Ty.t3, Ty.t9, Ty.t31, Ty.t52, Ty.t69, Act.cells_length, Act.cells_flat, Act.cells_take, Act.cells_splice, Int.reduceToNat, Nat.mul_one, Nat.zero_mul, *]; rfl); (· first | ((with_reducible refine readInts_y l _ _ ?_ ?_ ?_ ?_); (· (simp only [Z7, Zc, Zd]; exact hsw _)); (· assumption); (· assumption); (· assumption)) | ((with_reducible refine allWithinR vs _ _ _ _ ?_ ?_); (· omega); (· exact hslv)))) | (refine xe_cl (f := ?_) (fs := ?_) (cs := ?_) (args := ?_) (v := ?_) (ids := []) (L := ?_) (a := true) ?_ ?_ ?_ (by decide +kernel) (by exact rfl) (by exact rfl) (fun q => by cases q) ?_ ?_; rotate_left 6; (· simp only [ev]; rfl); (· first | with_reducible exact Ty.ok69); (· simp only [stp, ev, ZB, reduceIte, Nat.reduceEqDiff, Z2x, Z13, Zy, bld, fillL, vcs, splice, Ze, ZH, Z35, ldv, stv, idxA, blt, lenV, Z10, Zg, Z14, Zw, Z33, Nat.reduceAdd, Nat.reduceMul, Nat.reduceLeDiff, newB, Ty.t3, Ty.t9, Ty.t31, Ty.t52, Ty.t69, Act.cells_length, Act.cells_flat, Act.cells_take, Act.cells_splice, Int.reduceToNat, Nat.mul_one, Nat.zero_mul, *]; rfl); (· simp only [Z2c]; (first | ((with_reducible refine splitE _ l _ ?_ ?_); (· assumption); (· assumption))))) | (refine xd_do (v := ?_) (by exact rfl) (by decide +kernel) ?_ ?_; rotate_left 1) | (refine xr_g (b := ?_) (by exact rfl) ?_ ?_; rotate_left 1; (· simp only [ev, Zb, reduceIte, Nat.reduceEqDiff, Z8, Z5, *]; rfl)) | (refine xd_g (b := ?_) (by exact rfl) ?_ ?_; rotate_left 1; (· simp only [ev, Zb, reduceIte, Nat.reduceEqDiff, Z8, Z5, *]; rfl)) | (with_reducible first | refine gw_tt ?_ | refine gw_ff ?_ | refine gw_tf ?_ | refine gw_ft ?_ | refine gw_un ?_) | refine gw_if (fun hb => ?_) (fun hb => ?_) | (refine aw_c (b := ?_) (by decide) ?_ ?_; rotate_left 1; (· simp only [ev, Zb, reduceIte, Nat.reduceEqDiff, *]; rfl)) | (with_reducible first | refine cw_t ?_ | refine cw_f ?_) | refine cw_if (fun hb => ?_) (fun hb => ?_) | (refine r_ret (vs := ?_) ?_ ?_; rotate_left 1; (· simp only [resV, oneOf, stp, ev, ZB, reduceIte, Nat.reduceEqDiff, Z2x, Z13, Zy, bld, fillL, vcs, splice, Ze, ZH, Z35, ldv, stv, idxA, blt, lenV, Z10, Zg, Z14, Zw, Z33, Nat.reduceAdd, Nat.reduceMul, Nat.reduceLeDiff, newB, Ty.t3, Ty.t9, Ty.t31, Ty.t52, Ty.t69, Act.cells_length, Act.cells_flat, Act.cells_take, Act.cells_splice, Int.reduceToNat, Nat.mul_one, Nat.zero_mul, *]; rfl)) | ((with_reducible refine readInts_y l _ _ ?_ ?_ ?_ ?_); (· (simp only [Z7, Zc, Zd]; exact hsw _)); (· assumption); (· assumption); (· assumption)) | ((with_reducible refine splitE _ l _ ?_ ?_); (· assumption); (· assumption)) | ((with_reducible refine allWithinR vs _ _ _ _ ?_ ?_); (· first | omega | (simp only [Z2]; omega)); (· exact hslv)) | ((with_reducible refine Z2w (n := 68) ?_); rintro _ _ ⟨b, F, rfl, rfl, hslv⟩) | ((with_reducible refine Z2w ?_); rintro _ _ ⟨rfl, hh⟩; replace hh := hh.symm; subst hh))
        exact ⟨rfl, _, rfl⟩
      · have hr : raOk s.data.toList = false := by rw [hraw, hall]; simp
        have hv : raV s.data.toList = .tuple #[.agg Act.zero.cells.toArray, .bool false] := by rw [raV, hr]; rfl
        rw [hv]
        clear hv hr hraw hrok h7 hvl hsl hri hrl
        refine Z36 Tryd.func55 rfl Tryd.ntmps55 (by simp) (by dsimp only [Tryd.f55]) ?_
        have zq0 := @Act.cells_length
        have zq1 := @Act.cells_flat
        have zq2 := @Act.cells_take
        have zq3 := @Act.cells_splice
        repeat' (first | (with_reducible first | refine aw_parkR 2 ?_) | refine wS ?_ | refine wD ?_ | refine wT ?_ | refine wL ?_ | refine wB ?_ | refine wG ?_ | refine wY ?_ | refine gw_if (fun hb => ?_) (fun hb => ?_) | refine wC ?_ | refine cw_if (fun hb => ?_) (fun hb => ?_) | refine wRc ?_ | refine wV (ms := [0, 1, 3, 0, 8, 24, 0, 64, 192, 0, 512, 1536, 0, 4096, 12288, 0, 32768, 98304, 0, 262144, 786432, 2097151, 4194303, 8388607]) ?_ | refine wX ?_ | (refine wK (K := ?_) ?_ ?_; rotate_left 1) | (refine wM (v := ?_) ?_ ?_; rotate_left 1) | (refine wO (v := ?_) (L := ?_) ?_ ?_; rotate_left 2) | ((with_reducible refine readInts_y l _ _ ?_ ?_ ?_ ?_); (· (simp only [Z7, Zc, Zd]; exact hsw _)); (· assumption); (· assumption); (· assumption)) | ((with_reducible refine splitE _ l _ ?_ ?_); (· assumption); (· assumption)) | ((with_reducible refine allWithinR vs _ _ _ _ ?_ ?_); (· exact pO); (· exact hslv)) | ((with_reducible refine Z2w (n := 68) ?_); rintro _ _ ⟨b, F, rfl, rfl, hslv⟩) | refine hkp ?_)
        rw [hvs] at hslv
        simp only [Z7, Zc, Zd] at hslv
        clear hvs
        refine ⟨?_⟩
        have zq0 := @Act.cells_length
        have zq1 := @Act.cells_flat
        have zq2 := @Act.cells_take
        have zq3 := @Act.cells_splice
        repeat' (first | refine wS ?_ | refine wD ?_ | refine wT ?_ | refine wL ?_ | refine wB ?_ | refine wG ?_ | refine wY ?_ | refine gw_if (fun hb => ?_) (fun hb => ?_) | refine wC ?_ | refine cw_if (fun hb => ?_) (fun hb => ?_) | refine wRc ?_ | refine wV (ms := [0, 1, 3, 0, 8, 24, 0, 64, 192, 0, 512, 1536, 0, 4096, 12288, 0, 32768, 98304, 0, 262144, 786432, 2097151, 4194303, 8388607]) ?_ | refine wX ?_ | (refine wK (K := ?_) ?_ ?_; rotate_left 1) | (refine wM (v := ?_) ?_ ?_; rotate_left 1) | (refine wO (v := ?_) (L := ?_) ?_ ?_; rotate_left 2) | ((with_reducible refine readInts_y l _ _ ?_ ?_ ?_ ?_); (· (simp only [Z7, Zc, Zd]; exact hsw _)); (· assumption); (· assumption); (· assumption)) | ((with_reducible refine splitE _ l _ ?_ ?_); (· assumption); (· assumption)) | ((with_reducible refine allWithinR vs _ _ _ _ ?_ ?_); (· exact pO); (· exact hslv)) | ((with_reducible refine Z2w (n := 68) ?_); rintro _ _ ⟨b, F, rfl, rfl, hslv⟩) | refine hkp ?_)
        exact ⟨rfl, _, rfl⟩
    · have d7 : decide ((l.length : Int) = 7) = false := decide_eq_false (by omega)
      have hr : raOk s.data.toList = false := by rw [hraw, decide_eq_false h7]; rfl
      have hv : raV s.data.toList = .tuple #[.agg Act.zero.cells.toArray, .bool false] := by rw [raV, hr]; rfl
      rw [hv]
      clear hv hr hraw hrok h7 hvl hsl hri hrl
      refine Z36 Tryd.func55 rfl Tryd.ntmps55 (by simp) (by dsimp only [Tryd.f55]) ?_
      have zq0 := @Act.cells_length
      have zq1 := @Act.cells_flat
      have zq2 := @Act.cells_take
      have zq3 := @Act.cells_splice
      repeat' (first | refine wS ?_ | refine wD ?_ | refine wT ?_ | refine wL ?_ | refine wB ?_ | refine wG ?_ | refine wY ?_ | refine gw_if (fun hb => ?_) (fun hb => ?_) | refine wC ?_ | refine cw_if (fun hb => ?_) (fun hb => ?_) | refine wRc ?_ | refine wV (ms := [0, 1, 3, 0, 8, 24, 0, 64, 192, 0, 512, 1536, 0, 4096, 12288, 0, 32768, 98304, 0, 262144, 786432, 2097151, 4194303, 8388607]) ?_ | refine wX ?_ | (refine wK (K := ?_) ?_ ?_; rotate_left 1) | (refine wM (v := ?_) ?_ ?_; rotate_left 1) | (refine wO (v := ?_) (L := ?_) ?_ ?_; rotate_left 2) | ((with_reducible refine readInts_y l _ _ ?_ ?_ ?_ ?_); (· (simp only [Z7, Zc, Zd]; exact hsw _)); (· assumption); (· assumption); (· assumption)) | ((with_reducible refine splitE _ l _ ?_ ?_); (· assumption); (· assumption)) | ((with_reducible refine allWithinR vs _ _ _ _ ?_ ?_); (· exact pO); (· exact hslv)) | ((with_reducible refine Z2w (n := 68) ?_); rintro _ _ ⟨b, F, rfl, rfl, hslv⟩) | refine hkp ?_)
      exact ⟨rfl, _, rfl⟩
  · have hr : raOk s.data.toList = false := by rw [hraw, hok]; simp
    have hv : raV s.data.toList = .tuple #[.agg Act.zero.cells.toArray, .bool false] := by rw [raV, hr]; rfl
    rw [hv]
    clear hv hr hraw hrok hri hrl hsl
    refine Z36 Tryd.func55 rfl Tryd.ntmps55 (by simp) (by dsimp only [Tryd.f55]) ?_
    have zq0 := @Act.cells_length
    have zq1 := @Act.cells_flat
    have zq2 := @Act.cells_take
    have zq3 := @Act.cells_splice
    repeat' (first | refine wS ?_ | refine wD ?_ | refine wT ?_ | refine wL ?_ | refine wB ?_ | refine wG ?_ | refine wY ?_ | refine gw_if (fun hb => ?_) (fun hb => ?_) | refine wC ?_ | refine cw_if (fun hb => ?_) (fun hb => ?_) | refine wRc ?_ | refine wV (ms := [0, 1, 3, 0, 8, 24, 0, 64, 192, 0, 512, 1536, 0, 4096, 12288, 0, 32768, 98304, 0, 262144, 786432, 2097151, 4194303, 8388607]) ?_ | refine wX ?_ | (refine wK (K := ?_) ?_ ?_; rotate_left 1) | (refine wM (v := ?_) ?_ ?_; rotate_left 1) | (refine wO (v := ?_) (L := ?_) ?_ ?_; rotate_left 2) | ((with_reducible refine readInts_n l _ _ ?_ ?_ ?_ ?_); (· (simp only [Z7, Zc, Zd]; exact hsw _)); (· assumption); (· assumption); (· assumption)) | ((with_reducible refine splitE _ l _ ?_ ?_); (· assumption); (· assumption)) | ((with_reducible refine allWithinR vs _ _ _ _ ?_ ?_); (· exact pO); (· exact hslv)) | ((with_reducible refine Z2w (n := 68) ?_); rintro _ _ ⟨F, rfl, rfl⟩) | refine hkp ?_)
    exact ⟨rfl, _, rfl⟩
end Go.Proofs.YtmjhfklmlcnofaaDoor.Am
namespace Go.Proofs.YtmjhfklmlcnofaaDoor.Am
open Go Go.Proofs Go.RowKit
set_option linter.unusedVariables false
set_option linter.unusedSimpArgs false
set_option maxRecDepth 100000
set_option maxHeartbeats 8000000
theorem implReadAct_ok (s : ByteArray) (h : Heap) (hs : s.size ≤ 1048576) : ACalls Tryd.prog dR 35 #[.string s] h fun v h' => v = raV s.data.toList ∧ h' = h := by
  refine acalls_pure (.inr (raV_af _)) ?_
  unfold raV
  have hra := readAct_ok s
  unfold raV at hra
  rcases Bool.eq_false_or_eq_true (raOk s.data.toList) with hr | hr
  · simp only [hr, Z2x] at hra ⊢
    refine Z36 Tryd.func35 rfl Tryd.ntmps35 (by simp) (by dsimp only [Tryd.f35]) ?_
    have zq0 := @Act.cells_length
    have zq1 := @Act.cells_flat
    have zq2 := @Act.cells_take
    have zq3 := @Act.cells_splice
    repeat' (first | refine wS ?_ | refine wD ?_ | refine wT ?_ | refine wL ?_ | refine wB ?_ | refine wC ?_ | refine cw_if (fun hb => ?_) (fun hb => ?_) | refine wRc ?_ | (refine wK (K := ?_) ?_ ?_; rotate_left 1) | ((with_reducible refine hra _ ?_); (· assumption)) | refine hkp ?_)
    exact ⟨rfl, _, rfl⟩
  · simp only [hr, Bool.false_eq_true, if_false] at hra ⊢
    refine Z36 Tryd.func35 rfl Tryd.ntmps35 (by simp) (by dsimp only [Tryd.f35]) ?_
    have zq0 := @Act.cells_length
    have zq1 := @Act.cells_flat
    have zq2 := @Act.cells_take
    have zq3 := @Act.cells_splice
    repeat' (first | refine wS ?_ | refine wD ?_ | refine wT ?_ | refine wL ?_ | refine wB ?_ | refine wC ?_ | refine cw_if (fun hb => ?_) (fun hb => ?_) | refine wRc ?_ | (refine wK (K := ?_) ?_ ?_; rotate_left 1) | ((with_reducible refine hra _ ?_); (· assumption)) | refine hkp ?_)
    exact ⟨rfl, _, rfl⟩
theorem ints_flat7 : ∀ l : List Int, (ints l).flatten = l.map (Value.int .i64)
  | [] => rfl
  | x :: l => by
      have := ints_flat7 l
      simp only [ints] at this
      simp [ints, this]
theorem l1SplitR (s : ByteArray) (h : Heap) (hs : s.size ≤ 1048576) : ACalls Tryd.prog dR 52 #[.string s, .int .u8 32] h
    fun v h' => ∃ (l : List ByteArray) (b : Option Addr) (L : Heap), l.map (·.data.toList) = spl 32 s.data.toList ∧ v = .slice b l.length l.length ∧ h' = h ++ L ∧ Sl (h ++ L) (.slice b l.length l.length) 1 (trs l) ∧ ∀ x ∈ l, x.size ≤ s.size := by
  refine (l1Split_ok s h hs).mono ?_
  rintro v h' ⟨l, L, hm, rfl, happ, hll⟩
  obtain ⟨b, rfl⟩ := app_slice happ
  refine ⟨l, b, L, hm, rfl, rfl, ?_, fun x hx => ?_⟩
  · rcases happ with ⟨q1, q2, _⟩ | ⟨_, _, k, q1, q2⟩
    · obtain rfl := List.length_eq_zero_iff.1 q2
      rw [q1]; exact Sl.nil _ 1
    · rw [q1]; exact Tx.slk (Z4 _) q2
  · have := spl_sizes 32 s.data.toList x.data.toList (by rw [← hm]; exact List.mem_map_of_mem hx)
    rw [show s.data.toList.length = s.size by rw [Array.length_toList]; rfl, show x.data.toList.length = x.size by rw [Array.length_toList]; rfl] at this
    exact this
theorem actTextR (x : Act) (h : Heap) : ACalls Tryd.prog dR 54 #[.agg x.cells.toArray] h fun v h' => v = actV x ∧ h' = h := upPR (specActText_ok x h)
theorem specReadAct_ok (s : ByteArray) (h : Heap) (hs : s.size ≤ 1048576) : ACalls Tryd.prog dR 34 #[.string s] h fun v h' => v = raV s.data.toList ∧ h' = h := by
  refine acalls_pure (.inr (raV_af _)) ?_
  have hsl : s.data.toList.length = s.size := by rw [Array.length_toList]; rfl
  have hno : raOk s.data.toList = false → raV s.data.toList = .tuple #[.agg Act.zero.cells.toArray, .bool false] := fun q => by rw [raV, q]; rfl
  have hyes : raOk s.data.toList = true → raV s.data.toList = .tuple #[.agg (actOf (raL s.data.toList)).cells.toArray, .bool true] := fun q => by rw [raV, if_pos q]
  generalize hV : raV s.data.toList = V at hno hyes ⊢
  clear hV
  refine Z36 Tryd.func34 rfl Tryd.ntmps34 (by simp) (by dsimp only [Tryd.f34]) ?_
  have zq0 := @Act.cells_length
  have zq1 := @Act.cells_flat
  have zq2 := @Act.cells_take
  have zq3 := @Act.cells_splice
  repeat' (first | (with_reducible first | refine aw_parkR 2 ?_) | refine wS ?_ | refine wD ?_ | refine wT ?_ | refine wL ?_ | refine wB ?_ | refine wG ?_ | refine wY ?_ | refine gw_if (fun hb => ?_) (fun hb => ?_) | refine wC ?_ | refine cw_if (fun hb => ?_) (fun hb => ?_) | refine wRc ?_ | refine wV (ms := [0, 1, 3, 0, 8, 24, 0, 64, 192, 0, 512, 1536, 0, 4096, 12288, 0, 32768, 98304, 0, 262144, 786432, 2097151, 0, 8388607]) ?_ | refine wX ?_ | (refine wK (K := ?_) ?_ ?_; rotate_left 1) | (refine wM (v := ?_) ?_ ?_; rotate_left 1) | (refine xd_bs (v := ?_) (h' := ?_) (L := ?_) (by decide +kernel) ?_ ?_ ?_; rotate_left 3; (· exact eqA); (· exact rfl)) | ((with_reducible refine l1SplitR _ _ ?_); (· assumption)) | ((with_reducible refine l1Read_ok _ _ ?_); (· (first | assumption | omega))) | (with_reducible exact specActText_ok _ _) | ((with_reducible refine Z2w (n := 52) ?_); rintro _ _ ⟨l, b, L, hm, rfl, rfl, hsw, hzz⟩) | refine hkp ?_)
  have hln : l.length = (spl 32 s.data.toList).length := by rw [← hm, Zv]
  have hrl : l.map (fun x => rdN x.data.toList) = raL s.data.toList := by rw [raL, ← hm, List.map_map]; rfl
  clear hm
  by_cases h60 : 60 < s.size
  · have d1 : decide ((60 : Int) < (s.size : Int)) = true := decide_eq_true (by omega)
    have hr : raOk s.data.toList = false := by
      rcases Bool.eq_false_or_eq_true (raOk s.data.toList) with q | q
      · have := (raL_eq q).2.2.2; omega
      · exact q
    rw [hno hr]
    clear hno hyes hr h60 hln hrl hsl
    refine ⟨?_⟩
    have zq0 := @Act.cells_length
    have zq1 := @Act.cells_flat
    have zq2 := @Act.cells_take
    have zq3 := @Act.cells_splice
    repeat' (first | refine wS ?_ | refine wD ?_ | refine wT ?_ | refine wL ?_ | refine wB ?_ | refine wG ?_ | refine wY ?_ | refine gw_if (fun hb => ?_) (fun hb => ?_) | refine wC ?_ | refine cw_if (fun hb => ?_) (fun hb => ?_) | refine wRc ?_ | refine wV (ms := [0, 1, 3, 0, 8, 24, 0, 64, 192, 0, 512, 1536, 0, 4096, 12288, 0, 32768, 98304, 0, 262144, 786432, 2097151, 0, 8388607]) ?_ | refine wX ?_ | (refine wK (K := ?_) ?_ ?_; rotate_left 1) | (refine wM (v := ?_) ?_ ?_; rotate_left 1) | (refine xd_bs (v := ?_) (h' := ?_) (L := ?_) (by decide +kernel) ?_ ?_ ?_; rotate_left 3; (· exact eqA); (· exact rfl)) | ((with_reducible refine l1SplitR _ _ ?_); (· assumption)) | ((with_reducible refine l1Read_ok _ _ ?_); (· (first | assumption | omega))) | (with_reducible exact specActText_ok _ _) | ((with_reducible refine Z2w (n := 52) ?_); rintro _ _ ⟨l, b, L, hm, rfl, rfl, hsw, hzz⟩) | refine hkp ?_)
    exact ⟨rfl, _, rfl⟩
  have d1 : decide ((60 : Int) < (s.size : Int)) = false := decide_eq_false (by omega)
  by_cases h7 : l.length = 7
  · have d7 : decide ((l.length : Int) = 7) = true := decide_eq_true (by omega)
    have h77 : 7 ≤ l.length ∧ l.length ≤ 7 := by omega
    have hln7 : (spl 32 s.data.toList).length = 7 := by omega
    obtain ⟨vs, hvs⟩ : ∃ vs, raL s.data.toList = vs := ⟨_, rfl⟩
    rw [hvs] at hrl hyes
    clear h7 hln h60
    refine ⟨?_⟩
    have zq0 := @Act.cells_length
    have zq1 := @Act.cells_flat
    have zq2 := @Act.cells_take
    have zq3 := @Act.cells_splice
    repeat' (first | refine wS ?_ | refine wD ?_ | refine wT ?_ | refine wL ?_ | refine wB ?_ | refine wG ?_ | refine wY ?_ | refine gw_if (fun hb => ?_) (fun hb => ?_) | refine wC ?_ | refine cw_if (fun hb => ?_) (fun hb => ?_) | refine wRc ?_ | refine wV (ms := [0, 1, 3, 0, 8, 24, 0, 64, 192, 0, 512, 1536, 0, 4096, 12288, 0, 32768, 98304, 0, 262144, 786432, 2097151, 0, 8388607]) ?_ | refine wX ?_ | (refine wK (K := ?_) ?_ ?_; rotate_left 1) | (refine wM (v := ?_) ?_ ?_; rotate_left 1) | (refine xd_bs (v := ?_) (h' := ?_) (L := ?_) (by decide +kernel) ?_ ?_ ?_; rotate_left 3; (· exact eqA); (· exact rfl)) | ((with_reducible refine l1SplitR _ _ ?_); (· assumption)) | ((with_reducible refine l1Read_ok _ _ ?_); (· (first | assumption | omega))) | (with_reducible exact specActText_ok _ _) | ((with_reducible refine Z2w (n := 52) ?_); rintro _ _ ⟨l, b, L, hm, rfl, rfl, hsw, hzz⟩) | refine hkp ?_)
    replace hsw : Sl (h ++ [⟨2, 1, Act.zero.cells⟩] ++ L) (.slice b l.length l.length) 1 (trs l) := hsw
    rw [Z7, Zc, Zd] at hsw
    obtain ⟨bb, cc, hbe, hcc, hrow⟩ := id hsw
    simp only [trs, Zv, Value.slice.injEq] at hbe hcc
    obtain ⟨rfl, _, rfl⟩ := hbe
    have hvl : vs.length = l.length := by rw [← hrl, Zv]
    refine aw_forget [0, 2, 3, 5, 22, 23, 24] ?_
    intro T hR
    simp only [Z37, Z38, Z39, implies_true, and_true, stp, ev, ZB, reduceIte, Nat.reduceEqDiff, Z2x, Z13, Zy] at hR
    obtain ⟨t0, t2, t3, t5, t22, t23, t24⟩ := hR
    refine aw_for [0, 2, 3, 22, 23] (fun k T' h' => ∃ E : Heap, h' = h ++ (⟨2, 1, Act.zero.cells⟩ :: (L ++ E)) ∧ T' 24 = .int .i64 k ∧ App (h ++ (⟨2, 1, Act.zero.cells⟩ :: L)).length E (T' 5) 1 ((vs.take k).map (Value.int .i64)) k) l.length (k0 := 0) (Nat.zero_le _)
      ⟨[], by simp [Act.cells, Act.zero], t24, by rw [t5]; exact App.nil _ _ _⟩ ?_
    rintro k T' h' hk hR ⟨E, rfl, h24, hap⟩
    simp only [Z37, Z38, Z39, implies_true, and_true, t0, t2, t3, t22, t23] at hR
    obtain ⟨r0, r2, r3, r22, r23⟩ := hR
    clear t5 t24
    obtain ⟨b5, h5⟩ := app_slice hap
    have hfl := hap.flat
    rw [h5] at hap hfl
    rcases Nat.lt_or_ge k l.length with hkn | hkn
    · have h1 : (k : Int) < (l.length : Int) := by omega
      obtain ⟨a, rfl, hld⟩ := Sl.row hrow (k := k) (by simpa [trs] using hkn)
      simp only [trs, List.getElem_map] at hld
      have hg := getC_old (getC_of_load hld) E
      have hzk := Nat.le_trans (hzz l[k] (List.getElem_mem _)) hs
      have hvk : vs.take (k + 1) = vs.take k ++ [rdN l[k].data.toList] := by
        rw [List.take_succ_eq_append_getElem (by omega)]
        simp only [← hrl, List.getElem_map]
      have hbs := bsl_one (h := h ++ (⟨2, 1, Act.zero.cells⟩ :: (L ++ E))) (x := .int .i64 (rdN l[k].data.toList)) Ty.sl69 Ty.zc3 rfl rfl
      obtain ⟨v', L', hap', happ⟩ := app_step (h2 := h ++ (⟨2, 1, Act.zero.cells⟩ :: L)) (L := E) (E := [⟨2, 1, [.int .i64 (rdN l[k].data.toList)]⟩]) (j := 0) (ix := h.length + (L.length + (E.length + 1)))
        Ty.sl69 Ty.zc3 Ty.by3 hap rfl rfl (by simp; omega) (by omega) (by omega)
      simp only [Z7, Zc, Zd, Z6, Z3, Z2, Zf, Zh, Nat.reduceAdd] at hbs hap' hg
      have zq0 := @Act.cells_length
      have zq1 := @Act.cells_flat
      have zq2 := @Act.cells_take
      have zq3 := @Act.cells_splice
      repeat' (first | refine wS ?_ | refine wD ?_ | refine wT ?_ | refine wL ?_ | refine wB ?_ | refine wG ?_ | refine wY ?_ | refine gw_if (fun hb => ?_) (fun hb => ?_) | refine wC ?_ | refine cw_if (fun hb => ?_) (fun hb => ?_) | refine wRc ?_ | refine wV (ms := [0, 1, 3, 0, 8, 24, 0, 64, 192, 0, 512, 1536, 0, 4096, 12288, 0, 32768, 98304, 0, 262144, 786432, 2097151, 0, 8388607]) ?_ | refine wX ?_ | (refine wK (K := ?_) ?_ ?_; rotate_left 1) | (refine wM (v := ?_) ?_ ?_; rotate_left 1) | (refine xd_bs (v := ?_) (h' := ?_) (L := ?_) (by decide +kernel) ?_ ?_ ?_; rotate_left 3; (· exact eqA); (· exact rfl)) | ((with_reducible refine l1SplitR _ _ ?_); (· assumption)) | ((with_reducible refine l1Read_ok _ _ ?_); (· (first | assumption | omega))) | (with_reducible exact specActText_ok _ _) | ((with_reducible refine Z2w (n := 52) ?_); rintro _ _ ⟨l, b, L, hm, rfl, rfl, hsw, hzz⟩) | refine hkp ?_)
      refine ⟨by first | assumption | omega, ?_, ?_⟩
      · simp only [Z37, Z38, Z39, implies_true, and_true, ZB, stp, ev, reduceIte, Nat.reduceEqDiff, Z2x, Z13, Zy, *]
      refine ⟨L', rfl, ?_, ?_⟩
      · simp only [Zb, reduceIte, Nat.reduceEqDiff]
        rw [wrap_id (by omega)]; rfl
      · simp only [Zb, reduceIte, Nat.reduceEqDiff]
        exact happ.cast rfl rfl rfl (by rw [hvk]; simp) rfl
    · have h1 : ¬ (k : Int) < (l.length : Int) := by omega
      have hk7 : k = 7 := by omega
      rw [List.take_of_length_le (by omega)] at hap
      have hslE : Sl ((h ++ (⟨2, 1, Act.zero.cells⟩ :: L)) ++ E) (.slice b5 k k) 1 (ints vs) := by
        rcases hap with ⟨_, q, _⟩ | ⟨_, _, j, q1, q2⟩
        · omega
        · rw [q1]; exact sl_at (k := j) (rows := ints vs) (by rw [q2, ints_flat7]) (ints_len _) (by simp [ints]; omega) (Z4 _)
      rw [Z7, Zc] at hslE
      obtain ⟨ad, rfl, g0, hgg⟩ := sl_get hslE (by omega)
      have g1 := hgg 1 (by omega)
      have g2 := hgg 2 (by omega)
      have g3 := hgg 3 (by omega)
      have g4 := hgg 4 (by omega)
      have g5 := hgg 5 (by omega)
      have g6 := hgg 6 (by omega)
      have b0' : (0 : Int) < (k : Int) := by omega
      have c0 : ad.off + Int.toNat 0 * 1 = ad.off := rfl
      have b1' : (1 : Int) < (k : Int) := by omega
      have c1 : ad.off + Int.toNat 1 * 1 = ad.off + 1 := rfl
      have b2' : (2 : Int) < (k : Int) := by omega
      have c2 : ad.off + Int.toNat 2 * 1 = ad.off + 2 := rfl
      have b3' : (3 : Int) < (k : Int) := by omega
      have c3 : ad.off + Int.toNat 3 * 1 = ad.off + 3 := rfl
      have b4' : (4 : Int) < (k : Int) := by omega
      have c4 : ad.off + Int.toNat 4 * 1 = ad.off + 4 := rfl
      have b5' : (5 : Int) < (k : Int) := by omega
      have c5 : ad.off + Int.toNat 5 * 1 = ad.off + 5 := rfl
      have b6' : (6 : Int) < (k : Int) := by omega
      have c6 : ad.off + Int.toNat 6 * 1 = ad.off + 6 := rfl
      have hin : (actOf vs).ints = vs := actOf_ints (by omega)
      rcases Bool.eq_false_or_eq_true (vs.all (inR 0 999)) with hall | hall
      · have hat : ∀ H : Heap, ACalls Tryd.prog dR 54 #[.agg #[.int .i64 (vs.getD 0 0), .int .i64 (vs.getD 1 0), .int .i64 (vs.getD 2 0), .int .i64 (vs.getD 3 0), .int .i64 (vs.getD 4 0), .int .i64 (vs.getD 5 0), .int .i64 (vs.getD 6 0)]] H fun v h' => v = .tuple #[.string (S (Lib.join (decs vs) [32])), .bool true] ∧ h' = H := fun H =>
          (actTextR (actOf vs) H).mono fun v h' q => ⟨q.1.trans (by rw [actV, hin, if_pos hall]), q.2⟩
        by_cases hj : Lib.join (decs vs) [32] = s.data.toList
        · have d9 : decide (S (Lib.join (decs vs) [32]) = s) = true := by rw [hj, S_list]; exact decide_eq_true rfl
          rw [hyes (raOk_of hln7 (by rw [hvs]; exact hall) (by rw [hvs]; exact hj))]
          clear hyes hno hj hall hin hgg hslE hap hvl hrl hvs hk7 h77 hln7 hsl
          have zq0 := @Act.cells_length
          have zq1 := @Act.cells_flat
          have zq2 := @Act.cells_take
          have zq3 := @Act.cells_splice
          repeat' (first | refine wS ?_ | refine wD ?_ | refine wT ?_ | refine wL ?_ | refine wB ?_ | refine wG ?_ | refine wY ?_ | refine gw_if (fun hb => ?_) (fun hb => ?_) | refine wC ?_ | refine cw_if (fun hb => ?_) (fun hb => ?_) | refine wRc ?_ | refine xe_reg (ms := [0, 1, 3, 0, 8, 24, 0, 64, 192, 0, 512, 1536, 0, 4096, 12288, 0, 32768, 98304, 0, 262144, 786432, 2097151, 0, 8388607]) Ty.mx (by decide +kernel) (by decide +kernel) [[],[],[],[],[],[],[],[],[],[],[],[],[],[],[],[],[],[],[],[],[],[],[],[h.length+(L.length+(E.length+1))]] ?_ | refine wX ?_ | (refine wK (K := ?_) ?_ ?_; rotate_left 1) | (refine wM (v := ?_) ?_ ?_; rotate_left 1) | exact eqA | (refine xe_alloc (z := ?_) ?_ ?_ (by exact rfl) ?_; rotate_left 1; (· first | exact Ty.zc3 | exact Ty.zc5 | exact Ty.zc9 | exact Ty.zc31 | exact Ty.zc52 | exact Ty.zc69); (· decide)) | (refine xe_do (v := ?_) (ids := []) (by exact rfl) (by decide +kernel) (by exact rfl) (by exact rfl) ?_ ?_; rotate_left 1) | (refine xe_st (v := ?_) (a := ?_) (h' := ?_) (ids := []) (by decide +kernel) (by exact rfl) ?_ ?_ ?_ ?_ ?_; rotate_left 3; (· exact eqA); (· exact rfl); (· simp)) | (refine xe_pure (ids := []) (f := ?_) (fs := ?_) (cs := ?_) (args := ?_) (v := ?_) ?_ ?_ ?_ (by decide +kernel) (by exact rfl) (by exact rfl) ?_ ?_; rotate_left 5; (· simp only [ev]; rfl); (· first | with_reducible exact Ty.ok52 | with_reducible exact Ty.ok53 | with_reducible exact Ty.ok54); (· exact eqA); (· first | ((with_reducible refine l1SplitR _ _ ?_); (· assumption)) | ((with_reducible refine l1Read_ok _ _ ?_); (· (first | assumption | omega))) | ((with_reducible refine hat _)))) | ((with_reducible refine l1SplitR _ _ ?_); (· assumption)) | ((with_reducible refine l1Read_ok _ _ ?_); (· (first | assumption | omega))) | (with_reducible exact hat _) | ((with_reducible refine Z2w (n := 52) ?_); rintro _ _ ⟨l, b, L, hm, rfl, rfl, hsw, hzz⟩) | refine hkp ?_)
          exact ⟨rfl, _, rfl⟩
        · have d9 : decide (S (Lib.join (decs vs) [32]) = s) = false := decide_eq_false fun z => hj (by rw [← S_list s] at z; exact S_inj.1 z)
          have hr : raOk s.data.toList = false := by
            rcases Bool.eq_false_or_eq_true (raOk s.data.toList) with q | q
            · have := (raL_eq q).2.2.1; rw [hvs] at this; exact absurd this.symm hj
            · exact q
          rw [hno hr]
          clear hyes hno hj hall hin hgg hslE hap hvl hrl hvs hk7 h77 hln7 hsl hr
          have zq0 := @Act.cells_length
          have zq1 := @Act.cells_flat
          have zq2 := @Act.cells_take
          have zq3 := @Act.cells_splice
          repeat' (first | refine wS ?_ | refine wD ?_ | refine wT ?_ | refine wL ?_ | refine wB ?_ | refine wG ?_ | refine wY ?_ | refine gw_if (fun hb => ?_) (fun hb => ?_) | refine wC ?_ | refine cw_if (fun hb => ?_) (fun hb => ?_) | refine wRc ?_ | refine xe_reg (ms := [0, 1, 3, 0, 8, 24, 0, 64, 192, 0, 512, 1536, 0, 4096, 12288, 0, 32768, 98304, 0, 262144, 786432, 2097151, 0, 8388607]) Ty.mx (by decide +kernel) (by decide +kernel) [[],[],[],[],[],[],[],[],[],[],[],[],[],[],[],[],[],[],[],[],[],[],[],[h.length+(L.length+(E.length+1))]] ?_ | refine wX ?_ | (refine wK (K := ?_) ?_ ?_; rotate_left 1) | (refine wM (v := ?_) ?_ ?_; rotate_left 1) | exact eqA | (refine xe_alloc (z := ?_) ?_ ?_ (by exact rfl) ?_; rotate_left 1; (· first | exact Ty.zc3 | exact Ty.zc5 | exact Ty.zc9 | exact Ty.zc31 | exact Ty.zc52 | exact Ty.zc69); (· decide)) | (refine xe_do (v := ?_) (ids := []) (by exact rfl) (by decide +kernel) (by exact rfl) (by exact rfl) ?_ ?_; rotate_left 1) | (refine xe_st (v := ?_) (a := ?_) (h' := ?_) (ids := []) (by decide +kernel) (by exact rfl) ?_ ?_ ?_ ?_ ?_; rotate_left 3; (· exact eqA); (· exact rfl); (· simp)) | (refine xe_pure (ids := []) (f := ?_) (fs := ?_) (cs := ?_) (args := ?_) (v := ?_) ?_ ?_ ?_ (by decide +kernel) (by exact rfl) (by exact rfl) ?_ ?_; rotate_left 5; (· simp only [ev]; rfl); (· first | with_reducible exact Ty.ok52 | with_reducible exact Ty.ok53 | with_reducible exact Ty.ok54); (· exact eqA); (· first | ((with_reducible refine l1SplitR _ _ ?_); (· assumption)) | ((with_reducible refine l1Read_ok _ _ ?_); (· (first | assumption | omega))) | ((with_reducible refine hat _)))) | ((with_reducible refine l1SplitR _ _ ?_); (· assumption)) | ((with_reducible refine l1Read_ok _ _ ?_); (· (first | assumption | omega))) | (with_reducible exact hat _) | ((with_reducible refine Z2w (n := 52) ?_); rintro _ _ ⟨l, b, L, hm, rfl, rfl, hsw, hzz⟩) | refine hkp ?_)
          exact ⟨rfl, _, rfl⟩
      · have hat : ∀ H : Heap, ACalls Tryd.prog dR 54 #[.agg #[.int .i64 (vs.getD 0 0), .int .i64 (vs.getD 1 0), .int .i64 (vs.getD 2 0), .int .i64 (vs.getD 3 0), .int .i64 (vs.getD 4 0), .int .i64 (vs.getD 5 0), .int .i64 (vs.getD 6 0)]] H fun v h' => v = .tuple #[.string ⟨#[]⟩, .bool false] ∧ h' = H := fun H =>
          (actTextR (actOf vs) H).mono fun v h' q => ⟨q.1.trans (by rw [actV, hin, hall]; rfl), q.2⟩
        have hr : raOk s.data.toList = false := by
          rcases Bool.eq_false_or_eq_true (raOk s.data.toList) with q | q
          · have := (raL_eq q).2.1; rw [hvs, hall] at this; cases this
          · exact q
        rw [hno hr]
        clear hyes hno hall hin hgg hslE hap hvl hrl hvs hk7 h77 hln7 hsl hr
        have zq0 := @Act.cells_length
        have zq1 := @Act.cells_flat
        have zq2 := @Act.cells_take
        have zq3 := @Act.cells_splice
        repeat' (first | refine wS ?_ | refine wD ?_ | refine wT ?_ | refine wL ?_ | refine wB ?_ | refine wG ?_ | refine wY ?_ | refine gw_if (fun hb => ?_) (fun hb => ?_) | refine wC ?_ | refine cw_if (fun hb => ?_) (fun hb => ?_) | refine wRc ?_ | refine xe_reg (ms := [0, 1, 3, 0, 8, 24, 0, 64, 192, 0, 512, 1536, 0, 4096, 12288, 0, 32768, 98304, 0, 262144, 786432, 2097151, 0, 8388607]) Ty.mx (by decide +kernel) (by decide +kernel) [[],[],[],[],[],[],[],[],[],[],[],[],[],[],[],[],[],[],[],[],[],[],[],[h.length+(L.length+(E.length+1))]] ?_ | refine wX ?_ | (refine wK (K := ?_) ?_ ?_; rotate_left 1) | (refine wM (v := ?_) ?_ ?_; rotate_left 1) | exact eqA | (refine xe_alloc (z := ?_) ?_ ?_ (by exact rfl) ?_; rotate_left 1; (· first | exact Ty.zc3 | exact Ty.zc5 | exact Ty.zc9 | exact Ty.zc31 | exact Ty.zc52 | exact Ty.zc69); (· decide)) | (refine xe_do (v := ?_) (ids := []) (by exact rfl) (by decide +kernel) (by exact rfl) (by exact rfl) ?_ ?_; rotate_left 1) | (refine xe_st (v := ?_) (a := ?_) (h' := ?_) (ids := []) (by decide +kernel) (by exact rfl) ?_ ?_ ?_ ?_ ?_; rotate_left 3; (· exact eqA); (· exact rfl); (· simp)) | (refine xe_pure (ids := []) (f := ?_) (fs := ?_) (cs := ?_) (args := ?_) (v := ?_) ?_ ?_ ?_ (by decide +kernel) (by exact rfl) (by exact rfl) ?_ ?_; rotate_left 5; (· simp only [ev]; rfl); (· first | with_reducible exact Ty.ok52 | with_reducible exact Ty.ok53 | with_reducible exact Ty.ok54); (· exact eqA); (· first | ((with_reducible refine l1SplitR _ _ ?_); (· assumption)) | ((with_reducible refine l1Read_ok _ _ ?_); (· (first | assumption | omega))) | ((with_reducible refine hat _)))) | ((with_reducible refine l1SplitR _ _ ?_); (· assumption)) | ((with_reducible refine l1Read_ok _ _ ?_); (· (first | assumption | omega))) | (with_reducible exact hat _) | ((with_reducible refine Z2w (n := 52) ?_); rintro _ _ ⟨l, b, L, hm, rfl, rfl, hsw, hzz⟩) | refine hkp ?_)
        exact ⟨rfl, _, rfl⟩
  · have d7 : decide ((l.length : Int) = 7) = false := decide_eq_false (by omega)
    have hr : raOk s.data.toList = false := by rw [raOk, decide_eq_false (by omega)]; rfl
    rw [hno hr]
    clear hno hyes hr h60 hln hrl hsl h7
    refine ⟨?_⟩
    have zq0 := @Act.cells_length
    have zq1 := @Act.cells_flat
    have zq2 := @Act.cells_take
    have zq3 := @Act.cells_splice
    repeat' (first | refine wS ?_ | refine wD ?_ | refine wT ?_ | refine wL ?_ | refine wB ?_ | refine wG ?_ | refine wY ?_ | refine gw_if (fun hb => ?_) (fun hb => ?_) | refine wC ?_ | refine cw_if (fun hb => ?_) (fun hb => ?_) | refine wRc ?_ | refine wV (ms := [0, 1, 3, 0, 8, 24, 0, 64, 192, 0, 512, 1536, 0, 4096, 12288, 0, 32768, 98304, 0, 262144, 786432, 2097151, 0, 8388607]) ?_ | refine wX ?_ | (refine wK (K := ?_) ?_ ?_; rotate_left 1) | (refine wM (v := ?_) ?_ ?_; rotate_left 1) | (refine xd_bs (v := ?_) (h' := ?_) (L := ?_) (by decide +kernel) ?_ ?_ ?_; rotate_left 3; (· exact eqA); (· exact rfl)) | ((with_reducible refine l1SplitR _ _ ?_); (· assumption)) | ((with_reducible refine l1Read_ok _ _ ?_); (· (first | assumption | omega))) | (with_reducible exact hat _) | ((with_reducible refine Z2w (n := 52) ?_); rintro _ _ ⟨l, b, L, hm, rfl, rfl, hsw, hzz⟩) | refine hkp ?_)
    exact ⟨rfl, _, rfl⟩
end Go.Proofs.YtmjhfklmlcnofaaDoor.Am
namespace Go.Proofs.YtmjhfklmlcnofaaDoor.Am
open Go Go.Proofs Go.RowKit
set_option linter.unusedVariables false
set_option linter.unusedSimpArgs false
set_option maxRecDepth 100000
set_option maxHeartbeats 8000000
def raM (D : List UInt8) : Act := if raOk D = true then actOf (raL D) else Act.zero
theorem raV_eq (D : List UInt8) : raV D = .tuple #[.agg (raM D).cells.toArray, .bool (raOk D)] := by
  unfold raV raM
  split
  · rename_i q; rw [q]
  · rename_i q; rw [Bool.not_eq_true] at q; rw [q]
theorem implRA_p (s : ByteArray) (h : Heap) (hs : s.size ≤ 1048576) : ACalls Tryd.prog dR 35 #[.string s] h fun v h' => v = .tuple #[.agg (raM s.data.toList).cells.toArray, .bool (raOk s.data.toList)] ∧ h' = h :=
  (implReadAct_ok s h hs).mono fun v h' q => ⟨q.1.trans (raV_eq _), q.2⟩
theorem specRA_p (s : ByteArray) (h : Heap) (hs : s.size ≤ 1048576) : ACalls Tryd.prog dR 34 #[.string s] h fun v h' => v = .tuple #[.agg (raM s.data.toList).cells.toArray, .bool (raOk s.data.toList)] ∧ h' = h :=
  (specReadAct_ok s h hs).mono fun v h' q => ⟨q.1.trans (raV_eq _), q.2⟩
theorem eqWorkAct_same (x : Act) (h : Heap) : ACalls Tryd.prog dR 36 #[.agg x.cells.toArray, .agg x.cells.toArray] h fun v h' => v = .bool true ∧ h' = h := by
  refine acalls_pure (.inl rfl) ?_
  refine Z36 Tryd.func36 rfl Tryd.ntmps36 (by simp) (by dsimp only [Tryd.f36]) ?_
  have zq0 := @Act.cells_length
  have zq1 := @Act.cells_flat
  have zq2 := @Act.cells_take
  have zq3 := @Act.cells_splice
  have zq4 := @Act.get0
  have zq5 := @Act.get1
  have zq6 := @Act.get2
  have zq7 := @Act.get3
  have zq8 := @Act.get4
  have zq9 := @Act.get5
  have zq10 := @Act.get6
  repeat' (first | refine wS ?_ | refine wD ?_ | refine wT ?_ | refine wL ?_ | refine wB ?_ | refine wC ?_ | refine cw_if (fun hb => ?_) (fun hb => ?_) | refine wR ?_)
  all_goals exact ⟨rfl, _, rfl⟩
theorem lawReadAct_ok (s : ByteArray) (h : Heap) (hs : s.size ≤ 9223372036854775807) : ACalls Tryd.prog dR 5 #[.string s] h fun v _ => v = .bool true := by
  by_cases hz : 1048576 < s.size
  · have d1 : decide ((1048576 : Int) < (s.size : Int)) = true := decide_eq_true (by omega)
    refine Z36 Tryd.func5 rfl Tryd.ntmps5 (by simp) (by dsimp only [Tryd.f5]) ?_
    repeat' (first | refine wS ?_ | refine wD ?_ | refine wT ?_ | refine wL ?_ | refine wB ?_ | refine wG ?_ | refine gw_if (fun hb => ?_) (fun hb => ?_) | refine wC ?_ | refine cw_if (fun hb => ?_) (fun hb => ?_) | refine wR ?_ | (refine wK (K := ?_) ?_ ?_; rotate_left 1) | ((with_reducible refine specRA_p _ _ ?_); (· assumption)) | ((with_reducible refine implRA_p _ _ ?_); (· assumption)) | (with_reducible exact eqWorkAct_same _ _) | refine hkp ?_)
    all_goals rfl
  · have d1 : decide ((1048576 : Int) < (s.size : Int)) = false := decide_eq_false (by omega)
    have hs2 : s.size ≤ 1048576 := by omega
    refine Z36 Tryd.func5 rfl Tryd.ntmps5 (by simp) (by dsimp only [Tryd.f5]) ?_
    have zq0 := @Act.cells_length
    have zq1 := @Act.cells_flat
    have zq2 := @Act.cells_take
    have zq3 := @Act.cells_splice
    repeat' (first | refine wS ?_ | refine wD ?_ | refine wT ?_ | refine wL ?_ | refine wB ?_ | refine wG ?_ | refine gw_if (fun hb => ?_) (fun hb => ?_) | refine wC ?_ | refine cw_if (fun hb => ?_) (fun hb => ?_) | refine wR ?_ | (refine wK (K := ?_) ?_ ?_; rotate_left 1) | ((with_reducible refine specRA_p _ _ ?_); (· assumption)) | ((with_reducible refine implRA_p _ _ ?_); (· assumption)) | (with_reducible exact eqWorkAct_same _ _) | refine hkp ?_)
    all_goals rfl
end Go.Proofs.YtmjhfklmlcnofaaDoor.Am
namespace Go.Proofs.YtmjhfklmlcnofaaDoor.Am
open Go Go.Proofs Go.RowKit
set_option linter.unusedVariables false
set_option linter.unusedSimpArgs false
theorem wrel_dR {m : Map} {W : World} {laid : List (String × DataW Unit)} (h : laidMet Tryd.prog laid W) (hsh : W.ShapedOpen Tryd.prog) (hm : ("internal/strconv.uint64pow10", Lib.tabData .u64 Lib.pow10Tab) ∈ laid) {d1 d2 : DataW Unit}
    (hm1 : ("strconv.ErrSyntax", d1) ∈ laid) (hm2 : ("strconv.ErrRange", d2) ∈ laid) : WRel dR m [] W := by
  refine wrel_glo rfl fun g o q => ?_
  simp only [dR] at q
  split at q
  · rename_i hg
    subst hg
    cases q
    obtain ⟨mm, hmm⟩ := Tryd.laysM146.s1_3 W hsh
    replace hmm : W.cell? ⟨2, 0, none⟩ = some (.int .i64 mm) := hmm
    unfold World.cell? at hmm
    split at hmm
    · rename_i cs t z hx
      exact ⟨_, hx, cs, t, z, rfl, mm, by simpa using hmm⟩
    · cases hmm
  · exact ((wrel_dE (m := m) h hm hm1 hm2).tab g o q).1
end Go.Proofs.YtmjhfklmlcnofaaDoor.Am
