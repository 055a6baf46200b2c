/- Walk of the law about drawn stores and a crash. Conditions: none. -/
import Derived.Test.YtmjhfklmlcnofaaDoorK3
import Derived.Test.YtmjhfklmlcnofaaDoorWk
import Derived.Test.YtmjhfklmlcnofaaDoorV5
import Derived.Test.YtmjhfklmlcnofaaDoorV6
namespace Go.Proofs.YtmjhfklmlcnofaaDoor.Am
open Go Go.Proofs
set_option linter.unusedVariables false
set_option linter.unusedSimpArgs false
set_option maxRecDepth 100000
set_option maxHeartbeats 8000000
theorem Sl.ext {H H' : Heap} {v : Value} {e : Nat} {rows : List (List Value)} (hs : Sl H v e rows) (h : ∃ L, H' = H ++ L) : Sl H' v e rows := by
  obtain ⟨L, rfl⟩ := h; exact hs.old L
theorem Sl.ext0 {H H' : Heap} {v : Value} {e : Nat} {rows : List (List Value)} (hs : Sl H v e rows) (h : H' = H) : Sl H' v e rows := h ▸ hs
theorem aw_forgetM {P : Program} {G : Glo} {N : Nat} {Q : Exit → Tmps → Heap → Prop} {c : Code} {T : Tmps} {h X : Heap} (R : List Nat) (hk : ∀ T' X', (∀ t ∈ R, T' t = T t) → AW P G N c Q T' (h ++ X')) : AW P G N c Q T (h ++ X) := hk T X fun _ _ => rfl
theorem implGoodStore_ok (s : Store) (h : Heap) (hs : s.small) : ACalls Tryd.prog dE 10 #[.agg s.cells.toArray] h fun v h' => v = .bool (storeOk s) ∧ h' = h := by
  refine acalls_pure (.inl rfl) ?_
  have hsm := hs
  refine Z36 Tryd.func10 rfl Tryd.ntmps10 (by simp) (by dsimp only [Tryd.f10]) ?_
  have zq0 := @Store.cells_length
  have zq1 := @Store.cells_flat
  have zq2 := @Store.cells_take
  have zq3 := @Store.cells_splice
  have zq4 := @Store.cells_splice2
  have zq5 := @Store.get0
  have zq6 := @Store.get1
  have zq7 := @Store.get2
  have zq8 := @Store.eql
  have zq9 := @Store.neq
  repeat' (first | refine wS ?_ | refine wD ?_ | refine wT ?_ | refine wL ?_ | refine wB ?_ | refine wC ?_ | refine cw_if (fun hb => ?_) (fun hb => ?_) | refine wR ?_ | (refine wK (K := ?_) ?_ ?_; rotate_left 1) | ((with_reducible refine isStore_ok _ _ ?_); (· first | assumption | exact hsm)) | refine hkp ?_)
  exact ⟨rfl, _, rfl⟩
theorem lawFnFrames_ok (l1 l2 : List Int) (v1 v2 : Value) (h : Heap) (hs1 : Sl h v1 1 (bytesR l1)) (hs2 : Sl h v2 1 (bytesR l2)) (hb1 : ∀ b, bid v1 = some b → b < h.length) (hb2 : ∀ b, bid v2 = some b → b < h.length)
    (hl1 : l1.length ≤ 9223372036854775807) (hl2 : l2.length ≤ 9223372036854775807) (hw1 : ∀ x ∈ l1, 0 ≤ x ∧ x ≤ 255) (hw2 : ∀ x ∈ l2, 0 ≤ x ∧ x ≤ 255) :
    ACalls Tryd.prog dE 3 #[v1, v2] h fun v _ => v = .bool true := by
  obtain ⟨b1, c1, rfl, hc1, _⟩ := id hs1
  obtain ⟨b2, c2, rfl, hc2, _⟩ := id hs2
  have e1 : (bytesR l1).length = l1.length := Zv _
  have e2 : (bytesR l2).length = l2.length := Zv _
  rw [e1] at hs1 hb1 hc1 ⊢
  rw [e2] at hs2 hb2 hc2 ⊢
  clear e1 e2 hc1 hc2
  refine Z36 Tryd.func3 rfl Tryd.ntmps3 (by simp) (by dsimp only [Tryd.f3]) ?_
  have zq0 := @Store.cells_length
  have zq1 := @Store.cells_flat
  have zq2 := @Store.cells_take
  have zq3 := @Store.cells_splice
  have zq4 := @Store.cells_splice2
  have zq5 := @Store.get0
  have zq6 := @Store.get1
  have zq7 := @Store.get2
  have zq8 := @Store.eql
  have zq9 := @Store.neq
  repeat' (first | (with_reducible first | refine aw_parkR 4 ?_) | refine wS ?_ | refine wD ?_ | refine wT ?_ | refine wL ?_ | refine wB ?_ | refine wG ?_ | refine wY ?_ | refine gw_if (fun hb => ?_) (fun hb => ?_) | refine wC ?_ | refine cw_if (fun hb => ?_) (fun hb => ?_) | refine wR ?_ | refine wV (ms := [0, 0, 3, 7, 15, 15, 63, 127, 255, 511, 1023, 511, 4095, 8191, 16383]) ?_ | refine wX ?_ | (refine wK (K := ?_) ?_ ?_; rotate_left 1) | (refine wM (v := ?_) ?_ ?_; rotate_left 1) | (refine wO (v := ?_) (L := ?_) ?_ ?_; rotate_left 2) | ((with_reducible refine big_ok _ _ _ _ _ _ _ ?_ ?_); (· assumption); (· assumption)) | ((with_reducible refine drawCrashStore_x l1 _ _ ?_ ?_ ?_ ?_); (· (first | assumption | exact hs1.old _)); (· (intro id q hq; have hz := hb1 _ hq; (try (simp only [Z6, Z3, Z2] at q)); omega)); (· assumption); (· assumption)) | ((with_reducible refine implCrash_p _ _ _ ?_); (· assumption)) | ((with_reducible refine specCrash_p _ _ _ ?_); (· assumption)) | ((with_reducible refine implGoodStore_ok _ _ ?_); (· assumption)) | ((with_reducible refine specGoodStore_ok _ _ ?_); (· assumption)) | ((with_reducible refine texts_l _ ?_ _ ?_ ?_); rotate_left 1; (· assumption); (· assumption)) | ((with_reducible refine frames_l _ ?_ ?_ _ ?_ ?_); rotate_left 2; (· assumption); (· assumption)) | (with_reducible exact hmend _) | ((with_reducible refine sameTexts_ok ?_ ?_ _ _ _ ?_ ?_ ?_ ?_); rotate_left 2; (· (first | exact hslA _ | (refine Sl.ext (by assumption) ⟨?_, ?_⟩; rotate_left 1; simp only [Z7, Zc, Zd]; rfl) | (refine Sl.ext0 (by assumption) ?_; simp only [Z7, Zc, Zd]))); (· (first | exact hslA _ | (refine Sl.ext (by assumption) ⟨?_, ?_⟩; rotate_left 1; simp only [Z7, Zc, Zd]; rfl) | (refine Sl.ext0 (by assumption) ?_; simp only [Z7, Zc, Zd]))); (· exact pO); (· exact pO)) | (with_reducible exact hput _) | ((with_reducible refine drawReadFrames_x l2 _ _ ?_ ?_ ?_ ?_); (· (first | assumption | exact hs2.old _)); (· (intro id q hq; have hz := hb2 _ hq; (try (simp only [Z6, Z3, Z2] at q)); omega)); (· assumption); (· assumption)) | ((with_reducible refine specReadFrames_ok _ _ ?_); (· exact pO)) | ((with_reducible refine drawMendStore_x l2 _ _ ?_ ?_ ?_ ?_); (· (first | assumption | exact hs2.old _)); (· (intro id q hq; have hz := hb2 _ hq; (try (simp only [Z6, Z3, Z2] at q)); omega)); (· assumption); (· assumption)) | ((with_reducible refine specMendStore_ok _ _ ?_); (· first | assumption | exact hsm)) | ((with_reducible refine Z2w (n := 7) ?_); rintro _ _ ⟨s, kp, E1, rfl, rfl, hsu, hla⟩) | ((with_reducible refine Z2w (n := 12) ?_); rintro _ _ ⟨b1, F1, rfl, rfl, hsl, b2, hct⟩) | ((with_reducible refine Z2w (n := 13) ?_); rintro _ _ ⟨b1, F1, rfl, rfl, hsl, b2, hct⟩) | ((with_reducible refine Z2w (n := 17) ?_); rintro _ _ ⟨t, E2, rfl, rfl, htz⟩) | ((with_reducible refine Z2w (n := 19) ?_); rintro _ _ ⟨u, E3, rfl, rfl, husu, hula⟩) | refine hkp ?_)
  · rfl
  have hsm : s.small := ⟨by omega, by omega⟩
  have hTail : ∀ (t : ByteArray), t.size ≤ 8002 → (rfR t).1.length ≤ 99 ∧ t.size ≤ 1048576 := fun t q => ⟨rfR_len t, by omega⟩
  rcases Bool.eq_false_or_eq_true (crashOk s kp) with hk | hk
  · obtain ⟨p, q, r, a, b, d, m, f1, f2, f3, f4, f5, f6, f7, f8, f9, f10, f11, f12, f13, f14⟩ := crash_facts s kp hk
    have hcm : crashM s kp = crashS s kp := if_pos hk
    have hg := (storeOk_iff s).1 f6
    have hz1 : (s.sure ++ s.later).size ≤ 4000 := by rw [ByteArray.size_append]; omega
    have hz2 : s.sure.size ≤ 4000 := by omega
    have hadd : ∀ xo yo, binV Tryd.prog .add 9 xo yo (.string s.sure) (.string s.later) = some (.string (s.sure ++ s.later)) := fun xo yo => binV_str_add _ _ _ _ _ (by omega)
    have hwz : IntKind.i64.wrap ((s.sure.size : Int) + s.later.size) = (s.sure.size : Int) + s.later.size := wrap_id (by omega)
    have hmend : ∀ H : Heap, ACalls Tryd.prog dE 14 #[.agg (crashS s kp).cells.toArray] H fun v h' => v = .tuple #[.agg m.cells.toArray, .int .i64 (r : Nat), .bool true] ∧ h' = H := fun H => (implMendStore_ok (crashS s kp) H (good_small f7)).mono fun v h' z => ⟨z.1.trans f9, z.2⟩
    have hput : ∀ H : Heap, ACalls Tryd.prog dE 16 #[.agg m.cells.toArray, .string ⟨#[97]⟩] H fun v h' => v = .tuple #[.agg (putS m ⟨#[97]⟩).cells.toArray, .int .i64 (putC m ⟨#[97]⟩), .bool true] ∧ h' = H := fun H => (implPutFrame_ok m ⟨#[97]⟩ H (by decide) (good_small f8)).mono fun v h' z => ⟨z.1.trans (by rw [pfV, if_pos f8]), z.2⟩
    have d1 : decide (putC m ⟨#[97]⟩ = 2) = false := decide_eq_false f14
    have d2 : decide (((r : Nat) : Int) < 0) = false := decide_eq_false (by omega)
    have d3 : decide ((a.length : Int) < (b.length : Int)) = false := decide_eq_false (by omega)
    have d4 : decide ((b.length : Int) < (d.length : Int)) = false := decide_eq_false (by omega)
    clear f9 f14 hg
    refine ⟨?_⟩
    have zq0 := @Store.cells_length
    have zq1 := @Store.cells_flat
    have zq2 := @Store.cells_take
    have zq3 := @Store.cells_splice
    have zq4 := @Store.cells_splice2
    have zq5 := @Store.get0
    have zq6 := @Store.get1
    have zq7 := @Store.get2
    have zq8 := @Store.eql
    have zq9 := @Store.neq
    repeat' (first | (with_reducible first | refine aw_parkR 10 ?_) | refine wS ?_ | refine wD ?_ | refine wT ?_ | refine wL ?_ | refine wB ?_ | refine wG ?_ | refine wY ?_ | refine gw_if (fun hb => ?_) (fun hb => ?_) | refine wC ?_ | refine cw_if (fun hb => ?_) (fun hb => ?_) | refine wR ?_ | refine wV (ms := [0, 0, 3, 7, 15, 15, 63, 127, 255, 511, 1023, 511, 4095, 8191, 16383]) ?_ | refine wX ?_ | (refine wK (K := ?_) ?_ ?_; rotate_left 1) | (refine wM (v := ?_) ?_ ?_; rotate_left 1) | (refine wO (v := ?_) (L := ?_) ?_ ?_; rotate_left 2) | ((with_reducible refine big_ok _ _ _ _ _ _ _ ?_ ?_); (· assumption); (· assumption)) | ((with_reducible refine drawCrashStore_x l1 _ _ ?_ ?_ ?_ ?_); (· (first | assumption | exact hs1.old _)); (· (intro id q hq; have hz := hb1 _ hq; (try (simp only [Z6, Z3, Z2] at q)); omega)); (· assumption); (· assumption)) | ((with_reducible refine implCrash_p _ _ _ ?_); (· assumption)) | ((with_reducible refine specCrash_p _ _ _ ?_); (· assumption)) | ((with_reducible refine implGoodStore_ok _ _ ?_); (· assumption)) | ((with_reducible refine specGoodStore_ok _ _ ?_); (· assumption)) | ((with_reducible refine texts_l _ ?_ _ ?_ ?_); rotate_left 1; (· assumption); (· assumption)) | ((with_reducible refine frames_l _ ?_ ?_ _ ?_ ?_); rotate_left 2; (· assumption); (· assumption)) | (with_reducible exact hmend _) | ((with_reducible refine sameTexts_ok ?_ ?_ _ _ _ ?_ ?_ ?_ ?_); rotate_left 2; (· (first | exact hslA _ | (refine Sl.ext (by assumption) ⟨?_, ?_⟩; rotate_left 1; simp only [Z7, Zc, Zd]; rfl) | (refine Sl.ext0 (by assumption) ?_; simp only [Z7, Zc, Zd]))); (· (first | exact hslA _ | (refine Sl.ext (by assumption) ⟨?_, ?_⟩; rotate_left 1; simp only [Z7, Zc, Zd]; rfl) | (refine Sl.ext0 (by assumption) ?_; simp only [Z7, Zc, Zd]))); (· exact pO); (· exact pO)) | (with_reducible exact hput _) | ((with_reducible refine drawReadFrames_x l2 _ _ ?_ ?_ ?_ ?_); (· (first | assumption | exact hs2.old _)); (· (intro id q hq; have hz := hb2 _ hq; (try (simp only [Z6, Z3, Z2] at q)); omega)); (· assumption); (· assumption)) | ((with_reducible refine specReadFrames_ok _ _ ?_); (· exact pO)) | ((with_reducible refine drawMendStore_x l2 _ _ ?_ ?_ ?_ ?_); (· (first | assumption | exact hs2.old _)); (· (intro id q hq; have hz := hb2 _ hq; (try (simp only [Z6, Z3, Z2] at q)); omega)); (· assumption); (· assumption)) | ((with_reducible refine specMendStore_ok _ _ ?_); (· first | assumption | exact hsm)) | ((with_reducible refine Z2w (n := 7) ?_); rintro _ _ ⟨s, kp, E1, rfl, rfl, hsu, hla⟩) | ((with_reducible refine Z2w (n := 12) ?_); rintro _ _ ⟨b1, F1, rfl, rfl, hsl, b2, hct⟩) | ((with_reducible refine Z2w (n := 13) ?_); rintro _ _ ⟨b1, F1, rfl, rfl, hsl, b2, hct⟩) | ((with_reducible refine Z2w (n := 17) ?_); rintro _ _ ⟨t, E2, rfl, rfl, htz⟩) | ((with_reducible refine Z2w (n := 19) ?_); rintro _ _ ⟨u, E3, rfl, rfl, husu, hula⟩) | refine hkp ?_)
    have hcA := fun X => (hct X b.length f10).1
    have hslA := fun X => (hct X b.length f10).2
    rw [f11] at hslA
    simp only [Z7, Zc, Zd] at hcA hslA
    clear hct
    refine ⟨?_⟩
    have zq0 := @Store.cells_length
    have zq1 := @Store.cells_flat
    have zq2 := @Store.cells_take
    have zq3 := @Store.cells_splice
    have zq4 := @Store.cells_splice2
    have zq5 := @Store.get0
    have zq6 := @Store.get1
    have zq7 := @Store.get2
    have zq8 := @Store.eql
    have zq9 := @Store.neq
    repeat' (first | (with_reducible first | refine aw_parkR 23 ?_) | refine wS ?_ | refine wD ?_ | refine wT ?_ | refine wL ?_ | refine wB ?_ | refine wG ?_ | refine wY ?_ | refine gw_if (fun hb => ?_) (fun hb => ?_) | refine wC ?_ | refine cw_if (fun hb => ?_) (fun hb => ?_) | refine wR ?_ | refine wV (ms := [0, 0, 3, 7, 15, 15, 63, 127, 255, 511, 1023, 511, 4095, 8191, 16383]) ?_ | refine wX ?_ | (refine wK (K := ?_) ?_ ?_; rotate_left 1) | (refine wM (v := ?_) ?_ ?_; rotate_left 1) | (refine wO (v := ?_) (L := ?_) ?_ ?_; rotate_left 2) | ((with_reducible refine big_ok _ _ _ _ _ _ _ ?_ ?_); (· assumption); (· assumption)) | ((with_reducible refine drawCrashStore_x l1 _ _ ?_ ?_ ?_ ?_); (· (first | assumption | exact hs1.old _)); (· (intro id q hq; have hz := hb1 _ hq; (try (simp only [Z6, Z3, Z2] at q)); omega)); (· assumption); (· assumption)) | ((with_reducible refine implCrash_p _ _ _ ?_); (· assumption)) | ((with_reducible refine specCrash_p _ _ _ ?_); (· assumption)) | ((with_reducible refine implGoodStore_ok _ _ ?_); (· assumption)) | ((with_reducible refine specGoodStore_ok _ _ ?_); (· assumption)) | ((with_reducible refine texts_l _ ?_ _ ?_ ?_); rotate_left 1; (· assumption); (· assumption)) | ((with_reducible refine frames_l _ ?_ ?_ _ ?_ ?_); rotate_left 2; (· assumption); (· assumption)) | (with_reducible exact hmend _) | ((with_reducible refine sameTexts_ok ?_ ?_ _ _ _ ?_ ?_ ?_ ?_); rotate_left 2; (· (first | exact hslA _ | (refine Sl.ext (by assumption) ⟨?_, ?_⟩; rotate_left 1; simp only [Z7, Zc, Zd]; rfl) | (refine Sl.ext0 (by assumption) ?_; simp only [Z7, Zc, Zd]))); (· (first | exact hslA _ | (refine Sl.ext (by assumption) ⟨?_, ?_⟩; rotate_left 1; simp only [Z7, Zc, Zd]; rfl) | (refine Sl.ext0 (by assumption) ?_; simp only [Z7, Zc, Zd]))); (· exact pO); (· exact pO)) | (with_reducible exact hput _) | ((with_reducible refine drawReadFrames_x l2 _ _ ?_ ?_ ?_ ?_); (· (first | assumption | exact hs2.old _)); (· (intro id q hq; have hz := hb2 _ hq; (try (simp only [Z6, Z3, Z2] at q)); omega)); (· assumption); (· assumption)) | ((with_reducible refine specReadFrames_ok _ _ ?_); (· exact pO)) | ((with_reducible refine drawMendStore_x l2 _ _ ?_ ?_ ?_ ?_); (· (first | assumption | exact hs2.old _)); (· (intro id q hq; have hz := hb2 _ hq; (try (simp only [Z6, Z3, Z2] at q)); omega)); (· assumption); (· assumption)) | ((with_reducible refine specMendStore_ok _ _ ?_); (· first | assumption | exact hsm)) | ((with_reducible refine Z2w (n := 7) ?_); rintro _ _ ⟨s, kp, E1, rfl, rfl, hsu, hla⟩) | ((with_reducible refine Z2w (n := 12) ?_); rintro _ _ ⟨b1, F1, rfl, rfl, hsl, b2, hct⟩) | ((with_reducible refine Z2w (n := 13) ?_); rintro _ _ ⟨b1, F1, rfl, rfl, hsl, b2, hct⟩) | ((with_reducible refine Z2w (n := 17) ?_); rintro _ _ ⟨t, E2, rfl, rfl, htz⟩) | ((with_reducible refine Z2w (n := 19) ?_); rintro _ _ ⟨u, E3, rfl, rfl, husu, hula⟩) | refine hkp ?_)
    all_goals clear hcA hslA hput hmend d1 d2 d3 d4 f1 f2 f3 f4 f5 f6 f7 f8 f10 f11 f12 f13 hadd hwz hsm hTail hcm hk
    all_goals
      refine ⟨?_⟩
      refine aw_forgetM [1] ?_
      intro T X hR
      simp only [Z37, Z38, Z39, implies_true, and_true, stp, ev, ZB, reduceIte, Nat.reduceEqDiff, Z2x, Z13, Zy] at hR
      have zq0 := @Store.cells_length
      have zq1 := @Store.cells_flat
      have zq2 := @Store.cells_take
      have zq3 := @Store.cells_splice
      have zq4 := @Store.cells_splice2
      have zq5 := @Store.get0
      have zq6 := @Store.get1
      have zq7 := @Store.get2
      have zq8 := @Store.eql
      have zq9 := @Store.neq
      repeat' (first | (with_reducible first | refine aw_parkR 27 ?_) | refine wS ?_ | refine wD ?_ | refine wT ?_ | refine wL ?_ | refine wB ?_ | refine wG ?_ | refine wY ?_ | refine gw_if (fun hb => ?_) (fun hb => ?_) | refine wC ?_ | refine cw_if (fun hb => ?_) (fun hb => ?_) | refine wR ?_ | refine wV (ms := [0, 0, 3, 7, 15, 15, 63, 127, 255, 511, 1023, 511, 4095, 8191, 16383]) ?_ | refine wX ?_ | (refine wK (K := ?_) ?_ ?_; rotate_left 1) | (refine wM (v := ?_) ?_ ?_; rotate_left 1) | ((with_reducible refine big_ok _ _ _ _ _ _ _ ?_ ?_); (· assumption); (· assumption)) | ((with_reducible refine drawCrashStore_x l1 _ _ ?_ ?_ ?_ ?_); (· (first | assumption | exact hs1.old _)); (· (intro id q hq; have hz := hb1 _ hq; (try (simp only [Z6, Z3, Z2] at q)); omega)); (· assumption); (· assumption)) | ((with_reducible refine implCrash_p _ _ _ ?_); (· assumption)) | ((with_reducible refine specCrash_p _ _ _ ?_); (· assumption)) | ((with_reducible refine implGoodStore_ok _ _ ?_); (· assumption)) | ((with_reducible refine specGoodStore_ok _ _ ?_); (· assumption)) | ((with_reducible refine texts_l _ ?_ _ ?_ ?_); rotate_left 1; (· assumption); (· assumption)) | ((with_reducible refine framesG_l _ _ ?_); (· exact pO)) | ((with_reducible refine implMend_p _ _ ?_); (· exact hus)) | ((with_reducible refine sameTexts_ok ?_ ?_ _ _ _ ?_ ?_ ?_ ?_); rotate_left 2; (· (first | (refine Sl.ext (by assumption) ⟨?_, ?_⟩; rotate_left 1; simp only [Z7, Zc, Zd]; rfl) | (refine Sl.ext0 (by assumption) ?_; simp only [Z7, Zc, Zd]))); (· (first | (refine Sl.ext (by assumption) ⟨?_, ?_⟩; rotate_left 1; simp only [Z7, Zc, Zd]; rfl) | (refine Sl.ext0 (by assumption) ?_; simp only [Z7, Zc, Zd]))); (· (have := rfR_len t; omega)); (· (have := rfR_len t; omega))) | (with_reducible exact hput _) | ((with_reducible refine drawReadFrames_x l2 _ _ ?_ ?_ ?_ ?_); (· (first | assumption | exact hs2.old _)); (· (intro id q hq; have hz := hb2 _ hq; (try (simp only [Z6, Z3, Z2] at q)); omega)); (· assumption); (· assumption)) | ((with_reducible refine framesS_l _ _ ?_); (· exact pO)) | ((with_reducible refine drawMendStore_x l2 _ _ ?_ ?_ ?_ ?_); (· (first | assumption | exact hs2.old _)); (· (intro id q hq; have hz := hb2 _ hq; (try (simp only [Z6, Z3, Z2] at q)); omega)); (· assumption); (· assumption)) | ((with_reducible refine specMend_p _ _ ?_); (· exact hus)) | ((with_reducible refine Z2w (n := 7) ?_); rintro _ _ ⟨s, kp, E1, rfl, rfl, hsu, hla⟩) | ((with_reducible refine Z2w (n := 12) ?_); rintro _ _ ⟨b1, F1, rfl, rfl, hsl, b2, hct⟩) | ((with_reducible refine Z2w (n := 13) ?_); rintro _ _ ⟨b1, F1, rfl, rfl, hsl, b2, hct⟩) | ((with_reducible refine Z2w (n := 18) ?_); rintro _ _ ⟨b1, F1, rfl, rfl, hsl, b2, hct⟩) | ((with_reducible refine Z2w (n := 17) ?_); rintro _ _ ⟨t, E2, rfl, rfl, htz⟩) | ((with_reducible refine Z2w (n := 19) ?_); rintro _ _ ⟨u, E3, rfl, rfl, husu, hula⟩) | refine hkp ?_)
      have hus : u.small := ⟨by omega, by omega⟩
      refine ⟨?_⟩
      have zq0 := @Store.cells_length
      have zq1 := @Store.cells_flat
      have zq2 := @Store.cells_take
      have zq3 := @Store.cells_splice
      have zq4 := @Store.cells_splice2
      have zq5 := @Store.get0
      have zq6 := @Store.get1
      have zq7 := @Store.get2
      have zq8 := @Store.eql
      have zq9 := @Store.neq
      repeat' (first | refine wS ?_ | refine wD ?_ | refine wT ?_ | refine wL ?_ | refine wB ?_ | refine wG ?_ | refine wY ?_ | refine gw_if (fun hb => ?_) (fun hb => ?_) | refine wC ?_ | refine cw_if (fun hb => ?_) (fun hb => ?_) | refine wR ?_ | refine wV (ms := [0, 0, 3, 7, 15, 15, 63, 127, 255, 511, 1023, 511, 4095, 8191, 16383]) ?_ | refine wX ?_ | (refine wK (K := ?_) ?_ ?_; rotate_left 1) | (refine wM (v := ?_) ?_ ?_; rotate_left 1) | ((with_reducible refine big_ok _ _ _ _ _ _ _ ?_ ?_); (· assumption); (· assumption)) | ((with_reducible refine drawCrashStore_x l1 _ _ ?_ ?_ ?_ ?_); (· (first | assumption | exact hs1.old _)); (· (intro id q hq; have hz := hb1 _ hq; (try (simp only [Z6, Z3, Z2] at q)); omega)); (· assumption); (· assumption)) | ((with_reducible refine implCrash_p _ _ _ ?_); (· assumption)) | ((with_reducible refine specCrash_p _ _ _ ?_); (· assumption)) | ((with_reducible refine implGoodStore_ok _ _ ?_); (· assumption)) | ((with_reducible refine specGoodStore_ok _ _ ?_); (· assumption)) | ((with_reducible refine texts_l _ ?_ _ ?_ ?_); rotate_left 1; (· assumption); (· assumption)) | ((with_reducible refine framesG_l _ _ ?_); (· exact pO)) | ((with_reducible refine implMend_p _ _ ?_); (· exact hus)) | ((with_reducible refine sameTexts_ok ?_ ?_ _ _ _ ?_ ?_ ?_ ?_); rotate_left 2; (· (first | (refine Sl.ext (by assumption) ⟨?_, ?_⟩; rotate_left 1; simp only [Z7, Zc, Zd]; rfl) | (refine Sl.ext0 (by assumption) ?_; simp only [Z7, Zc, Zd]))); (· (first | (refine Sl.ext (by assumption) ⟨?_, ?_⟩; rotate_left 1; simp only [Z7, Zc, Zd]; rfl) | (refine Sl.ext0 (by assumption) ?_; simp only [Z7, Zc, Zd]))); (· (have := rfR_len t; omega)); (· (have := rfR_len t; omega))) | (with_reducible exact hput _) | ((with_reducible refine drawReadFrames_x l2 _ _ ?_ ?_ ?_ ?_); (· (first | assumption | exact hs2.old _)); (· (intro id q hq; have hz := hb2 _ hq; (try (simp only [Z6, Z3, Z2] at q)); omega)); (· assumption); (· assumption)) | ((with_reducible refine framesS_l _ _ ?_); (· exact pO)) | ((with_reducible refine drawMendStore_x l2 _ _ ?_ ?_ ?_ ?_); (· (first | assumption | exact hs2.old _)); (· (intro id q hq; have hz := hb2 _ hq; (try (simp only [Z6, Z3, Z2] at q)); omega)); (· assumption); (· assumption)) | ((with_reducible refine specMend_p _ _ ?_); (· exact hus)) | ((with_reducible refine Z2w (n := 7) ?_); rintro _ _ ⟨s, kp, E1, rfl, rfl, hsu, hla⟩) | ((with_reducible refine Z2w (n := 12) ?_); rintro _ _ ⟨b1, F1, rfl, rfl, hsl, b2, hct⟩) | ((with_reducible refine Z2w (n := 13) ?_); rintro _ _ ⟨b1, F1, rfl, rfl, hsl, b2, hct⟩) | ((with_reducible refine Z2w (n := 18) ?_); rintro _ _ ⟨b1, F1, rfl, rfl, hsl, b2, hct⟩) | ((with_reducible refine Z2w (n := 17) ?_); rintro _ _ ⟨t, E2, rfl, rfl, htz⟩) | ((with_reducible refine Z2w (n := 19) ?_); rintro _ _ ⟨u, E3, rfl, rfl, husu, hula⟩) | refine hkp ?_)
      try rfl
  · refine ⟨?_⟩
    have zq0 := @Store.cells_length
    have zq1 := @Store.cells_flat
    have zq2 := @Store.cells_take
    have zq3 := @Store.cells_splice
    have zq4 := @Store.cells_splice2
    have zq5 := @Store.get0
    have zq6 := @Store.get1
    have zq7 := @Store.get2
    have zq8 := @Store.eql
    have zq9 := @Store.neq
    repeat' (first | (with_reducible first | refine aw_parkR 23 ?_) | refine wS ?_ | refine wD ?_ | refine wT ?_ | refine wL ?_ | refine wB ?_ | refine wG ?_ | refine wY ?_ | refine gw_if (fun hb => ?_) (fun hb => ?_) | refine wC ?_ | refine cw_if (fun hb => ?_) (fun hb => ?_) | refine wR ?_ | refine wV (ms := [0, 0, 3, 7, 15, 15, 63, 127, 255, 511, 1023, 511, 4095, 8191, 16383]) ?_ | refine wX ?_ | (refine wK (K := ?_) ?_ ?_; rotate_left 1) | (refine wM (v := ?_) ?_ ?_; rotate_left 1) | ((with_reducible refine big_ok _ _ _ _ _ _ _ ?_ ?_); (· assumption); (· assumption)) | ((with_reducible refine drawCrashStore_x l1 _ _ ?_ ?_ ?_ ?_); (· (first | assumption | exact hs1.old _)); (· (intro id q hq; have hz := hb1 _ hq; (try (simp only [Z6, Z3, Z2] at q)); omega)); (· assumption); (· assumption)) | ((with_reducible refine implCrash_p _ _ _ ?_); (· assumption)) | ((with_reducible refine specCrash_p _ _ _ ?_); (· assumption)) | ((with_reducible refine implGoodStore_ok _ _ ?_); (· assumption)) | ((with_reducible refine specGoodStore_ok _ _ ?_); (· assumption)) | ((with_reducible refine texts_l _ ?_ _ ?_ ?_); rotate_left 1; (· assumption); (· assumption)) | ((with_reducible refine framesG_l _ _ ?_); (· exact pO)) | ((with_reducible refine implMend_p _ _ ?_); (· exact hus)) | ((with_reducible refine sameTexts_ok ?_ ?_ _ _ _ ?_ ?_ ?_ ?_); rotate_left 2; (· (first | (refine Sl.ext (by assumption) ⟨?_, ?_⟩; rotate_left 1; simp only [Z7, Zc, Zd]; rfl) | (refine Sl.ext0 (by assumption) ?_; simp only [Z7, Zc, Zd]))); (· (first | (refine Sl.ext (by assumption) ⟨?_, ?_⟩; rotate_left 1; simp only [Z7, Zc, Zd]; rfl) | (refine Sl.ext0 (by assumption) ?_; simp only [Z7, Zc, Zd]))); (· (have := rfR_len t; omega)); (· (have := rfR_len t; omega))) | (with_reducible exact hput _) | ((with_reducible refine drawReadFrames_x l2 _ _ ?_ ?_ ?_ ?_); (· (first | assumption | exact hs2.old _)); (· (intro id q hq; have hz := hb2 _ hq; (try (simp only [Z6, Z3, Z2] at q)); omega)); (· assumption); (· assumption)) | ((with_reducible refine framesS_l _ _ ?_); (· exact pO)) | ((with_reducible refine drawMendStore_x l2 _ _ ?_ ?_ ?_ ?_); (· (first | assumption | exact hs2.old _)); (· (intro id q hq; have hz := hb2 _ hq; (try (simp only [Z6, Z3, Z2] at q)); omega)); (· assumption); (· assumption)) | ((with_reducible refine specMend_p _ _ ?_); (· exact hus)) | ((with_reducible refine Z2w (n := 7) ?_); rintro _ _ ⟨s, kp, E1, rfl, rfl, hsu, hla⟩) | ((with_reducible refine Z2w (n := 12) ?_); rintro _ _ ⟨b1, F1, rfl, rfl, hsl, b2, hct⟩) | ((with_reducible refine Z2w (n := 13) ?_); rintro _ _ ⟨b1, F1, rfl, rfl, hsl, b2, hct⟩) | ((with_reducible refine Z2w (n := 18) ?_); rintro _ _ ⟨b1, F1, rfl, rfl, hsl, b2, hct⟩) | ((with_reducible refine Z2w (n := 17) ?_); rintro _ _ ⟨t, E2, rfl, rfl, htz⟩) | ((with_reducible refine Z2w (n := 19) ?_); rintro _ _ ⟨u, E3, rfl, rfl, husu, hula⟩) | refine hkp ?_)
    clear hsm hTail hk
    refine ⟨?_⟩
    refine aw_forgetM [1] ?_
    intro T X hR
    simp only [Z37, Z38, Z39, implies_true, and_true, stp, ev, ZB, reduceIte, Nat.reduceEqDiff, Z2x, Z13, Zy] at hR
    have zq0 := @Store.cells_length
    have zq1 := @Store.cells_flat
    have zq2 := @Store.cells_take
    have zq3 := @Store.cells_splice
    have zq4 := @Store.cells_splice2
    have zq5 := @Store.get0
    have zq6 := @Store.get1
    have zq7 := @Store.get2
    have zq8 := @Store.eql
    have zq9 := @Store.neq
    repeat' (first | (with_reducible first | refine aw_parkR 27 ?_) | refine wS ?_ | refine wD ?_ | refine wT ?_ | refine wL ?_ | refine wB ?_ | refine wG ?_ | refine wY ?_ | refine gw_if (fun hb => ?_) (fun hb => ?_) | refine wC ?_ | refine cw_if (fun hb => ?_) (fun hb => ?_) | refine wR ?_ | refine wV (ms := [0, 0, 3, 7, 15, 15, 63, 127, 255, 511, 1023, 511, 4095, 8191, 16383]) ?_ | refine wX ?_ | (refine wK (K := ?_) ?_ ?_; rotate_left 1) | (refine wM (v := ?_) ?_ ?_; rotate_left 1) | ((with_reducible refine big_ok _ _ _ _ _ _ _ ?_ ?_); (· assumption); (· assumption)) | ((with_reducible refine drawCrashStore_x l1 _ _ ?_ ?_ ?_ ?_); (· (first | assumption | exact hs1.old _)); (· (intro id q hq; have hz := hb1 _ hq; (try (simp only [Z6, Z3, Z2] at q)); omega)); (· assumption); (· assumption)) | ((with_reducible refine implCrash_p _ _ _ ?_); (· assumption)) | ((with_reducible refine specCrash_p _ _ _ ?_); (· assumption)) | ((with_reducible refine implGoodStore_ok _ _ ?_); (· assumption)) | ((with_reducible refine specGoodStore_ok _ _ ?_); (· assumption)) | ((with_reducible refine texts_l _ ?_ _ ?_ ?_); rotate_left 1; (· assumption); (· assumption)) | ((with_reducible refine framesG_l _ _ ?_); (· exact pO)) | ((with_reducible refine implMend_p _ _ ?_); (· exact hus)) | ((with_reducible refine sameTexts_ok ?_ ?_ _ _ _ ?_ ?_ ?_ ?_); rotate_left 2; (· (first | (refine Sl.ext (by assumption) ⟨?_, ?_⟩; rotate_left 1; simp only [Z7, Zc, Zd]; rfl) | (refine Sl.ext0 (by assumption) ?_; simp only [Z7, Zc, Zd]))); (· (first | (refine Sl.ext (by assumption) ⟨?_, ?_⟩; rotate_left 1; simp only [Z7, Zc, Zd]; rfl) | (refine Sl.ext0 (by assumption) ?_; simp only [Z7, Zc, Zd]))); (· (have := rfR_len t; omega)); (· (have := rfR_len t; omega))) | (with_reducible exact hput _) | ((with_reducible refine drawReadFrames_x l2 _ _ ?_ ?_ ?_ ?_); (· (first | assumption | exact hs2.old _)); (· (intro id q hq; have hz := hb2 _ hq; (try (simp only [Z6, Z3, Z2] at q)); omega)); (· assumption); (· assumption)) | ((with_reducible refine framesS_l _ _ ?_); (· exact pO)) | ((with_reducible refine drawMendStore_x l2 _ _ ?_ ?_ ?_ ?_); (· (first | assumption | exact hs2.old _)); (· (intro id q hq; have hz := hb2 _ hq; (try (simp only [Z6, Z3, Z2] at q)); omega)); (· assumption); (· assumption)) | ((with_reducible refine specMend_p _ _ ?_); (· exact hus)) | ((with_reducible refine Z2w (n := 7) ?_); rintro _ _ ⟨s, kp, E1, rfl, rfl, hsu, hla⟩) | ((with_reducible refine Z2w (n := 12) ?_); rintro _ _ ⟨b1, F1, rfl, rfl, hsl, b2, hct⟩) | ((with_reducible refine Z2w (n := 13) ?_); rintro _ _ ⟨b1, F1, rfl, rfl, hsl, b2, hct⟩) | ((with_reducible refine Z2w (n := 18) ?_); rintro _ _ ⟨b1, F1, rfl, rfl, hsl, b2, hct⟩) | ((with_reducible refine Z2w (n := 17) ?_); rintro _ _ ⟨t, E2, rfl, rfl, htz⟩) | ((with_reducible refine Z2w (n := 19) ?_); rintro _ _ ⟨u, E3, rfl, rfl, husu, hula⟩) | refine hkp ?_)
    have hus : u.small := ⟨by omega, by omega⟩
    refine ⟨?_⟩
    have zq0 := @Store.cells_length
    have zq1 := @Store.cells_flat
    have zq2 := @Store.cells_take
    have zq3 := @Store.cells_splice
    have zq4 := @Store.cells_splice2
    have zq5 := @Store.get0
    have zq6 := @Store.get1
    have zq7 := @Store.get2
    have zq8 := @Store.eql
    have zq9 := @Store.neq
    repeat' (first | refine wS ?_ | refine wD ?_ | refine wT ?_ | refine wL ?_ | refine wB ?_ | refine wG ?_ | refine wY ?_ | refine gw_if (fun hb => ?_) (fun hb => ?_) | refine wC ?_ | refine cw_if (fun hb => ?_) (fun hb => ?_) | refine wR ?_ | refine wV (ms := [0, 0, 3, 7, 15, 15, 63, 127, 255, 511, 1023, 511, 4095, 8191, 16383]) ?_ | refine wX ?_ | (refine wK (K := ?_) ?_ ?_; rotate_left 1) | (refine wM (v := ?_) ?_ ?_; rotate_left 1) | ((with_reducible refine big_ok _ _ _ _ _ _ _ ?_ ?_); (· assumption); (· assumption)) | ((with_reducible refine drawCrashStore_x l1 _ _ ?_ ?_ ?_ ?_); (· (first | assumption | exact hs1.old _)); (· (intro id q hq; have hz := hb1 _ hq; (try (simp only [Z6, Z3, Z2] at q)); omega)); (· assumption); (· assumption)) | ((with_reducible refine implCrash_p _ _ _ ?_); (· assumption)) | ((with_reducible refine specCrash_p _ _ _ ?_); (· assumption)) | ((with_reducible refine implGoodStore_ok _ _ ?_); (· assumption)) | ((with_reducible refine specGoodStore_ok _ _ ?_); (· assumption)) | ((with_reducible refine texts_l _ ?_ _ ?_ ?_); rotate_left 1; (· assumption); (· assumption)) | ((with_reducible refine framesG_l _ _ ?_); (· exact pO)) | ((with_reducible refine implMend_p _ _ ?_); (· exact hus)) | ((with_reducible refine sameTexts_ok ?_ ?_ _ _ _ ?_ ?_ ?_ ?_); rotate_left 2; (· (first | (refine Sl.ext (by assumption) ⟨?_, ?_⟩; rotate_left 1; simp only [Z7, Zc, Zd]; rfl) | (refine Sl.ext0 (by assumption) ?_; simp only [Z7, Zc, Zd]))); (· (first | (refine Sl.ext (by assumption) ⟨?_, ?_⟩; rotate_left 1; simp only [Z7, Zc, Zd]; rfl) | (refine Sl.ext0 (by assumption) ?_; simp only [Z7, Zc, Zd]))); (· (have := rfR_len t; omega)); (· (have := rfR_len t; omega))) | (with_reducible exact hput _) | ((with_reducible refine drawReadFrames_x l2 _ _ ?_ ?_ ?_ ?_); (· (first | assumption | exact hs2.old _)); (· (intro id q hq; have hz := hb2 _ hq; (try (simp only [Z6, Z3, Z2] at q)); omega)); (· assumption); (· assumption)) | ((with_reducible refine framesS_l _ _ ?_); (· exact pO)) | ((with_reducible refine drawMendStore_x l2 _ _ ?_ ?_ ?_ ?_); (· (first | assumption | exact hs2.old _)); (· (intro id q hq; have hz := hb2 _ hq; (try (simp only [Z6, Z3, Z2] at q)); omega)); (· assumption); (· assumption)) | ((with_reducible refine specMend_p _ _ ?_); (· exact hus)) | ((with_reducible refine Z2w (n := 7) ?_); rintro _ _ ⟨s, kp, E1, rfl, rfl, hsu, hla⟩) | ((with_reducible refine Z2w (n := 12) ?_); rintro _ _ ⟨b1, F1, rfl, rfl, hsl, b2, hct⟩) | ((with_reducible refine Z2w (n := 13) ?_); rintro _ _ ⟨b1, F1, rfl, rfl, hsl, b2, hct⟩) | ((with_reducible refine Z2w (n := 18) ?_); rintro _ _ ⟨b1, F1, rfl, rfl, hsl, b2, hct⟩) | ((with_reducible refine Z2w (n := 17) ?_); rintro _ _ ⟨t, E2, rfl, rfl, htz⟩) | ((with_reducible refine Z2w (n := 19) ?_); rintro _ _ ⟨u, E3, rfl, rfl, husu, hula⟩) | refine hkp ?_)
    rfl
end Go.Proofs.YtmjhfklmlcnofaaDoor.Am
