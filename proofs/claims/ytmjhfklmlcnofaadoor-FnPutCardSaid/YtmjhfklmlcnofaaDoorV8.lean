/- What is put, and walk of the law about it, for drawn stores. Conditions: none. -/
import Derived.Test.YtmjhfklmlcnofaaDoorK3
import Derived.Test.YtmjhfklmlcnofaaDoorWk
import Derived.Test.YtmjhfklmlcnofaaDoorV7
namespace Go.Proofs.YtmjhfklmlcnofaaDoor.Am
open Go Go.Proofs
set_option linter.unusedVariables false
set_option linter.unusedSimpArgs false
set_option maxRecDepth 100000
set_option maxHeartbeats 8000000
theorem txl_at {H : Heap} {b : Option Addr} {l : List ByteArray} {k : Nat} {t : ByteArray} (hs : Sl H (.slice b l.length l.length) 1 (trs l)) (hk : (trs l)[k]? = some [.string t]) : ∃ a, b = some a ∧ ∀ X, getC (H ++ X) a.block (a.off + k) = some (.string t) := by
  obtain ⟨bb, c, e, _, hrow⟩ := id hs
  simp only [Value.slice.injEq] at e
  obtain ⟨rfl, _, _⟩ := e
  obtain ⟨a, rfl, _⟩ := hrow k _ hk
  refine ⟨a, rfl, fun X => ?_⟩
  obtain ⟨bb, c, e, _, hrow⟩ := hs.old X
  simp only [Value.slice.injEq] at e
  obtain ⟨rfl, _, _⟩ := e
  obtain ⟨a', q, hld⟩ := hrow k _ hk
  cases q
  have := getC_of_load hld
  rwa [Nat.mul_one] at this
theorem put_facts (s : Store) (t : ByteArray) (hk : storeOk s = true) : (0 < putC s t ∧ putS s t = s) ∨ (putC s t = 0 ∧ tiR (putS s t) = tiR s ++ [t]) := by
  have hl := rdF_len (s.sure ++ s.later) 99 0 [] (Nat.zero_le _)
  have hu : (s.sure ++ s.later).size = s.sure.size + s.later.size := ByteArray.size_append
  have hg := putS_good hk t
  have ht1 : tiR s = (rdF (s.sure ++ s.later) 99 0 []).1 := by rw [tiR, if_pos hk]
  have ht2 : tiR (putS s t) = (rdF ((putS s t).sure ++ (putS s t).later) 99 0 []).1 := by rw [tiR, if_pos hg]
  rw [ht1, ht2]
  clear ht1 ht2 hg
  unfold putC putS
  by_cases q1 : 60 < t.size
  · rw [if_pos q1, if_pos q1]; exact .inl ⟨by decide, rfl⟩
  rw [if_neg q1, if_neg q1]
  by_cases q2 : (rdF (s.sure ++ s.later) 99 0 []).2 < s.sure.size + s.later.size
  · rw [if_pos q2, if_pos q2]; exact .inl ⟨by decide, rfl⟩
  rw [if_neg q2, if_neg q2]
  by_cases q3 : (rdF (s.sure ++ s.later) 99 0 []).1.length = 99
  · rw [if_pos q3, if_pos q3]; exact .inl ⟨by decide, rfl⟩
  rw [if_neg q3, if_neg q3]
  by_cases q4 : s.room < ((rdF (s.sure ++ s.later) 99 0 []).2 : Int) + 8 + t.size
  · rw [if_pos q4, if_pos q4]; exact .inl ⟨by decide, rfl⟩
  rw [if_neg q4, if_neg q4]
  refine .inr ⟨rfl, ?_⟩
  simp only
  have happ := rdF_app (s.sure ++ s.later) t (by omega) (by omega) (by have := hl.1; simp only [Z2] at this; omega)
  rw [ByteArray.append_assoc] at happ
  rw [happ]
def putM (s : Store) (t : ByteArray) : Store := if storeOk s = true then putS s t else Store.zero
def putN (s : Store) (t : ByteArray) : Int := if storeOk s = true then putC s t else 0
theorem pfV_eq (s : Store) (t : ByteArray) : pfV s t = .tuple #[.agg (putM s t).cells.toArray, .int .i64 (putN s t), .bool (storeOk s)] := by
  unfold pfV putM putN
  split
  · rename_i q; rw [q]
  · rename_i q; rw [Bool.not_eq_true] at q; rw [q]
theorem implPut_p (s : Store) (t : ByteArray) (h : Heap) (ht : t.size ≤ 1048576) (hs : s.small) : ACalls Tryd.prog dE 16 #[.agg s.cells.toArray, .string t] h fun v h' => v = .tuple #[.agg (putM s t).cells.toArray, .int .i64 (putN s t), .bool (storeOk s)] ∧ h' = h :=
  (implPutFrame_ok s t h ht hs).mono fun v h' q => ⟨q.1.trans (pfV_eq s t), q.2⟩
theorem specPut_p (s : Store) (t : ByteArray) (h : Heap) (ht : t.size ≤ 1048576) (hs : s.small) : ACalls Tryd.prog dE 22 #[.agg s.cells.toArray, .string t] h fun v h' => v = .tuple #[.agg (putM s t).cells.toArray, .int .i64 (putN s t), .bool (storeOk s)] ∧ h' = h :=
  (specPutFrame_ok s t h ht hs).mono fun v h' q => ⟨q.1.trans (pfV_eq s t), q.2⟩
def syncM (s : Store) : Store := if storeOk s = true then syncS s else Store.zero
theorem syncV_eq (s : Store) : syncV s = .tuple #[.agg (syncM s).cells.toArray, .bool (storeOk s)] := by
  unfold syncV syncM
  split
  · rename_i q; rw [q]
  · rename_i q; rw [Bool.not_eq_true] at q; rw [q]
theorem implSync_p (s : Store) (h : Heap) (hs : s.small) : ACalls Tryd.prog dE 23 #[.agg s.cells.toArray] h fun v h' => v = .tuple #[.agg (syncM s).cells.toArray, .bool (storeOk s)] ∧ h' = h :=
  (implSyncStore_ok s h hs).mono fun v h' q => ⟨q.1.trans (syncV_eq s), q.2⟩
theorem specSync_p (s : Store) (h : Heap) (hs : s.small) : ACalls Tryd.prog dE 33 #[.agg s.cells.toArray] h fun v h' => v = .tuple #[.agg (syncM s).cells.toArray, .bool (storeOk s)] ∧ h' = h :=
  (specSyncStore_ok s h hs).mono fun v h' q => ⟨q.1.trans (syncV_eq s), q.2⟩
def newM (r : Int) : Store := if decide (0 ≤ r ∧ r ≤ 4000) = true then newS1 r else Store.zero
theorem newV_eq (r : Int) : newV r = .tuple #[.agg (newM r).cells.toArray, .bool (decide (0 ≤ r ∧ r ≤ 4000))] := by
  unfold newV newM
  split
  · rename_i q; rw [q]
  · rename_i q; rw [Bool.not_eq_true] at q; rw [q]
theorem implNew_p (r : Int) (h : Heap) : ACalls Tryd.prog dE 30 #[.int .i64 r] h fun v h' => v = .tuple #[.agg (newM r).cells.toArray, .bool (decide (0 ≤ r ∧ r ≤ 4000))] ∧ h' = h :=
  (implNewStore_ok r h).mono fun v h' q => ⟨q.1.trans (newV_eq r), q.2⟩
theorem specNew_p (r : Int) (h : Heap) : ACalls Tryd.prog dE 31 #[.int .i64 r] h fun v h' => v = .tuple #[.agg (newM r).cells.toArray, .bool (decide (0 ≤ r ∧ r ≤ 4000))] ∧ h' = h :=
  (specNewStore_ok r h).mono fun v h' q => ⟨q.1.trans (newV_eq r), q.2⟩
theorem frameV_parts (n : Int) (s : ByteArray) : ∃ (f : ByteArray) (b : Bool), frameV n s = .tuple #[.string f, .bool b] := by
  unfold frameV; split <;> exact ⟨_, _, rfl⟩
theorem implFrame_p (n : Int) (s : ByteArray) (f : ByteArray) (b : Bool) (h : Heap) (hf : frameV n s = .tuple #[.string f, .bool b]) (hs : s.size ≤ 1048576) : ACalls Tryd.prog dE 25 #[.int .i64 n, .string s] h fun v h' => v = .tuple #[.string f, .bool b] ∧ h' = h :=
  (upPE (implFrameOf_ok n s h hs)).mono fun v h' q => ⟨q.1.trans hf, q.2⟩
theorem specFrame_p (n : Int) (s : ByteArray) (f : ByteArray) (b : Bool) (h : Heap) (hf : frameV n s = .tuple #[.string f, .bool b]) (hs : s.size ≤ 1048576) : ACalls Tryd.prog dE 26 #[.int .i64 n, .string s] h fun v h' => v = .tuple #[.string f, .bool b] ∧ h' = h :=
  (upPE (specFrameOf_ok n s h hs)).mono fun v h' q => ⟨q.1.trans hf, q.2⟩
theorem lawFnPut_ok (l1 l2 : List Int) (v1 v2 : Value) (h : Heap) (hs1 : Sl h v1 1 (bytesR l1)) (hs2 : Sl h v2 1 (bytesR l2)) (hb1 : ∀ b, bid v1 = some b → b < h.length) (hb2 : ∀ b, bid v2 = some b → b < h.length)
    (hl1 : l1.length ≤ 9223372036854775807) (hl2 : l2.length ≤ 9223372036854775807) (hw1 : ∀ x ∈ l1, 0 ≤ x ∧ x ≤ 255) (hw2 : ∀ x ∈ l2, 0 ≤ x ∧ x ≤ 255) :
    ACalls Tryd.prog dE 4 #[v1, v2] h fun v _ => v = .bool true := by
  obtain ⟨b1, c1, rfl, hc1, _⟩ := id hs1
  obtain ⟨b2, c2, rfl, hc2, _⟩ := id hs2
  have e1 : (bytesR l1).length = l1.length := Zv _
  have e2 : (bytesR l2).length = l2.length := Zv _
  rw [e1] at hs1 hb1 hc1 ⊢
  rw [e2] at hs2 hb2 hc2 ⊢
  clear e1 e2 hc1 hc2
  refine Z36 Tryd.func4 rfl Tryd.ntmps4 (by simp) (by dsimp only [Tryd.f4]) ?_
  have zq0 := @Store.cells_length
  have zq1 := @Store.cells_flat
  have zq2 := @Store.cells_take
  have zq3 := @Store.cells_splice
  have zq4 := @Store.cells_splice2
  have zq5 := @Store.get0
  have zq6 := @Store.get1
  have zq7 := @Store.get2
  have zq8 := @Store.eql
  have zq9 := @Store.neq
  repeat' (first | (with_reducible first | refine aw_parkR 4 ?_) | refine wS ?_ | refine wD ?_ | refine wT ?_ | refine wL ?_ | refine wB ?_ | refine wG ?_ | refine gw_if (fun hb => ?_) (fun hb => ?_) | refine wC ?_ | refine cw_if (fun hb => ?_) (fun hb => ?_) | refine wR ?_ | (refine wK (K := ?_) ?_ ?_; rotate_left 1) | ((with_reducible refine big_ok _ _ _ _ _ _ _ ?_ ?_); (· assumption); (· assumption)) | ((with_reducible refine texts_l _ ?_ _ ?_ ?_); rotate_left 1; (· assumption); (· assumption)) | ((with_reducible refine sameTexts_ok ?_ ?_ _ _ _ ?_ ?_ ?_ ?_); rotate_left 2; (· (first | exact hslA _ | (refine Sl.ext (by assumption) ⟨?_, ?_⟩; rotate_left 1; simp only [Z7, Zc, Zd]; rfl) | (refine Sl.ext0 (by assumption) ?_; simp only [Z7, Zc, Zd]))); (· (first | exact hslA _ | (refine Sl.ext (by assumption) ⟨?_, ?_⟩; rotate_left 1; simp only [Z7, Zc, Zd]; rfl) | (refine Sl.ext0 (by assumption) ?_; simp only [Z7, Zc, Zd]))); (· exact pO); (· exact pO)) | ((with_reducible refine implPut_p _ _ _ ?_ ?_); (· exact pO); (· assumption)) | ((with_reducible refine drawPutFrame_x l1 _ _ ?_ ?_ ?_ ?_); (· (first | assumption | exact hs1.old _)); (· (intro id q hq; have hz := hb1 _ hq; (try (simp only [Z6, Z3, Z2] at q)); omega)); (· assumption); (· assumption)) | ((with_reducible refine specPut_p _ _ _ ?_ ?_); (· exact pO); (· assumption)) | ((with_reducible refine implSync_p _ _ ?_); (· assumption)) | ((with_reducible refine implFrameOf_ok _ _ _ ?_); (· assumption)) | ((with_reducible refine specFrameOf_ok _ _ _ ?_); (· assumption)) | ((with_reducible refine specTextsIn_ok _ _ ?_); (· first | assumption | exact hsm)) | (with_reducible exact implNew_p _ _) | (with_reducible exact specNew_p _ _) | ((with_reducible refine specSync_p _ _ ?_); (· assumption)) | ((with_reducible refine Z2w (n := 12) ?_); rintro _ _ ⟨b1, F1, rfl, rfl, hsl, b2, hct⟩) | ((with_reducible refine Z2w (n := 21) ?_); rintro _ _ ⟨s, t, E1, rfl, rfl, hsu, hla, htz⟩) | refine hkp ?_)
  · rfl
  have hsm : s.small := ⟨by omega, by omega⟩
  rcases Bool.eq_false_or_eq_true (storeOk s) with hk | hk
  · have hpm : putM s t = putS s t := if_pos hk
    have hpn : putN s t = putC s t := if_pos hk
    have hg := putS_good hk t
    have hgm := good_small hg
    have hgy := syncS_good hg
    have hym : syncM (putS s t) = syncS (putS s t) := if_pos hg
    have hty : tiR (syncS (putS s t)) = tiR (putS s t) := by rw [tiR, tiR, if_pos hgy, if_pos hg]; simp only [syncS, ba_empty]
    have hyl : (syncS (putS s t)).later = ⟨#[]⟩ := rfl
    have ha99 := tiR_len s
    have hb99 := tiR_len (putS s t)
    rcases put_facts s t hk with ⟨g1, g2⟩ | ⟨g1, g2⟩
    · obtain ⟨a, ha⟩ : ∃ a, tiR s = a := ⟨_, rfl⟩
      rw [g2] at hpm hg hgm hgy hym hty hyl hb99
      have d1 : decide ((0 : Int) < putC s t) = true := decide_eq_true g1
      have d2 : decide (putC s t = 0) = false := decide_eq_false (by omega)
      rw [ha] at hty ha99
      clear g1 g2 hb99
      refine ⟨?_⟩
      have zq0 := @Store.cells_length
      have zq1 := @Store.cells_flat
      have zq2 := @Store.cells_take
      have zq3 := @Store.cells_splice
      have zq4 := @Store.cells_splice2
      have zq5 := @Store.get0
      have zq6 := @Store.get1
      have zq7 := @Store.get2
      have zq8 := @Store.eql
      have zq9 := @Store.neq
      repeat' (first | (with_reducible first | refine aw_parkR 17 ?_) | refine wS ?_ | refine wD ?_ | refine wT ?_ | refine wL ?_ | refine wB ?_ | refine wG ?_ | refine gw_if (fun hb => ?_) (fun hb => ?_) | refine wC ?_ | refine cw_if (fun hb => ?_) (fun hb => ?_) | refine wR ?_ | (refine wK (K := ?_) ?_ ?_; rotate_left 1) | ((with_reducible refine big_ok _ _ _ _ _ _ _ ?_ ?_); (· assumption); (· assumption)) | ((with_reducible refine texts_l _ ?_ _ ?_ ?_); rotate_left 1; (· assumption); (· assumption)) | ((with_reducible refine sameTexts_ok ?_ ?_ _ _ _ ?_ ?_ ?_ ?_); rotate_left 2; (· (first | exact hslA _ | (refine Sl.ext (by assumption) ⟨?_, ?_⟩; rotate_left 1; simp only [Z7, Zc, Zd]; rfl) | (refine Sl.ext0 (by assumption) ?_; simp only [Z7, Zc, Zd]))); (· (first | exact hslA _ | (refine Sl.ext (by assumption) ⟨?_, ?_⟩; rotate_left 1; simp only [Z7, Zc, Zd]; rfl) | (refine Sl.ext0 (by assumption) ?_; simp only [Z7, Zc, Zd]))); (· exact pO); (· exact pO)) | ((with_reducible refine implPut_p _ _ _ ?_ ?_); (· exact pO); (· assumption)) | ((with_reducible refine drawPutFrame_x l1 _ _ ?_ ?_ ?_ ?_); (· (first | assumption | exact hs1.old _)); (· (intro id q hq; have hz := hb1 _ hq; (try (simp only [Z6, Z3, Z2] at q)); omega)); (· assumption); (· assumption)) | ((with_reducible refine specPut_p _ _ _ ?_ ?_); (· exact pO); (· assumption)) | ((with_reducible refine implSync_p _ _ ?_); (· assumption)) | ((with_reducible refine implFrameOf_ok _ _ _ ?_); (· assumption)) | ((with_reducible refine specFrameOf_ok _ _ _ ?_); (· assumption)) | ((with_reducible refine specTextsIn_ok _ _ ?_); (· first | assumption | exact hsm)) | (with_reducible exact implNew_p _ _) | (with_reducible exact specNew_p _ _) | ((with_reducible refine specSync_p _ _ ?_); (· assumption)) | ((with_reducible refine Z2w (n := 12) ?_); rintro _ _ ⟨b1, F1, rfl, rfl, hsl, b2, hct⟩) | ((with_reducible refine Z2w (n := 21) ?_); rintro _ _ ⟨s, t, E1, rfl, rfl, hsu, hla, htz⟩) | refine hkp ?_)
      clear ha99 hgm hgy hym hty hyl hpm hpn d1 d2 hsm hk hg ha hsu hla htz
      refine ⟨?_⟩
      refine aw_forgetM [1] ?_
      intro T X hR
      simp only [Z37, Z38, Z39, implies_true, and_true, stp, ev, ZB, reduceIte, Nat.reduceEqDiff, Z2x, Z13, Zy] at hR
      have zq0 := @Store.cells_length
      have zq1 := @Store.cells_flat
      have zq2 := @Store.cells_take
      have zq3 := @Store.cells_splice
      have zq4 := @Store.cells_splice2
      have zq5 := @Store.get0
      have zq6 := @Store.get1
      have zq7 := @Store.get2
      have zq8 := @Store.eql
      have zq9 := @Store.neq
      repeat' (first | (with_reducible first | refine aw_parkR 18 ?_) | refine wS ?_ | refine wD ?_ | refine wT ?_ | refine wL ?_ | refine wB ?_ | refine wG ?_ | refine gw_if (fun hb => ?_) (fun hb => ?_) | refine wC ?_ | refine cw_if (fun hb => ?_) (fun hb => ?_) | refine wR ?_ | (refine wK (K := ?_) ?_ ?_; rotate_left 1) | ((with_reducible refine big_ok _ _ _ _ _ _ _ ?_ ?_); (· assumption); (· assumption)) | ((with_reducible refine textsG_l _ _ ?_); (· exact hws)) | ((with_reducible refine sameTexts_ok ?_ ?_ _ _ _ ?_ ?_ ?_ ?_); rotate_left 2; (· (first | (refine Sl.ext (by assumption) ⟨?_, ?_⟩; rotate_left 1; simp only [Z7, Zc, Zd]; rfl) | (refine Sl.ext0 (by assumption) ?_; simp only [Z7, Zc, Zd]))); (· (first | (refine Sl.ext (by assumption) ⟨?_, ?_⟩; rotate_left 1; simp only [Z7, Zc, Zd]; rfl) | (refine Sl.ext0 (by assumption) ?_; simp only [Z7, Zc, Zd]))); (· (have := tiR_len w; omega)); (· (have := tiR_len w; omega))) | ((with_reducible refine implPut_p _ _ _ ?_ ?_); (· exact pO); (· assumption)) | ((with_reducible refine drawPutFrame_x l1 _ _ ?_ ?_ ?_ ?_); (· (first | assumption | exact hs1.old _)); (· (intro id q hq; have hz := hb1 _ hq; (try (simp only [Z6, Z3, Z2] at q)); omega)); (· assumption); (· assumption)) | ((with_reducible refine specPut_p _ _ _ ?_ ?_); (· exact pO); (· assumption)) | ((with_reducible refine implSync_p _ _ ?_); (· exact hys)) | ((with_reducible refine drawFrameOf_x l2 _ _ ?_ ?_ ?_ ?_); (· (first | assumption | exact hs2.old _)); (· (intro id q hq; have hz := hb2 _ hq; (try (simp only [Z6, Z3, Z2] at q)); omega)); (· assumption); (· assumption)) | ((with_reducible refine implFrame_p _ _ f fb _ ?_ ?_); (· assumption); (· exact pO)) | ((with_reducible refine specFrame_p _ _ f fb _ ?_ ?_); (· assumption); (· exact pO)) | ((with_reducible refine drawTextsIn_x l2 _ _ ?_ ?_ ?_ ?_); (· (first | assumption | exact hs2.old _)); (· (intro id q hq; have hz := hb2 _ hq; (try (simp only [Z6, Z3, Z2] at q)); omega)); (· assumption); (· assumption)) | ((with_reducible refine textsS_l _ _ ?_); (· exact hws)) | ((with_reducible refine drawNewStore_x l2 _ _ ?_ ?_ ?_ ?_); (· (first | assumption | exact hs2.old _)); (· (intro id q hq; have hz := hb2 _ hq; (try (simp only [Z6, Z3, Z2] at q)); omega)); (· assumption); (· assumption)) | (with_reducible exact implNew_p _ _) | (with_reducible exact specNew_p _ _) | ((with_reducible refine drawSyncStore_x l2 _ _ ?_ ?_ ?_ ?_); (· (first | assumption | exact hs2.old _)); (· (intro id q hq; have hz := hb2 _ hq; (try (simp only [Z6, Z3, Z2] at q)); omega)); (· assumption); (· assumption)) | ((with_reducible refine specSync_p _ _ ?_); (· exact hys)) | ((with_reducible refine Z2w (n := 12) ?_); rintro _ _ ⟨b1, F1, rfl, rfl, hsl, b2, hct⟩) | ((with_reducible refine Z2w (n := 28) ?_); rintro _ _ ⟨b1, F1, rfl, rfl, hsl, b2, hct⟩) | ((with_reducible refine Z2w (n := 21) ?_); rintro _ _ ⟨s, t, E1, rfl, rfl, hsu, hla, htz⟩) | ((with_reducible refine Z2w (n := 24) ?_); rintro _ _ ⟨no, x1, E2, rfl, rfl, hxz⟩) | ((with_reducible refine Z2w (n := 27) ?_); rintro _ _ ⟨w, E3, rfl, rfl, hwsu, hwla⟩) | ((with_reducible refine Z2w (n := 29) ?_); rintro _ _ ⟨r, E4, rfl, rfl⟩) | ((with_reducible refine Z2w (n := 32) ?_); rintro _ _ ⟨y, E5, rfl, rfl, hysu, hyla⟩) | refine hkp ?_)
      obtain ⟨f, fb, hf⟩ := frameV_parts no x1
      refine ⟨?_⟩
      have zq0 := @Store.cells_length
      have zq1 := @Store.cells_flat
      have zq2 := @Store.cells_take
      have zq3 := @Store.cells_splice
      have zq4 := @Store.cells_splice2
      have zq5 := @Store.get0
      have zq6 := @Store.get1
      have zq7 := @Store.get2
      have zq8 := @Store.eql
      have zq9 := @Store.neq
      repeat' (first | (with_reducible first | refine aw_parkR 21 ?_) | refine wS ?_ | refine wD ?_ | refine wT ?_ | refine wL ?_ | refine wB ?_ | refine wG ?_ | refine gw_if (fun hb => ?_) (fun hb => ?_) | refine wC ?_ | refine cw_if (fun hb => ?_) (fun hb => ?_) | refine wR ?_ | (refine wK (K := ?_) ?_ ?_; rotate_left 1) | ((with_reducible refine big_ok _ _ _ _ _ _ _ ?_ ?_); (· assumption); (· assumption)) | ((with_reducible refine textsG_l _ _ ?_); (· exact hws)) | ((with_reducible refine sameTexts_ok ?_ ?_ _ _ _ ?_ ?_ ?_ ?_); rotate_left 2; (· (first | (refine Sl.ext (by assumption) ⟨?_, ?_⟩; rotate_left 1; simp only [Z7, Zc, Zd]; rfl) | (refine Sl.ext0 (by assumption) ?_; simp only [Z7, Zc, Zd]))); (· (first | (refine Sl.ext (by assumption) ⟨?_, ?_⟩; rotate_left 1; simp only [Z7, Zc, Zd]; rfl) | (refine Sl.ext0 (by assumption) ?_; simp only [Z7, Zc, Zd]))); (· (have := tiR_len w; omega)); (· (have := tiR_len w; omega))) | ((with_reducible refine implPut_p _ _ _ ?_ ?_); (· exact pO); (· assumption)) | ((with_reducible refine drawPutFrame_x l1 _ _ ?_ ?_ ?_ ?_); (· (first | assumption | exact hs1.old _)); (· (intro id q hq; have hz := hb1 _ hq; (try (simp only [Z6, Z3, Z2] at q)); omega)); (· assumption); (· assumption)) | ((with_reducible refine specPut_p _ _ _ ?_ ?_); (· exact pO); (· assumption)) | ((with_reducible refine implSync_p _ _ ?_); (· exact hys)) | ((with_reducible refine drawFrameOf_x l2 _ _ ?_ ?_ ?_ ?_); (· (first | assumption | exact hs2.old _)); (· (intro id q hq; have hz := hb2 _ hq; (try (simp only [Z6, Z3, Z2] at q)); omega)); (· assumption); (· assumption)) | ((with_reducible refine implFrame_p _ _ f fb _ ?_ ?_); (· assumption); (· exact pO)) | ((with_reducible refine specFrame_p _ _ f fb _ ?_ ?_); (· assumption); (· exact pO)) | ((with_reducible refine drawTextsIn_x l2 _ _ ?_ ?_ ?_ ?_); (· (first | assumption | exact hs2.old _)); (· (intro id q hq; have hz := hb2 _ hq; (try (simp only [Z6, Z3, Z2] at q)); omega)); (· assumption); (· assumption)) | ((with_reducible refine textsS_l _ _ ?_); (· exact hws)) | ((with_reducible refine drawNewStore_x l2 _ _ ?_ ?_ ?_ ?_); (· (first | assumption | exact hs2.old _)); (· (intro id q hq; have hz := hb2 _ hq; (try (simp only [Z6, Z3, Z2] at q)); omega)); (· assumption); (· assumption)) | (with_reducible exact implNew_p _ _) | (with_reducible exact specNew_p _ _) | ((with_reducible refine drawSyncStore_x l2 _ _ ?_ ?_ ?_ ?_); (· (first | assumption | exact hs2.old _)); (· (intro id q hq; have hz := hb2 _ hq; (try (simp only [Z6, Z3, Z2] at q)); omega)); (· assumption); (· assumption)) | ((with_reducible refine specSync_p _ _ ?_); (· exact hys)) | ((with_reducible refine Z2w (n := 12) ?_); rintro _ _ ⟨b1, F1, rfl, rfl, hsl, b2, hct⟩) | ((with_reducible refine Z2w (n := 28) ?_); rintro _ _ ⟨b1, F1, rfl, rfl, hsl, b2, hct⟩) | ((with_reducible refine Z2w (n := 21) ?_); rintro _ _ ⟨s, t, E1, rfl, rfl, hsu, hla, htz⟩) | ((with_reducible refine Z2w (n := 24) ?_); rintro _ _ ⟨no, x1, E2, rfl, rfl, hxz⟩) | ((with_reducible refine Z2w (n := 27) ?_); rintro _ _ ⟨w, E3, rfl, rfl, hwsu, hwla⟩) | ((with_reducible refine Z2w (n := 29) ?_); rintro _ _ ⟨r, E4, rfl, rfl⟩) | ((with_reducible refine Z2w (n := 32) ?_); rintro _ _ ⟨y, E5, rfl, rfl, hysu, hyla⟩) | refine hkp ?_)
      have hws : w.small := ⟨by omega, by omega⟩
      refine ⟨?_⟩
      have zq0 := @Store.cells_length
      have zq1 := @Store.cells_flat
      have zq2 := @Store.cells_take
      have zq3 := @Store.cells_splice
      have zq4 := @Store.cells_splice2
      have zq5 := @Store.get0
      have zq6 := @Store.get1
      have zq7 := @Store.get2
      have zq8 := @Store.eql
      have zq9 := @Store.neq
      repeat' (first | (with_reducible first | refine aw_parkR 27 ?_) | refine wS ?_ | refine wD ?_ | refine wT ?_ | refine wL ?_ | refine wB ?_ | refine wG ?_ | refine gw_if (fun hb => ?_) (fun hb => ?_) | refine wC ?_ | refine cw_if (fun hb => ?_) (fun hb => ?_) | refine wR ?_ | (refine wK (K := ?_) ?_ ?_; rotate_left 1) | ((with_reducible refine big_ok _ _ _ _ _ _ _ ?_ ?_); (· assumption); (· assumption)) | ((with_reducible refine textsG_l _ _ ?_); (· exact hws)) | ((with_reducible refine sameTexts_ok ?_ ?_ _ _ _ ?_ ?_ ?_ ?_); rotate_left 2; (· (first | (refine Sl.ext (by assumption) ⟨?_, ?_⟩; rotate_left 1; simp only [Z7, Zc, Zd]; rfl) | (refine Sl.ext0 (by assumption) ?_; simp only [Z7, Zc, Zd]))); (· (first | (refine Sl.ext (by assumption) ⟨?_, ?_⟩; rotate_left 1; simp only [Z7, Zc, Zd]; rfl) | (refine Sl.ext0 (by assumption) ?_; simp only [Z7, Zc, Zd]))); (· (have := tiR_len w; omega)); (· (have := tiR_len w; omega))) | ((with_reducible refine implPut_p _ _ _ ?_ ?_); (· exact pO); (· assumption)) | ((with_reducible refine drawPutFrame_x l1 _ _ ?_ ?_ ?_ ?_); (· (first | assumption | exact hs1.old _)); (· (intro id q hq; have hz := hb1 _ hq; (try (simp only [Z6, Z3, Z2] at q)); omega)); (· assumption); (· assumption)) | ((with_reducible refine specPut_p _ _ _ ?_ ?_); (· exact pO); (· assumption)) | ((with_reducible refine implSync_p _ _ ?_); (· exact hys)) | ((with_reducible refine drawFrameOf_x l2 _ _ ?_ ?_ ?_ ?_); (· (first | assumption | exact hs2.old _)); (· (intro id q hq; have hz := hb2 _ hq; (try (simp only [Z6, Z3, Z2] at q)); omega)); (· assumption); (· assumption)) | ((with_reducible refine implFrame_p _ _ f fb _ ?_ ?_); (· assumption); (· exact pO)) | ((with_reducible refine specFrame_p _ _ f fb _ ?_ ?_); (· assumption); (· exact pO)) | ((with_reducible refine drawTextsIn_x l2 _ _ ?_ ?_ ?_ ?_); (· (first | assumption | exact hs2.old _)); (· (intro id q hq; have hz := hb2 _ hq; (try (simp only [Z6, Z3, Z2] at q)); omega)); (· assumption); (· assumption)) | ((with_reducible refine textsS_l _ _ ?_); (· exact hws)) | ((with_reducible refine drawNewStore_x l2 _ _ ?_ ?_ ?_ ?_); (· (first | assumption | exact hs2.old _)); (· (intro id q hq; have hz := hb2 _ hq; (try (simp only [Z6, Z3, Z2] at q)); omega)); (· assumption); (· assumption)) | (with_reducible exact implNew_p _ _) | (with_reducible exact specNew_p _ _) | ((with_reducible refine drawSyncStore_x l2 _ _ ?_ ?_ ?_ ?_); (· (first | assumption | exact hs2.old _)); (· (intro id q hq; have hz := hb2 _ hq; (try (simp only [Z6, Z3, Z2] at q)); omega)); (· assumption); (· assumption)) | ((with_reducible refine specSync_p _ _ ?_); (· exact hys)) | ((with_reducible refine Z2w (n := 12) ?_); rintro _ _ ⟨b1, F1, rfl, rfl, hsl, b2, hct⟩) | ((with_reducible refine Z2w (n := 28) ?_); rintro _ _ ⟨b1, F1, rfl, rfl, hsl, b2, hct⟩) | ((with_reducible refine Z2w (n := 21) ?_); rintro _ _ ⟨s, t, E1, rfl, rfl, hsu, hla, htz⟩) | ((with_reducible refine Z2w (n := 24) ?_); rintro _ _ ⟨no, x1, E2, rfl, rfl, hxz⟩) | ((with_reducible refine Z2w (n := 27) ?_); rintro _ _ ⟨w, E3, rfl, rfl, hwsu, hwla⟩) | ((with_reducible refine Z2w (n := 29) ?_); rintro _ _ ⟨r, E4, rfl, rfl⟩) | ((with_reducible refine Z2w (n := 32) ?_); rintro _ _ ⟨y, E5, rfl, rfl, hysu, hyla⟩) | refine hkp ?_)
      have hys : y.small := ⟨by omega, by omega⟩
      refine ⟨?_⟩
      have zq0 := @Store.cells_length
      have zq1 := @Store.cells_flat
      have zq2 := @Store.cells_take
      have zq3 := @Store.cells_splice
      have zq4 := @Store.cells_splice2
      have zq5 := @Store.get0
      have zq6 := @Store.get1
      have zq7 := @Store.get2
      have zq8 := @Store.eql
      have zq9 := @Store.neq
      repeat' (first | refine wS ?_ | refine wD ?_ | refine wT ?_ | refine wL ?_ | refine wB ?_ | refine wG ?_ | refine gw_if (fun hb => ?_) (fun hb => ?_) | refine wC ?_ | refine cw_if (fun hb => ?_) (fun hb => ?_) | refine wR ?_ | (refine wK (K := ?_) ?_ ?_; rotate_left 1) | ((with_reducible refine big_ok _ _ _ _ _ _ _ ?_ ?_); (· assumption); (· assumption)) | ((with_reducible refine textsG_l _ _ ?_); (· exact hws)) | ((with_reducible refine sameTexts_ok ?_ ?_ _ _ _ ?_ ?_ ?_ ?_); rotate_left 2; (· (first | (refine Sl.ext (by assumption) ⟨?_, ?_⟩; rotate_left 1; simp only [Z7, Zc, Zd]; rfl) | (refine Sl.ext0 (by assumption) ?_; simp only [Z7, Zc, Zd]))); (· (first | (refine Sl.ext (by assumption) ⟨?_, ?_⟩; rotate_left 1; simp only [Z7, Zc, Zd]; rfl) | (refine Sl.ext0 (by assumption) ?_; simp only [Z7, Zc, Zd]))); (· (have := tiR_len w; omega)); (· (have := tiR_len w; omega))) | ((with_reducible refine implPut_p _ _ _ ?_ ?_); (· exact pO); (· assumption)) | ((with_reducible refine drawPutFrame_x l1 _ _ ?_ ?_ ?_ ?_); (· (first | assumption | exact hs1.old _)); (· (intro id q hq; have hz := hb1 _ hq; (try (simp only [Z6, Z3, Z2] at q)); omega)); (· assumption); (· assumption)) | ((with_reducible refine specPut_p _ _ _ ?_ ?_); (· exact pO); (· assumption)) | ((with_reducible refine implSync_p _ _ ?_); (· exact hys)) | ((with_reducible refine drawFrameOf_x l2 _ _ ?_ ?_ ?_ ?_); (· (first | assumption | exact hs2.old _)); (· (intro id q hq; have hz := hb2 _ hq; (try (simp only [Z6, Z3, Z2] at q)); omega)); (· assumption); (· assumption)) | ((with_reducible refine implFrame_p _ _ f fb _ ?_ ?_); (· assumption); (· exact pO)) | ((with_reducible refine specFrame_p _ _ f fb _ ?_ ?_); (· assumption); (· exact pO)) | ((with_reducible refine drawTextsIn_x l2 _ _ ?_ ?_ ?_ ?_); (· (first | assumption | exact hs2.old _)); (· (intro id q hq; have hz := hb2 _ hq; (try (simp only [Z6, Z3, Z2] at q)); omega)); (· assumption); (· assumption)) | ((with_reducible refine textsS_l _ _ ?_); (· exact hws)) | ((with_reducible refine drawNewStore_x l2 _ _ ?_ ?_ ?_ ?_); (· (first | assumption | exact hs2.old _)); (· (intro id q hq; have hz := hb2 _ hq; (try (simp only [Z6, Z3, Z2] at q)); omega)); (· assumption); (· assumption)) | (with_reducible exact implNew_p _ _) | (with_reducible exact specNew_p _ _) | ((with_reducible refine drawSyncStore_x l2 _ _ ?_ ?_ ?_ ?_); (· (first | assumption | exact hs2.old _)); (· (intro id q hq; have hz := hb2 _ hq; (try (simp only [Z6, Z3, Z2] at q)); omega)); (· assumption); (· assumption)) | ((with_reducible refine specSync_p _ _ ?_); (· exact hys)) | ((with_reducible refine Z2w (n := 12) ?_); rintro _ _ ⟨b1, F1, rfl, rfl, hsl, b2, hct⟩) | ((with_reducible refine Z2w (n := 28) ?_); rintro _ _ ⟨b1, F1, rfl, rfl, hsl, b2, hct⟩) | ((with_reducible refine Z2w (n := 21) ?_); rintro _ _ ⟨s, t, E1, rfl, rfl, hsu, hla, htz⟩) | ((with_reducible refine Z2w (n := 24) ?_); rintro _ _ ⟨no, x1, E2, rfl, rfl, hxz⟩) | ((with_reducible refine Z2w (n := 27) ?_); rintro _ _ ⟨w, E3, rfl, rfl, hwsu, hwla⟩) | ((with_reducible refine Z2w (n := 29) ?_); rintro _ _ ⟨r, E4, rfl, rfl⟩) | ((with_reducible refine Z2w (n := 32) ?_); rintro _ _ ⟨y, E5, rfl, rfl, hysu, hyla⟩) | refine hkp ?_)
      rfl
    · obtain ⟨a, ha⟩ : ∃ a, tiR s = a := ⟨_, rfl⟩
      obtain ⟨b, hb⟩ : ∃ b, tiR (putS s t) = b := ⟨_, rfl⟩
      rw [ha] at g2 ha99
      rw [hb] at g2 hty hb99
      have k1 : a.length + 1 ≤ b.length ∧ b.length ≤ a.length + 1 := by rw [g2]; simp
      have k2 : b.take a.length = a := by rw [g2]; simp
      have k3 : (trs b)[a.length]? = some [.string t] := by rw [g2]; simp [trs]
      have d1 : decide ((0 : Int) < putC s t) = false := decide_eq_false (by omega)
      have d2 : decide (putC s t = 0) = true := decide_eq_true g1
      have hwl : IntKind.i64.wrap ((a.length : Int) + 1) = (b.length : Int) := by rw [wrap_id (by omega)]; omega
      clear g1 g2
      refine ⟨?_⟩
      have zq0 := @Store.cells_length
      have zq1 := @Store.cells_flat
      have zq2 := @Store.cells_take
      have zq3 := @Store.cells_splice
      have zq4 := @Store.cells_splice2
      have zq5 := @Store.get0
      have zq6 := @Store.get1
      have zq7 := @Store.get2
      have zq8 := @Store.eql
      have zq9 := @Store.neq
      repeat' (first | (with_reducible first | refine aw_parkR 11 ?_) | refine wS ?_ | refine wD ?_ | refine wT ?_ | refine wL ?_ | refine wB ?_ | refine wG ?_ | refine gw_if (fun hb => ?_) (fun hb => ?_) | refine wC ?_ | refine cw_if (fun hb => ?_) (fun hb => ?_) | refine wR ?_ | (refine wK (K := ?_) ?_ ?_; rotate_left 1) | ((with_reducible refine big_ok _ _ _ _ _ _ _ ?_ ?_); (· assumption); (· assumption)) | ((with_reducible refine texts_l _ ?_ _ ?_ ?_); rotate_left 1; (· assumption); (· assumption)) | ((with_reducible refine sameTexts_ok ?_ ?_ _ _ _ ?_ ?_ ?_ ?_); rotate_left 2; (· (first | exact hslA _ | (refine Sl.ext (by assumption) ⟨?_, ?_⟩; rotate_left 1; simp only [Z7, Zc, Zd]; rfl) | (refine Sl.ext0 (by assumption) ?_; simp only [Z7, Zc, Zd]))); (· (first | exact hslA _ | (refine Sl.ext (by assumption) ⟨?_, ?_⟩; rotate_left 1; simp only [Z7, Zc, Zd]; rfl) | (refine Sl.ext0 (by assumption) ?_; simp only [Z7, Zc, Zd]))); (· exact pO); (· exact pO)) | ((with_reducible refine implPut_p _ _ _ ?_ ?_); (· exact pO); (· assumption)) | ((with_reducible refine drawPutFrame_x l1 _ _ ?_ ?_ ?_ ?_); (· (first | assumption | exact hs1.old _)); (· (intro id q hq; have hz := hb1 _ hq; (try (simp only [Z6, Z3, Z2] at q)); omega)); (· assumption); (· assumption)) | ((with_reducible refine specPut_p _ _ _ ?_ ?_); (· exact pO); (· assumption)) | ((with_reducible refine implSync_p _ _ ?_); (· assumption)) | ((with_reducible refine drawFrameOf_x l2 _ _ ?_ ?_ ?_ ?_); (· (first | assumption | exact hs2.old _)); (· (intro id q hq; have hz := hb2 _ hq; (try (simp only [Z6, Z3, Z2] at q)); omega)); (· assumption); (· assumption)) | ((with_reducible refine implFrame_p _ _ f fb _ ?_ ?_); (· assumption); (· exact pO)) | ((with_reducible refine specFrame_p _ _ f fb _ ?_ ?_); (· assumption); (· exact pO)) | ((with_reducible refine drawTextsIn_x l2 _ _ ?_ ?_ ?_ ?_); (· (first | assumption | exact hs2.old _)); (· (intro id q hq; have hz := hb2 _ hq; (try (simp only [Z6, Z3, Z2] at q)); omega)); (· assumption); (· assumption)) | ((with_reducible refine textsS_l _ _ ?_); (· exact hws)) | ((with_reducible refine drawNewStore_x l2 _ _ ?_ ?_ ?_ ?_); (· (first | assumption | exact hs2.old _)); (· (intro id q hq; have hz := hb2 _ hq; (try (simp only [Z6, Z3, Z2] at q)); omega)); (· assumption); (· assumption)) | (with_reducible exact implNew_p _ _) | (with_reducible exact specNew_p _ _) | ((with_reducible refine drawSyncStore_x l2 _ _ ?_ ?_ ?_ ?_); (· (first | assumption | exact hs2.old _)); (· (intro id q hq; have hz := hb2 _ hq; (try (simp only [Z6, Z3, Z2] at q)); omega)); (· assumption); (· assumption)) | ((with_reducible refine specSync_p _ _ ?_); (· exact hys)) | ((with_reducible refine Z2w (n := 12) ?_); rintro _ _ ⟨b1, F1, rfl, rfl, hsl, b2, hct⟩) | ((with_reducible refine Z2w (n := 28) ?_); rintro _ _ ⟨b1, F1, rfl, rfl, hsl, b2, hct⟩) | ((with_reducible refine Z2w (n := 21) ?_); rintro _ _ ⟨s, t, E1, rfl, rfl, hsu, hla, htz⟩) | ((with_reducible refine Z2w (n := 24) ?_); rintro _ _ ⟨no, x1, E2, rfl, rfl, hxz⟩) | ((with_reducible refine Z2w (n := 27) ?_); rintro _ _ ⟨w, E3, rfl, rfl, hwsu, hwla⟩) | ((with_reducible refine Z2w (n := 29) ?_); rintro _ _ ⟨r, E4, rfl, rfl⟩) | ((with_reducible refine Z2w (n := 32) ?_); rintro _ _ ⟨y, E5, rfl, rfl, hysu, hyla⟩) | refine hkp ?_)
      have hcB := fun X => (hct X a.length (by omega)).1
      have hslA := fun X => (hct X a.length (by omega)).2
      obtain ⟨ad, rfl, hgc⟩ := txl_at hsl k3
      rw [k2] at hslA
      simp only [Z7, Zc, Zd] at hcB hslA hgc
      have hlt : (a.length : Int) < (b.length : Int) := by omega
      clear hct k1 k2 k3
      refine ⟨?_⟩
      have zq0 := @Store.cells_length
      have zq1 := @Store.cells_flat
      have zq2 := @Store.cells_take
      have zq3 := @Store.cells_splice
      have zq4 := @Store.cells_splice2
      have zq5 := @Store.get0
      have zq6 := @Store.get1
      have zq7 := @Store.get2
      have zq8 := @Store.eql
      have zq9 := @Store.neq
      have zq10 := @Nat.mul_one
      repeat' (first | (with_reducible first | refine aw_parkR 17 ?_) | refine wS ?_ | refine wD ?_ | refine wT ?_ | refine wL ?_ | refine wB ?_ | refine wG ?_ | refine gw_if (fun hb => ?_) (fun hb => ?_) | refine wC ?_ | refine cw_if (fun hb => ?_) (fun hb => ?_) | refine wR ?_ | (refine wK (K := ?_) ?_ ?_; rotate_left 1) | ((with_reducible refine big_ok _ _ _ _ _ _ _ ?_ ?_); (· assumption); (· assumption)) | ((with_reducible refine texts_l _ ?_ _ ?_ ?_); rotate_left 1; (· assumption); (· assumption)) | ((with_reducible refine sameTexts_ok ?_ ?_ _ _ _ ?_ ?_ ?_ ?_); rotate_left 2; (· (first | exact hslA _ | (refine Sl.ext (by assumption) ⟨?_, ?_⟩; rotate_left 1; simp only [Z7, Zc, Zd]; rfl) | (refine Sl.ext0 (by assumption) ?_; simp only [Z7, Zc, Zd]))); (· (first | exact hslA _ | (refine Sl.ext (by assumption) ⟨?_, ?_⟩; rotate_left 1; simp only [Z7, Zc, Zd]; rfl) | (refine Sl.ext0 (by assumption) ?_; simp only [Z7, Zc, Zd]))); (· exact pO); (· exact pO)) | ((with_reducible refine implPut_p _ _ _ ?_ ?_); (· exact pO); (· assumption)) | ((with_reducible refine drawPutFrame_x l1 _ _ ?_ ?_ ?_ ?_); (· (first | assumption | exact hs1.old _)); (· (intro id q hq; have hz := hb1 _ hq; (try (simp only [Z6, Z3, Z2] at q)); omega)); (· assumption); (· assumption)) | ((with_reducible refine specPut_p _ _ _ ?_ ?_); (· exact pO); (· assumption)) | ((with_reducible refine implSync_p _ _ ?_); (· assumption)) | ((with_reducible refine drawFrameOf_x l2 _ _ ?_ ?_ ?_ ?_); (· (first | assumption | exact hs2.old _)); (· (intro id q hq; have hz := hb2 _ hq; (try (simp only [Z6, Z3, Z2] at q)); omega)); (· assumption); (· assumption)) | ((with_reducible refine implFrame_p _ _ f fb _ ?_ ?_); (· assumption); (· exact pO)) | ((with_reducible refine specFrame_p _ _ f fb _ ?_ ?_); (· assumption); (· exact pO)) | ((with_reducible refine drawTextsIn_x l2 _ _ ?_ ?_ ?_ ?_); (· (first | assumption | exact hs2.old _)); (· (intro id q hq; have hz := hb2 _ hq; (try (simp only [Z6, Z3, Z2] at q)); omega)); (· assumption); (· assumption)) | ((with_reducible refine textsS_l _ _ ?_); (· exact hws)) | ((with_reducible refine drawNewStore_x l2 _ _ ?_ ?_ ?_ ?_); (· (first | assumption | exact hs2.old _)); (· (intro id q hq; have hz := hb2 _ hq; (try (simp only [Z6, Z3, Z2] at q)); omega)); (· assumption); (· assumption)) | (with_reducible exact implNew_p _ _) | (with_reducible exact specNew_p _ _) | ((with_reducible refine drawSyncStore_x l2 _ _ ?_ ?_ ?_ ?_); (· (first | assumption | exact hs2.old _)); (· (intro id q hq; have hz := hb2 _ hq; (try (simp only [Z6, Z3, Z2] at q)); omega)); (· assumption); (· assumption)) | ((with_reducible refine specSync_p _ _ ?_); (· exact hys)) | ((with_reducible refine Z2w (n := 12) ?_); rintro _ _ ⟨b1, F1, rfl, rfl, hsl, b2, hct⟩) | ((with_reducible refine Z2w (n := 28) ?_); rintro _ _ ⟨b1, F1, rfl, rfl, hsl, b2, hct⟩) | ((with_reducible refine Z2w (n := 21) ?_); rintro _ _ ⟨s, t, E1, rfl, rfl, hsu, hla, htz⟩) | ((with_reducible refine Z2w (n := 24) ?_); rintro _ _ ⟨no, x1, E2, rfl, rfl, hxz⟩) | ((with_reducible refine Z2w (n := 27) ?_); rintro _ _ ⟨w, E3, rfl, rfl, hwsu, hwla⟩) | ((with_reducible refine Z2w (n := 29) ?_); rintro _ _ ⟨r, E4, rfl, rfl⟩) | ((with_reducible refine Z2w (n := 32) ?_); rintro _ _ ⟨y, E5, rfl, rfl, hysu, hyla⟩) | refine hkp ?_)
      clear hcB hslA hgc ha99 hb99 hwl hgm hgy hym hty hyl hpm hpn d1 d2 hsm hk hg ha hb hsu hla htz
      refine ⟨?_⟩
      refine aw_forgetM [1] ?_
      intro T X hR
      simp only [Z37, Z38, Z39, implies_true, and_true, stp, ev, ZB, reduceIte, Nat.reduceEqDiff, Z2x, Z13, Zy] at hR
      have zq0 := @Store.cells_length
      have zq1 := @Store.cells_flat
      have zq2 := @Store.cells_take
      have zq3 := @Store.cells_splice
      have zq4 := @Store.cells_splice2
      have zq5 := @Store.get0
      have zq6 := @Store.get1
      have zq7 := @Store.get2
      have zq8 := @Store.eql
      have zq9 := @Store.neq
      repeat' (first | (with_reducible first | refine aw_parkR 18 ?_) | refine wS ?_ | refine wD ?_ | refine wT ?_ | refine wL ?_ | refine wB ?_ | refine wG ?_ | refine gw_if (fun hb => ?_) (fun hb => ?_) | refine wC ?_ | refine cw_if (fun hb => ?_) (fun hb => ?_) | refine wR ?_ | (refine wK (K := ?_) ?_ ?_; rotate_left 1) | ((with_reducible refine big_ok _ _ _ _ _ _ _ ?_ ?_); (· assumption); (· assumption)) | ((with_reducible refine textsG_l _ _ ?_); (· exact hws)) | ((with_reducible refine sameTexts_ok ?_ ?_ _ _ _ ?_ ?_ ?_ ?_); rotate_left 2; (· (first | (refine Sl.ext (by assumption) ⟨?_, ?_⟩; rotate_left 1; simp only [Z7, Zc, Zd]; rfl) | (refine Sl.ext0 (by assumption) ?_; simp only [Z7, Zc, Zd]))); (· (first | (refine Sl.ext (by assumption) ⟨?_, ?_⟩; rotate_left 1; simp only [Z7, Zc, Zd]; rfl) | (refine Sl.ext0 (by assumption) ?_; simp only [Z7, Zc, Zd]))); (· (have := tiR_len w; omega)); (· (have := tiR_len w; omega))) | ((with_reducible refine implPut_p _ _ _ ?_ ?_); (· exact pO); (· assumption)) | ((with_reducible refine drawPutFrame_x l1 _ _ ?_ ?_ ?_ ?_); (· (first | assumption | exact hs1.old _)); (· (intro id q hq; have hz := hb1 _ hq; (try (simp only [Z6, Z3, Z2] at q)); omega)); (· assumption); (· assumption)) | ((with_reducible refine specPut_p _ _ _ ?_ ?_); (· exact pO); (· assumption)) | ((with_reducible refine implSync_p _ _ ?_); (· exact hys)) | ((with_reducible refine drawFrameOf_x l2 _ _ ?_ ?_ ?_ ?_); (· (first | assumption | exact hs2.old _)); (· (intro id q hq; have hz := hb2 _ hq; (try (simp only [Z6, Z3, Z2] at q)); omega)); (· assumption); (· assumption)) | ((with_reducible refine implFrame_p _ _ f fb _ ?_ ?_); (· assumption); (· exact pO)) | ((with_reducible refine specFrame_p _ _ f fb _ ?_ ?_); (· assumption); (· exact pO)) | ((with_reducible refine drawTextsIn_x l2 _ _ ?_ ?_ ?_ ?_); (· (first | assumption | exact hs2.old _)); (· (intro id q hq; have hz := hb2 _ hq; (try (simp only [Z6, Z3, Z2] at q)); omega)); (· assumption); (· assumption)) | ((with_reducible refine textsS_l _ _ ?_); (· exact hws)) | ((with_reducible refine drawNewStore_x l2 _ _ ?_ ?_ ?_ ?_); (· (first | assumption | exact hs2.old _)); (· (intro id q hq; have hz := hb2 _ hq; (try (simp only [Z6, Z3, Z2] at q)); omega)); (· assumption); (· assumption)) | (with_reducible exact implNew_p _ _) | (with_reducible exact specNew_p _ _) | ((with_reducible refine drawSyncStore_x l2 _ _ ?_ ?_ ?_ ?_); (· (first | assumption | exact hs2.old _)); (· (intro id q hq; have hz := hb2 _ hq; (try (simp only [Z6, Z3, Z2] at q)); omega)); (· assumption); (· assumption)) | ((with_reducible refine specSync_p _ _ ?_); (· exact hys)) | ((with_reducible refine Z2w (n := 12) ?_); rintro _ _ ⟨b1, F1, rfl, rfl, hsl, b2, hct⟩) | ((with_reducible refine Z2w (n := 28) ?_); rintro _ _ ⟨b1, F1, rfl, rfl, hsl, b2, hct⟩) | ((with_reducible refine Z2w (n := 21) ?_); rintro _ _ ⟨s, t, E1, rfl, rfl, hsu, hla, htz⟩) | ((with_reducible refine Z2w (n := 24) ?_); rintro _ _ ⟨no, x1, E2, rfl, rfl, hxz⟩) | ((with_reducible refine Z2w (n := 27) ?_); rintro _ _ ⟨w, E3, rfl, rfl, hwsu, hwla⟩) | ((with_reducible refine Z2w (n := 29) ?_); rintro _ _ ⟨r, E4, rfl, rfl⟩) | ((with_reducible refine Z2w (n := 32) ?_); rintro _ _ ⟨y, E5, rfl, rfl, hysu, hyla⟩) | refine hkp ?_)
      obtain ⟨f, fb, hf⟩ := frameV_parts no x1
      refine ⟨?_⟩
      have zq0 := @Store.cells_length
      have zq1 := @Store.cells_flat
      have zq2 := @Store.cells_take
      have zq3 := @Store.cells_splice
      have zq4 := @Store.cells_splice2
      have zq5 := @Store.get0
      have zq6 := @Store.get1
      have zq7 := @Store.get2
      have zq8 := @Store.eql
      have zq9 := @Store.neq
      repeat' (first | (with_reducible first | refine aw_parkR 21 ?_) | refine wS ?_ | refine wD ?_ | refine wT ?_ | refine wL ?_ | refine wB ?_ | refine wG ?_ | refine gw_if (fun hb => ?_) (fun hb => ?_) | refine wC ?_ | refine cw_if (fun hb => ?_) (fun hb => ?_) | refine wR ?_ | (refine wK (K := ?_) ?_ ?_; rotate_left 1) | ((with_reducible refine big_ok _ _ _ _ _ _ _ ?_ ?_); (· assumption); (· assumption)) | ((with_reducible refine textsG_l _ _ ?_); (· exact hws)) | ((with_reducible refine sameTexts_ok ?_ ?_ _ _ _ ?_ ?_ ?_ ?_); rotate_left 2; (· (first | (refine Sl.ext (by assumption) ⟨?_, ?_⟩; rotate_left 1; simp only [Z7, Zc, Zd]; rfl) | (refine Sl.ext0 (by assumption) ?_; simp only [Z7, Zc, Zd]))); (· (first | (refine Sl.ext (by assumption) ⟨?_, ?_⟩; rotate_left 1; simp only [Z7, Zc, Zd]; rfl) | (refine Sl.ext0 (by assumption) ?_; simp only [Z7, Zc, Zd]))); (· (have := tiR_len w; omega)); (· (have := tiR_len w; omega))) | ((with_reducible refine implPut_p _ _ _ ?_ ?_); (· exact pO); (· assumption)) | ((with_reducible refine drawPutFrame_x l1 _ _ ?_ ?_ ?_ ?_); (· (first | assumption | exact hs1.old _)); (· (intro id q hq; have hz := hb1 _ hq; (try (simp only [Z6, Z3, Z2] at q)); omega)); (· assumption); (· assumption)) | ((with_reducible refine specPut_p _ _ _ ?_ ?_); (· exact pO); (· assumption)) | ((with_reducible refine implSync_p _ _ ?_); (· exact hys)) | ((with_reducible refine drawFrameOf_x l2 _ _ ?_ ?_ ?_ ?_); (· (first | assumption | exact hs2.old _)); (· (intro id q hq; have hz := hb2 _ hq; (try (simp only [Z6, Z3, Z2] at q)); omega)); (· assumption); (· assumption)) | ((with_reducible refine implFrame_p _ _ f fb _ ?_ ?_); (· assumption); (· exact pO)) | ((with_reducible refine specFrame_p _ _ f fb _ ?_ ?_); (· assumption); (· exact pO)) | ((with_reducible refine drawTextsIn_x l2 _ _ ?_ ?_ ?_ ?_); (· (first | assumption | exact hs2.old _)); (· (intro id q hq; have hz := hb2 _ hq; (try (simp only [Z6, Z3, Z2] at q)); omega)); (· assumption); (· assumption)) | ((with_reducible refine textsS_l _ _ ?_); (· exact hws)) | ((with_reducible refine drawNewStore_x l2 _ _ ?_ ?_ ?_ ?_); (· (first | assumption | exact hs2.old _)); (· (intro id q hq; have hz := hb2 _ hq; (try (simp only [Z6, Z3, Z2] at q)); omega)); (· assumption); (· assumption)) | (with_reducible exact implNew_p _ _) | (with_reducible exact specNew_p _ _) | ((with_reducible refine drawSyncStore_x l2 _ _ ?_ ?_ ?_ ?_); (· (first | assumption | exact hs2.old _)); (· (intro id q hq; have hz := hb2 _ hq; (try (simp only [Z6, Z3, Z2] at q)); omega)); (· assumption); (· assumption)) | ((with_reducible refine specSync_p _ _ ?_); (· exact hys)) | ((with_reducible refine Z2w (n := 12) ?_); rintro _ _ ⟨b1, F1, rfl, rfl, hsl, b2, hct⟩) | ((with_reducible refine Z2w (n := 28) ?_); rintro _ _ ⟨b1, F1, rfl, rfl, hsl, b2, hct⟩) | ((with_reducible refine Z2w (n := 21) ?_); rintro _ _ ⟨s, t, E1, rfl, rfl, hsu, hla, htz⟩) | ((with_reducible refine Z2w (n := 24) ?_); rintro _ _ ⟨no, x1, E2, rfl, rfl, hxz⟩) | ((with_reducible refine Z2w (n := 27) ?_); rintro _ _ ⟨w, E3, rfl, rfl, hwsu, hwla⟩) | ((with_reducible refine Z2w (n := 29) ?_); rintro _ _ ⟨r, E4, rfl, rfl⟩) | ((with_reducible refine Z2w (n := 32) ?_); rintro _ _ ⟨y, E5, rfl, rfl, hysu, hyla⟩) | refine hkp ?_)
      have hws : w.small := ⟨by omega, by omega⟩
      refine ⟨?_⟩
      have zq0 := @Store.cells_length
      have zq1 := @Store.cells_flat
      have zq2 := @Store.cells_take
      have zq3 := @Store.cells_splice
      have zq4 := @Store.cells_splice2
      have zq5 := @Store.get0
      have zq6 := @Store.get1
      have zq7 := @Store.get2
      have zq8 := @Store.eql
      have zq9 := @Store.neq
      repeat' (first | (with_reducible first | refine aw_parkR 27 ?_) | refine wS ?_ | refine wD ?_ | refine wT ?_ | refine wL ?_ | refine wB ?_ | refine wG ?_ | refine gw_if (fun hb => ?_) (fun hb => ?_) | refine wC ?_ | refine cw_if (fun hb => ?_) (fun hb => ?_) | refine wR ?_ | (refine wK (K := ?_) ?_ ?_; rotate_left 1) | ((with_reducible refine big_ok _ _ _ _ _ _ _ ?_ ?_); (· assumption); (· assumption)) | ((with_reducible refine textsG_l _ _ ?_); (· exact hws)) | ((with_reducible refine sameTexts_ok ?_ ?_ _ _ _ ?_ ?_ ?_ ?_); rotate_left 2; (· (first | (refine Sl.ext (by assumption) ⟨?_, ?_⟩; rotate_left 1; simp only [Z7, Zc, Zd]; rfl) | (refine Sl.ext0 (by assumption) ?_; simp only [Z7, Zc, Zd]))); (· (first | (refine Sl.ext (by assumption) ⟨?_, ?_⟩; rotate_left 1; simp only [Z7, Zc, Zd]; rfl) | (refine Sl.ext0 (by assumption) ?_; simp only [Z7, Zc, Zd]))); (· (have := tiR_len w; omega)); (· (have := tiR_len w; omega))) | ((with_reducible refine implPut_p _ _ _ ?_ ?_); (· exact pO); (· assumption)) | ((with_reducible refine drawPutFrame_x l1 _ _ ?_ ?_ ?_ ?_); (· (first | assumption | exact hs1.old _)); (· (intro id q hq; have hz := hb1 _ hq; (try (simp only [Z6, Z3, Z2] at q)); omega)); (· assumption); (· assumption)) | ((with_reducible refine specPut_p _ _ _ ?_ ?_); (· exact pO); (· assumption)) | ((with_reducible refine implSync_p _ _ ?_); (· exact hys)) | ((with_reducible refine drawFrameOf_x l2 _ _ ?_ ?_ ?_ ?_); (· (first | assumption | exact hs2.old _)); (· (intro id q hq; have hz := hb2 _ hq; (try (simp only [Z6, Z3, Z2] at q)); omega)); (· assumption); (· assumption)) | ((with_reducible refine implFrame_p _ _ f fb _ ?_ ?_); (· assumption); (· exact pO)) | ((with_reducible refine specFrame_p _ _ f fb _ ?_ ?_); (· assumption); (· exact pO)) | ((with_reducible refine drawTextsIn_x l2 _ _ ?_ ?_ ?_ ?_); (· (first | assumption | exact hs2.old _)); (· (intro id q hq; have hz := hb2 _ hq; (try (simp only [Z6, Z3, Z2] at q)); omega)); (· assumption); (· assumption)) | ((with_reducible refine textsS_l _ _ ?_); (· exact hws)) | ((with_reducible refine drawNewStore_x l2 _ _ ?_ ?_ ?_ ?_); (· (first | assumption | exact hs2.old _)); (· (intro id q hq; have hz := hb2 _ hq; (try (simp only [Z6, Z3, Z2] at q)); omega)); (· assumption); (· assumption)) | (with_reducible exact implNew_p _ _) | (with_reducible exact specNew_p _ _) | ((with_reducible refine drawSyncStore_x l2 _ _ ?_ ?_ ?_ ?_); (· (first | assumption | exact hs2.old _)); (· (intro id q hq; have hz := hb2 _ hq; (try (simp only [Z6, Z3, Z2] at q)); omega)); (· assumption); (· assumption)) | ((with_reducible refine specSync_p _ _ ?_); (· exact hys)) | ((with_reducible refine Z2w (n := 12) ?_); rintro _ _ ⟨b1, F1, rfl, rfl, hsl, b2, hct⟩) | ((with_reducible refine Z2w (n := 28) ?_); rintro _ _ ⟨b1, F1, rfl, rfl, hsl, b2, hct⟩) | ((with_reducible refine Z2w (n := 21) ?_); rintro _ _ ⟨s, t, E1, rfl, rfl, hsu, hla, htz⟩) | ((with_reducible refine Z2w (n := 24) ?_); rintro _ _ ⟨no, x1, E2, rfl, rfl, hxz⟩) | ((with_reducible refine Z2w (n := 27) ?_); rintro _ _ ⟨w, E3, rfl, rfl, hwsu, hwla⟩) | ((with_reducible refine Z2w (n := 29) ?_); rintro _ _ ⟨r, E4, rfl, rfl⟩) | ((with_reducible refine Z2w (n := 32) ?_); rintro _ _ ⟨y, E5, rfl, rfl, hysu, hyla⟩) | refine hkp ?_)
      have hys : y.small := ⟨by omega, by omega⟩
      refine ⟨?_⟩
      have zq0 := @Store.cells_length
      have zq1 := @Store.cells_flat
      have zq2 := @Store.cells_take
      have zq3 := @Store.cells_splice
      have zq4 := @Store.cells_splice2
      have zq5 := @Store.get0
      have zq6 := @Store.get1
      have zq7 := @Store.get2
      have zq8 := @Store.eql
      have zq9 := @Store.neq
      repeat' (first | refine wS ?_ | refine wD ?_ | refine wT ?_ | refine wL ?_ | refine wB ?_ | refine wG ?_ | refine gw_if (fun hb => ?_) (fun hb => ?_) | refine wC ?_ | refine cw_if (fun hb => ?_) (fun hb => ?_) | refine wR ?_ | (refine wK (K := ?_) ?_ ?_; rotate_left 1) | ((with_reducible refine big_ok _ _ _ _ _ _ _ ?_ ?_); (· assumption); (· assumption)) | ((with_reducible refine textsG_l _ _ ?_); (· exact hws)) | ((with_reducible refine sameTexts_ok ?_ ?_ _ _ _ ?_ ?_ ?_ ?_); rotate_left 2; (· (first | (refine Sl.ext (by assumption) ⟨?_, ?_⟩; rotate_left 1; simp only [Z7, Zc, Zd]; rfl) | (refine Sl.ext0 (by assumption) ?_; simp only [Z7, Zc, Zd]))); (· (first | (refine Sl.ext (by assumption) ⟨?_, ?_⟩; rotate_left 1; simp only [Z7, Zc, Zd]; rfl) | (refine Sl.ext0 (by assumption) ?_; simp only [Z7, Zc, Zd]))); (· (have := tiR_len w; omega)); (· (have := tiR_len w; omega))) | ((with_reducible refine implPut_p _ _ _ ?_ ?_); (· exact pO); (· assumption)) | ((with_reducible refine drawPutFrame_x l1 _ _ ?_ ?_ ?_ ?_); (· (first | assumption | exact hs1.old _)); (· (intro id q hq; have hz := hb1 _ hq; (try (simp only [Z6, Z3, Z2] at q)); omega)); (· assumption); (· assumption)) | ((with_reducible refine specPut_p _ _ _ ?_ ?_); (· exact pO); (· assumption)) | ((with_reducible refine implSync_p _ _ ?_); (· exact hys)) | ((with_reducible refine drawFrameOf_x l2 _ _ ?_ ?_ ?_ ?_); (· (first | assumption | exact hs2.old _)); (· (intro id q hq; have hz := hb2 _ hq; (try (simp only [Z6, Z3, Z2] at q)); omega)); (· assumption); (· assumption)) | ((with_reducible refine implFrame_p _ _ f fb _ ?_ ?_); (· assumption); (· exact pO)) | ((with_reducible refine specFrame_p _ _ f fb _ ?_ ?_); (· assumption); (· exact pO)) | ((with_reducible refine drawTextsIn_x l2 _ _ ?_ ?_ ?_ ?_); (· (first | assumption | exact hs2.old _)); (· (intro id q hq; have hz := hb2 _ hq; (try (simp only [Z6, Z3, Z2] at q)); omega)); (· assumption); (· assumption)) | ((with_reducible refine textsS_l _ _ ?_); (· exact hws)) | ((with_reducible refine drawNewStore_x l2 _ _ ?_ ?_ ?_ ?_); (· (first | assumption | exact hs2.old _)); (· (intro id q hq; have hz := hb2 _ hq; (try (simp only [Z6, Z3, Z2] at q)); omega)); (· assumption); (· assumption)) | (with_reducible exact implNew_p _ _) | (with_reducible exact specNew_p _ _) | ((with_reducible refine drawSyncStore_x l2 _ _ ?_ ?_ ?_ ?_); (· (first | assumption | exact hs2.old _)); (· (intro id q hq; have hz := hb2 _ hq; (try (simp only [Z6, Z3, Z2] at q)); omega)); (· assumption); (· assumption)) | ((with_reducible refine specSync_p _ _ ?_); (· exact hys)) | ((with_reducible refine Z2w (n := 12) ?_); rintro _ _ ⟨b1, F1, rfl, rfl, hsl, b2, hct⟩) | ((with_reducible refine Z2w (n := 28) ?_); rintro _ _ ⟨b1, F1, rfl, rfl, hsl, b2, hct⟩) | ((with_reducible refine Z2w (n := 21) ?_); rintro _ _ ⟨s, t, E1, rfl, rfl, hsu, hla, htz⟩) | ((with_reducible refine Z2w (n := 24) ?_); rintro _ _ ⟨no, x1, E2, rfl, rfl, hxz⟩) | ((with_reducible refine Z2w (n := 27) ?_); rintro _ _ ⟨w, E3, rfl, rfl, hwsu, hwla⟩) | ((with_reducible refine Z2w (n := 29) ?_); rintro _ _ ⟨r, E4, rfl, rfl⟩) | ((with_reducible refine Z2w (n := 32) ?_); rintro _ _ ⟨y, E5, rfl, rfl, hysu, hyla⟩) | refine hkp ?_)
      rfl
  · refine ⟨?_⟩
    have zq0 := @Store.cells_length
    have zq1 := @Store.cells_flat
    have zq2 := @Store.cells_take
    have zq3 := @Store.cells_splice
    have zq4 := @Store.cells_splice2
    have zq5 := @Store.get0
    have zq6 := @Store.get1
    have zq7 := @Store.get2
    have zq8 := @Store.eql
    have zq9 := @Store.neq
    repeat' (first | (with_reducible first | refine aw_parkR 17 ?_) | refine wS ?_ | refine wD ?_ | refine wT ?_ | refine wL ?_ | refine wB ?_ | refine wG ?_ | refine gw_if (fun hb => ?_) (fun hb => ?_) | refine wC ?_ | refine cw_if (fun hb => ?_) (fun hb => ?_) | refine wR ?_ | (refine wK (K := ?_) ?_ ?_; rotate_left 1) | ((with_reducible refine big_ok _ _ _ _ _ _ _ ?_ ?_); (· assumption); (· assumption)) | ((with_reducible refine textsG_l _ _ ?_); (· exact hws)) | ((with_reducible refine sameTexts_ok ?_ ?_ _ _ _ ?_ ?_ ?_ ?_); rotate_left 2; (· (first | (refine Sl.ext (by assumption) ⟨?_, ?_⟩; rotate_left 1; simp only [Z7, Zc, Zd]; rfl) | (refine Sl.ext0 (by assumption) ?_; simp only [Z7, Zc, Zd]))); (· (first | (refine Sl.ext (by assumption) ⟨?_, ?_⟩; rotate_left 1; simp only [Z7, Zc, Zd]; rfl) | (refine Sl.ext0 (by assumption) ?_; simp only [Z7, Zc, Zd]))); (· (have := tiR_len w; omega)); (· (have := tiR_len w; omega))) | ((with_reducible refine implPut_p _ _ _ ?_ ?_); (· exact pO); (· assumption)) | ((with_reducible refine drawPutFrame_x l1 _ _ ?_ ?_ ?_ ?_); (· (first | assumption | exact hs1.old _)); (· (intro id q hq; have hz := hb1 _ hq; (try (simp only [Z6, Z3, Z2] at q)); omega)); (· assumption); (· assumption)) | ((with_reducible refine specPut_p _ _ _ ?_ ?_); (· exact pO); (· assumption)) | ((with_reducible refine implSync_p _ _ ?_); (· exact hys)) | ((with_reducible refine drawFrameOf_x l2 _ _ ?_ ?_ ?_ ?_); (· (first | assumption | exact hs2.old _)); (· (intro id q hq; have hz := hb2 _ hq; (try (simp only [Z6, Z3, Z2] at q)); omega)); (· assumption); (· assumption)) | ((with_reducible refine implFrame_p _ _ f fb _ ?_ ?_); (· assumption); (· exact pO)) | ((with_reducible refine specFrame_p _ _ f fb _ ?_ ?_); (· assumption); (· exact pO)) | ((with_reducible refine drawTextsIn_x l2 _ _ ?_ ?_ ?_ ?_); (· (first | assumption | exact hs2.old _)); (· (intro id q hq; have hz := hb2 _ hq; (try (simp only [Z6, Z3, Z2] at q)); omega)); (· assumption); (· assumption)) | ((with_reducible refine textsS_l _ _ ?_); (· exact hws)) | ((with_reducible refine drawNewStore_x l2 _ _ ?_ ?_ ?_ ?_); (· (first | assumption | exact hs2.old _)); (· (intro id q hq; have hz := hb2 _ hq; (try (simp only [Z6, Z3, Z2] at q)); omega)); (· assumption); (· assumption)) | (with_reducible exact implNew_p _ _) | (with_reducible exact specNew_p _ _) | ((with_reducible refine drawSyncStore_x l2 _ _ ?_ ?_ ?_ ?_); (· (first | assumption | exact hs2.old _)); (· (intro id q hq; have hz := hb2 _ hq; (try (simp only [Z6, Z3, Z2] at q)); omega)); (· assumption); (· assumption)) | ((with_reducible refine specSync_p _ _ ?_); (· exact hys)) | ((with_reducible refine Z2w (n := 12) ?_); rintro _ _ ⟨b1, F1, rfl, rfl, hsl, b2, hct⟩) | ((with_reducible refine Z2w (n := 28) ?_); rintro _ _ ⟨b1, F1, rfl, rfl, hsl, b2, hct⟩) | ((with_reducible refine Z2w (n := 21) ?_); rintro _ _ ⟨s, t, E1, rfl, rfl, hsu, hla, htz⟩) | ((with_reducible refine Z2w (n := 24) ?_); rintro _ _ ⟨no, x1, E2, rfl, rfl, hxz⟩) | ((with_reducible refine Z2w (n := 27) ?_); rintro _ _ ⟨w, E3, rfl, rfl, hwsu, hwla⟩) | ((with_reducible refine Z2w (n := 29) ?_); rintro _ _ ⟨r, E4, rfl, rfl⟩) | ((with_reducible refine Z2w (n := 32) ?_); rintro _ _ ⟨y, E5, rfl, rfl, hysu, hyla⟩) | refine hkp ?_)
    clear hsm hk
    refine ⟨?_⟩
    refine aw_forgetM [1] ?_
    intro T X hR
    simp only [Z37, Z38, Z39, implies_true, and_true, stp, ev, ZB, reduceIte, Nat.reduceEqDiff, Z2x, Z13, Zy] at hR
    have zq0 := @Store.cells_length
    have zq1 := @Store.cells_flat
    have zq2 := @Store.cells_take
    have zq3 := @Store.cells_splice
    have zq4 := @Store.cells_splice2
    have zq5 := @Store.get0
    have zq6 := @Store.get1
    have zq7 := @Store.get2
    have zq8 := @Store.eql
    have zq9 := @Store.neq
    repeat' (first | (with_reducible first | refine aw_parkR 18 ?_) | refine wS ?_ | refine wD ?_ | refine wT ?_ | refine wL ?_ | refine wB ?_ | refine wG ?_ | refine gw_if (fun hb => ?_) (fun hb => ?_) | refine wC ?_ | refine cw_if (fun hb => ?_) (fun hb => ?_) | refine wR ?_ | (refine wK (K := ?_) ?_ ?_; rotate_left 1) | ((with_reducible refine big_ok _ _ _ _ _ _ _ ?_ ?_); (· assumption); (· assumption)) | ((with_reducible refine textsG_l _ _ ?_); (· exact hws)) | ((with_reducible refine sameTexts_ok ?_ ?_ _ _ _ ?_ ?_ ?_ ?_); rotate_left 2; (· (first | (refine Sl.ext (by assumption) ⟨?_, ?_⟩; rotate_left 1; simp only [Z7, Zc, Zd]; rfl) | (refine Sl.ext0 (by assumption) ?_; simp only [Z7, Zc, Zd]))); (· (first | (refine Sl.ext (by assumption) ⟨?_, ?_⟩; rotate_left 1; simp only [Z7, Zc, Zd]; rfl) | (refine Sl.ext0 (by assumption) ?_; simp only [Z7, Zc, Zd]))); (· (have := tiR_len w; omega)); (· (have := tiR_len w; omega))) | ((with_reducible refine implPut_p _ _ _ ?_ ?_); (· exact pO); (· assumption)) | ((with_reducible refine drawPutFrame_x l1 _ _ ?_ ?_ ?_ ?_); (· (first | assumption | exact hs1.old _)); (· (intro id q hq; have hz := hb1 _ hq; (try (simp only [Z6, Z3, Z2] at q)); omega)); (· assumption); (· assumption)) | ((with_reducible refine specPut_p _ _ _ ?_ ?_); (· exact pO); (· assumption)) | ((with_reducible refine implSync_p _ _ ?_); (· exact hys)) | ((with_reducible refine drawFrameOf_x l2 _ _ ?_ ?_ ?_ ?_); (· (first | assumption | exact hs2.old _)); (· (intro id q hq; have hz := hb2 _ hq; (try (simp only [Z6, Z3, Z2] at q)); omega)); (· assumption); (· assumption)) | ((with_reducible refine implFrame_p _ _ f fb _ ?_ ?_); (· assumption); (· exact pO)) | ((with_reducible refine specFrame_p _ _ f fb _ ?_ ?_); (· assumption); (· exact pO)) | ((with_reducible refine drawTextsIn_x l2 _ _ ?_ ?_ ?_ ?_); (· (first | assumption | exact hs2.old _)); (· (intro id q hq; have hz := hb2 _ hq; (try (simp only [Z6, Z3, Z2] at q)); omega)); (· assumption); (· assumption)) | ((with_reducible refine textsS_l _ _ ?_); (· exact hws)) | ((with_reducible refine drawNewStore_x l2 _ _ ?_ ?_ ?_ ?_); (· (first | assumption | exact hs2.old _)); (· (intro id q hq; have hz := hb2 _ hq; (try (simp only [Z6, Z3, Z2] at q)); omega)); (· assumption); (· assumption)) | (with_reducible exact implNew_p _ _) | (with_reducible exact specNew_p _ _) | ((with_reducible refine drawSyncStore_x l2 _ _ ?_ ?_ ?_ ?_); (· (first | assumption | exact hs2.old _)); (· (intro id q hq; have hz := hb2 _ hq; (try (simp only [Z6, Z3, Z2] at q)); omega)); (· assumption); (· assumption)) | ((with_reducible refine specSync_p _ _ ?_); (· exact hys)) | ((with_reducible refine Z2w (n := 12) ?_); rintro _ _ ⟨b1, F1, rfl, rfl, hsl, b2, hct⟩) | ((with_reducible refine Z2w (n := 28) ?_); rintro _ _ ⟨b1, F1, rfl, rfl, hsl, b2, hct⟩) | ((with_reducible refine Z2w (n := 21) ?_); rintro _ _ ⟨s, t, E1, rfl, rfl, hsu, hla, htz⟩) | ((with_reducible refine Z2w (n := 24) ?_); rintro _ _ ⟨no, x1, E2, rfl, rfl, hxz⟩) | ((with_reducible refine Z2w (n := 27) ?_); rintro _ _ ⟨w, E3, rfl, rfl, hwsu, hwla⟩) | ((with_reducible refine Z2w (n := 29) ?_); rintro _ _ ⟨r, E4, rfl, rfl⟩) | ((with_reducible refine Z2w (n := 32) ?_); rintro _ _ ⟨y, E5, rfl, rfl, hysu, hyla⟩) | refine hkp ?_)
    obtain ⟨f, fb, hf⟩ := frameV_parts no x1
    refine ⟨?_⟩
    have zq0 := @Store.cells_length
    have zq1 := @Store.cells_flat
    have zq2 := @Store.cells_take
    have zq3 := @Store.cells_splice
    have zq4 := @Store.cells_splice2
    have zq5 := @Store.get0
    have zq6 := @Store.get1
    have zq7 := @Store.get2
    have zq8 := @Store.eql
    have zq9 := @Store.neq
    repeat' (first | (with_reducible first | refine aw_parkR 21 ?_) | refine wS ?_ | refine wD ?_ | refine wT ?_ | refine wL ?_ | refine wB ?_ | refine wG ?_ | refine gw_if (fun hb => ?_) (fun hb => ?_) | refine wC ?_ | refine cw_if (fun hb => ?_) (fun hb => ?_) | refine wR ?_ | (refine wK (K := ?_) ?_ ?_; rotate_left 1) | ((with_reducible refine big_ok _ _ _ _ _ _ _ ?_ ?_); (· assumption); (· assumption)) | ((with_reducible refine textsG_l _ _ ?_); (· exact hws)) | ((with_reducible refine sameTexts_ok ?_ ?_ _ _ _ ?_ ?_ ?_ ?_); rotate_left 2; (· (first | (refine Sl.ext (by assumption) ⟨?_, ?_⟩; rotate_left 1; simp only [Z7, Zc, Zd]; rfl) | (refine Sl.ext0 (by assumption) ?_; simp only [Z7, Zc, Zd]))); (· (first | (refine Sl.ext (by assumption) ⟨?_, ?_⟩; rotate_left 1; simp only [Z7, Zc, Zd]; rfl) | (refine Sl.ext0 (by assumption) ?_; simp only [Z7, Zc, Zd]))); (· (have := tiR_len w; omega)); (· (have := tiR_len w; omega))) | ((with_reducible refine implPut_p _ _ _ ?_ ?_); (· exact pO); (· assumption)) | ((with_reducible refine drawPutFrame_x l1 _ _ ?_ ?_ ?_ ?_); (· (first | assumption | exact hs1.old _)); (· (intro id q hq; have hz := hb1 _ hq; (try (simp only [Z6, Z3, Z2] at q)); omega)); (· assumption); (· assumption)) | ((with_reducible refine specPut_p _ _ _ ?_ ?_); (· exact pO); (· assumption)) | ((with_reducible refine implSync_p _ _ ?_); (· exact hys)) | ((with_reducible refine drawFrameOf_x l2 _ _ ?_ ?_ ?_ ?_); (· (first | assumption | exact hs2.old _)); (· (intro id q hq; have hz := hb2 _ hq; (try (simp only [Z6, Z3, Z2] at q)); omega)); (· assumption); (· assumption)) | ((with_reducible refine implFrame_p _ _ f fb _ ?_ ?_); (· assumption); (· exact pO)) | ((with_reducible refine specFrame_p _ _ f fb _ ?_ ?_); (· assumption); (· exact pO)) | ((with_reducible refine drawTextsIn_x l2 _ _ ?_ ?_ ?_ ?_); (· (first | assumption | exact hs2.old _)); (· (intro id q hq; have hz := hb2 _ hq; (try (simp only [Z6, Z3, Z2] at q)); omega)); (· assumption); (· assumption)) | ((with_reducible refine textsS_l _ _ ?_); (· exact hws)) | ((with_reducible refine drawNewStore_x l2 _ _ ?_ ?_ ?_ ?_); (· (first | assumption | exact hs2.old _)); (· (intro id q hq; have hz := hb2 _ hq; (try (simp only [Z6, Z3, Z2] at q)); omega)); (· assumption); (· assumption)) | (with_reducible exact implNew_p _ _) | (with_reducible exact specNew_p _ _) | ((with_reducible refine drawSyncStore_x l2 _ _ ?_ ?_ ?_ ?_); (· (first | assumption | exact hs2.old _)); (· (intro id q hq; have hz := hb2 _ hq; (try (simp only [Z6, Z3, Z2] at q)); omega)); (· assumption); (· assumption)) | ((with_reducible refine specSync_p _ _ ?_); (· exact hys)) | ((with_reducible refine Z2w (n := 12) ?_); rintro _ _ ⟨b1, F1, rfl, rfl, hsl, b2, hct⟩) | ((with_reducible refine Z2w (n := 28) ?_); rintro _ _ ⟨b1, F1, rfl, rfl, hsl, b2, hct⟩) | ((with_reducible refine Z2w (n := 21) ?_); rintro _ _ ⟨s, t, E1, rfl, rfl, hsu, hla, htz⟩) | ((with_reducible refine Z2w (n := 24) ?_); rintro _ _ ⟨no, x1, E2, rfl, rfl, hxz⟩) | ((with_reducible refine Z2w (n := 27) ?_); rintro _ _ ⟨w, E3, rfl, rfl, hwsu, hwla⟩) | ((with_reducible refine Z2w (n := 29) ?_); rintro _ _ ⟨r, E4, rfl, rfl⟩) | ((with_reducible refine Z2w (n := 32) ?_); rintro _ _ ⟨y, E5, rfl, rfl, hysu, hyla⟩) | refine hkp ?_)
    have hws : w.small := ⟨by omega, by omega⟩
    refine ⟨?_⟩
    have zq0 := @Store.cells_length
    have zq1 := @Store.cells_flat
    have zq2 := @Store.cells_take
    have zq3 := @Store.cells_splice
    have zq4 := @Store.cells_splice2
    have zq5 := @Store.get0
    have zq6 := @Store.get1
    have zq7 := @Store.get2
    have zq8 := @Store.eql
    have zq9 := @Store.neq
    repeat' (first | (with_reducible first | refine aw_parkR 27 ?_) | refine wS ?_ | refine wD ?_ | refine wT ?_ | refine wL ?_ | refine wB ?_ | refine wG ?_ | refine gw_if (fun hb => ?_) (fun hb => ?_) | refine wC ?_ | refine cw_if (fun hb => ?_) (fun hb => ?_) | refine wR ?_ | (refine wK (K := ?_) ?_ ?_; rotate_left 1) | ((with_reducible refine big_ok _ _ _ _ _ _ _ ?_ ?_); (· assumption); (· assumption)) | ((with_reducible refine textsG_l _ _ ?_); (· exact hws)) | ((with_reducible refine sameTexts_ok ?_ ?_ _ _ _ ?_ ?_ ?_ ?_); rotate_left 2; (· (first | (refine Sl.ext (by assumption) ⟨?_, ?_⟩; rotate_left 1; simp only [Z7, Zc, Zd]; rfl) | (refine Sl.ext0 (by assumption) ?_; simp only [Z7, Zc, Zd]))); (· (first | (refine Sl.ext (by assumption) ⟨?_, ?_⟩; rotate_left 1; simp only [Z7, Zc, Zd]; rfl) | (refine Sl.ext0 (by assumption) ?_; simp only [Z7, Zc, Zd]))); (· (have := tiR_len w; omega)); (· (have := tiR_len w; omega))) | ((with_reducible refine implPut_p _ _ _ ?_ ?_); (· exact pO); (· assumption)) | ((with_reducible refine drawPutFrame_x l1 _ _ ?_ ?_ ?_ ?_); (· (first | assumption | exact hs1.old _)); (· (intro id q hq; have hz := hb1 _ hq; (try (simp only [Z6, Z3, Z2] at q)); omega)); (· assumption); (· assumption)) | ((with_reducible refine specPut_p _ _ _ ?_ ?_); (· exact pO); (· assumption)) | ((with_reducible refine implSync_p _ _ ?_); (· exact hys)) | ((with_reducible refine drawFrameOf_x l2 _ _ ?_ ?_ ?_ ?_); (· (first | assumption | exact hs2.old _)); (· (intro id q hq; have hz := hb2 _ hq; (try (simp only [Z6, Z3, Z2] at q)); omega)); (· assumption); (· assumption)) | ((with_reducible refine implFrame_p _ _ f fb _ ?_ ?_); (· assumption); (· exact pO)) | ((with_reducible refine specFrame_p _ _ f fb _ ?_ ?_); (· assumption); (· exact pO)) | ((with_reducible refine drawTextsIn_x l2 _ _ ?_ ?_ ?_ ?_); (· (first | assumption | exact hs2.old _)); (· (intro id q hq; have hz := hb2 _ hq; (try (simp only [Z6, Z3, Z2] at q)); omega)); (· assumption); (· assumption)) | ((with_reducible refine textsS_l _ _ ?_); (· exact hws)) | ((with_reducible refine drawNewStore_x l2 _ _ ?_ ?_ ?_ ?_); (· (first | assumption | exact hs2.old _)); (· (intro id q hq; have hz := hb2 _ hq; (try (simp only [Z6, Z3, Z2] at q)); omega)); (· assumption); (· assumption)) | (with_reducible exact implNew_p _ _) | (with_reducible exact specNew_p _ _) | ((with_reducible refine drawSyncStore_x l2 _ _ ?_ ?_ ?_ ?_); (· (first | assumption | exact hs2.old _)); (· (intro id q hq; have hz := hb2 _ hq; (try (simp only [Z6, Z3, Z2] at q)); omega)); (· assumption); (· assumption)) | ((with_reducible refine specSync_p _ _ ?_); (· exact hys)) | ((with_reducible refine Z2w (n := 12) ?_); rintro _ _ ⟨b1, F1, rfl, rfl, hsl, b2, hct⟩) | ((with_reducible refine Z2w (n := 28) ?_); rintro _ _ ⟨b1, F1, rfl, rfl, hsl, b2, hct⟩) | ((with_reducible refine Z2w (n := 21) ?_); rintro _ _ ⟨s, t, E1, rfl, rfl, hsu, hla, htz⟩) | ((with_reducible refine Z2w (n := 24) ?_); rintro _ _ ⟨no, x1, E2, rfl, rfl, hxz⟩) | ((with_reducible refine Z2w (n := 27) ?_); rintro _ _ ⟨w, E3, rfl, rfl, hwsu, hwla⟩) | ((with_reducible refine Z2w (n := 29) ?_); rintro _ _ ⟨r, E4, rfl, rfl⟩) | ((with_reducible refine Z2w (n := 32) ?_); rintro _ _ ⟨y, E5, rfl, rfl, hysu, hyla⟩) | refine hkp ?_)
    have hys : y.small := ⟨by omega, by omega⟩
    refine ⟨?_⟩
    have zq0 := @Store.cells_length
    have zq1 := @Store.cells_flat
    have zq2 := @Store.cells_take
    have zq3 := @Store.cells_splice
    have zq4 := @Store.cells_splice2
    have zq5 := @Store.get0
    have zq6 := @Store.get1
    have zq7 := @Store.get2
    have zq8 := @Store.eql
    have zq9 := @Store.neq
    repeat' (first | refine wS ?_ | refine wD ?_ | refine wT ?_ | refine wL ?_ | refine wB ?_ | refine wG ?_ | refine gw_if (fun hb => ?_) (fun hb => ?_) | refine wC ?_ | refine cw_if (fun hb => ?_) (fun hb => ?_) | refine wR ?_ | (refine wK (K := ?_) ?_ ?_; rotate_left 1) | ((with_reducible refine big_ok _ _ _ _ _ _ _ ?_ ?_); (· assumption); (· assumption)) | ((with_reducible refine textsG_l _ _ ?_); (· exact hws)) | ((with_reducible refine sameTexts_ok ?_ ?_ _ _ _ ?_ ?_ ?_ ?_); rotate_left 2; (· (first | (refine Sl.ext (by assumption) ⟨?_, ?_⟩; rotate_left 1; simp only [Z7, Zc, Zd]; rfl) | (refine Sl.ext0 (by assumption) ?_; simp only [Z7, Zc, Zd]))); (· (first | (refine Sl.ext (by assumption) ⟨?_, ?_⟩; rotate_left 1; simp only [Z7, Zc, Zd]; rfl) | (refine Sl.ext0 (by assumption) ?_; simp only [Z7, Zc, Zd]))); (· (have := tiR_len w; omega)); (· (have := tiR_len w; omega))) | ((with_reducible refine implPut_p _ _ _ ?_ ?_); (· exact pO); (· assumption)) | ((with_reducible refine drawPutFrame_x l1 _ _ ?_ ?_ ?_ ?_); (· (first | assumption | exact hs1.old _)); (· (intro id q hq; have hz := hb1 _ hq; (try (simp only [Z6, Z3, Z2] at q)); omega)); (· assumption); (· assumption)) | ((with_reducible refine specPut_p _ _ _ ?_ ?_); (· exact pO); (· assumption)) | ((with_reducible refine implSync_p _ _ ?_); (· exact hys)) | ((with_reducible refine drawFrameOf_x l2 _ _ ?_ ?_ ?_ ?_); (· (first | assumption | exact hs2.old _)); (· (intro id q hq; have hz := hb2 _ hq; (try (simp only [Z6, Z3, Z2] at q)); omega)); (· assumption); (· assumption)) | ((with_reducible refine implFrame_p _ _ f fb _ ?_ ?_); (· assumption); (· exact pO)) | ((with_reducible refine specFrame_p _ _ f fb _ ?_ ?_); (· assumption); (· exact pO)) | ((with_reducible refine drawTextsIn_x l2 _ _ ?_ ?_ ?_ ?_); (· (first | assumption | exact hs2.old _)); (· (intro id q hq; have hz := hb2 _ hq; (try (simp only [Z6, Z3, Z2] at q)); omega)); (· assumption); (· assumption)) | ((with_reducible refine textsS_l _ _ ?_); (· exact hws)) | ((with_reducible refine drawNewStore_x l2 _ _ ?_ ?_ ?_ ?_); (· (first | assumption | exact hs2.old _)); (· (intro id q hq; have hz := hb2 _ hq; (try (simp only [Z6, Z3, Z2] at q)); omega)); (· assumption); (· assumption)) | (with_reducible exact implNew_p _ _) | (with_reducible exact specNew_p _ _) | ((with_reducible refine drawSyncStore_x l2 _ _ ?_ ?_ ?_ ?_); (· (first | assumption | exact hs2.old _)); (· (intro id q hq; have hz := hb2 _ hq; (try (simp only [Z6, Z3, Z2] at q)); omega)); (· assumption); (· assumption)) | ((with_reducible refine specSync_p _ _ ?_); (· exact hys)) | ((with_reducible refine Z2w (n := 12) ?_); rintro _ _ ⟨b1, F1, rfl, rfl, hsl, b2, hct⟩) | ((with_reducible refine Z2w (n := 28) ?_); rintro _ _ ⟨b1, F1, rfl, rfl, hsl, b2, hct⟩) | ((with_reducible refine Z2w (n := 21) ?_); rintro _ _ ⟨s, t, E1, rfl, rfl, hsu, hla, htz⟩) | ((with_reducible refine Z2w (n := 24) ?_); rintro _ _ ⟨no, x1, E2, rfl, rfl, hxz⟩) | ((with_reducible refine Z2w (n := 27) ?_); rintro _ _ ⟨w, E3, rfl, rfl, hwsu, hwla⟩) | ((with_reducible refine Z2w (n := 29) ?_); rintro _ _ ⟨r, E4, rfl, rfl⟩) | ((with_reducible refine Z2w (n := 32) ?_); rintro _ _ ⟨y, E5, rfl, rfl, hysu, hyla⟩) | refine hkp ?_)
    rfl
end Go.Proofs.YtmjhfklmlcnofaaDoor.Am
