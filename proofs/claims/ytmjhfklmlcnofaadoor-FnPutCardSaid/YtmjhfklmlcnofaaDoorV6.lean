/- Walks of the laws' helpers: texts alike, codes too long. Conditions: none. -/
import Derived.Test.YtmjhfklmlcnofaaDoorK3
import Derived.Test.YtmjhfklmlcnofaaDoorWk
import Derived.Test.YtmjhfklmlcnofaaDoorV3
import Derived.Test.YtmjhfklmlcnofaaDoorV4
namespace Go.Proofs.YtmjhfklmlcnofaaDoor.Am
open Go Go.Proofs
set_option linter.unusedVariables false
set_option linter.unusedSimpArgs false
set_option maxRecDepth 100000
set_option maxHeartbeats 8000000
theorem sameTexts_ok (l1 l2 : List ByteArray) (v1 v2 : Value) (h : Heap) (hs1 : Sl h v1 1 (trs l1)) (hs2 : Sl h v2 1 (trs l2)) (hl1 : l1.length < 9223372036854775807) (hl2 : l2.length < 9223372036854775807) :
    ACalls Tryd.prog dE 15 #[v1, v2] h fun v h' => v = .bool (decide (l1 = l2)) ∧ h' = h := by
  obtain ⟨b1, c1, rfl, hc1, hrow1⟩ := hs1
  obtain ⟨b2, c2, rfl, hc2, hrow2⟩ := hs2
  simp only [trs, Zv] at hc1 hc2 ⊢
  refine Z36 Tryd.func15 rfl Tryd.ntmps15 (by simp) (by dsimp only [Tryd.f15]) ?_
  repeat' (first | refine wS ?_ | refine wD ?_ | refine wT ?_ | refine wL ?_ | refine wB ?_ | refine wC ?_ | refine cw_if (fun hb => ?_) (fun hb => ?_) | refine wR ?_ | refine wV (ms := [0, 0, 3, 7, 0, 0, 48, 112, 255]) ?_ | refine wX ?_)
  · simp only [Bool.not_eq_true', decide_eq_false_iff_not] at hb
    refine ⟨?_, rfl⟩
    have : l1 ≠ l2 := fun q => hb (by rw [q])
    simp only [oneOf, this, Z17]
  have hle : l1.length = l2.length := by
    simp only [Bool.not_eq_false', decide_eq_true_eq] at hb
    omega
  clear hb
  refine aw_for [0, 1, 12] (fun k T h' => h' = h ∧ T 13 = .int .i64 k ∧ l1.take k = l2.take k) l1.length (k0 := 0) (Nat.zero_le _) ⟨rfl, rfl, rfl⟩ ?_
  rintro k T h' hk hR ⟨rfl, h11, hall⟩
  simp only [Z37, Z38, Z39, implies_true, and_true, stp, ev, ZB, reduceIte, Nat.reduceEqDiff, Z2x, Z13, Zy] at hR
  rcases Nat.lt_or_ge k l1.length with hkn | hkn
  · have h1 : (k : Int) < l1.length := by omega
    have h1' : (k : Int) < l2.length := by omega
    obtain ⟨a1, rfl, hl1⟩ := Sl.row hrow1 (k := k) (by simpa [trs] using hkn)
    obtain ⟨a2, rfl, hl2⟩ := Sl.row hrow2 (k := k) (by simpa [trs] using (by omega : k < l2.length))
    simp only [trs, List.getElem_map] at hl1 hl2
    have hg1 := getC_of_load hl1
    have hg2 := getC_of_load hl2
    repeat' (first | refine wS ?_ | refine wD ?_ | refine wT ?_ | refine wL ?_ | refine wB ?_ | refine wC ?_ | refine cw_if (fun hb => ?_) (fun hb => ?_) | refine wR ?_ | refine wV (ms := [0, 0, 3, 7, 0, 0, 48, 112, 255]) ?_ | refine wX ?_)
    · refine ⟨?_, rfl⟩
      have hne := take_ne hkn (by omega : k < l2.length) (by simpa using hb)
      simp only [oneOf, hne, Z17]
    refine ⟨by first | assumption | omega, ?_, ?_⟩
    · simp only [Z37, Z38, Z39, implies_true, and_true, ZB, stp, ev, reduceIte, Nat.reduceEqDiff, Z2x, Z13, Zy, *]
    refine ⟨rfl, ?_, take_snoc hkn (by omega : k < l2.length) hall (by simpa using hb)⟩
    simp only [Zb, reduceIte, Nat.reduceEqDiff]
    rw [wrap_id (by omega)]; rfl
  · have h1 : ¬ (k : Int) < l1.length := by omega
    have h1' : ¬ (k : Int) < l2.length := by omega
    repeat' (first | refine wS ?_ | refine wD ?_ | refine wT ?_ | refine wL ?_ | refine wB ?_ | refine wC ?_ | refine cw_if (fun hb => ?_) (fun hb => ?_) | refine wR ?_ | refine wV (ms := [0, 0, 3, 7, 0, 0, 48, 112, 255]) ?_ | refine wX ?_)
    refine ⟨?_, rfl⟩
    rw [List.take_of_length_le hkn, List.take_of_length_le (by omega)] at hall
    simp only [oneOf, hall, Z1g]
theorem big_ok (n1 n2 c1 c2 : Nat) (b1 b2 : Option Addr) (h : Heap) (h1 : n1 ≤ 9223372036854775807) (h2 : n2 ≤ 9223372036854775807) : ACalls Tryd.prog dE 6 #[.slice b1 n1 c1, .slice b2 n2 c2] h
    fun v h' => v = .bool (decide (1048576 < (n1 : Int)) || decide (1048576 - (n1 : Int) < n2)) ∧ h' = h := by
  by_cases hq : (1048576 : Int) < n1
  · refine Z36 Tryd.func6 rfl Tryd.ntmps6 (by simp) (by dsimp only [Tryd.f6]) ?_
    repeat' (first | refine wS ?_ | refine wD ?_ | refine wT ?_ | refine wL ?_ | refine wB ?_ | refine wG ?_ | refine gw_if (fun hb => ?_) (fun hb => ?_) | refine wC ?_ | refine cw_if (fun hb => ?_) (fun hb => ?_) | refine wR ?_)
    refine ⟨?_, rfl⟩
    simp [oneOf, hq]
  · have hw : IntKind.i64.wrap (1048576 - (n1 : Int)) = 1048576 - (n1 : Int) := wrap_id (by omega)
    refine Z36 Tryd.func6 rfl Tryd.ntmps6 (by simp) (by dsimp only [Tryd.f6]) ?_
    repeat' (first | refine wS ?_ | refine wD ?_ | refine wT ?_ | refine wL ?_ | refine wB ?_ | refine wG ?_ | refine gw_if (fun hb => ?_) (fun hb => ?_) | refine wC ?_ | refine cw_if (fun hb => ?_) (fun hb => ?_) | refine wR ?_)
    refine ⟨?_, rfl⟩
    simp [oneOf, hq]
end Go.Proofs.YtmjhfklmlcnofaaDoor.Am
namespace Go.Proofs.YtmjhfklmlcnofaaDoor.Am
open Go Go.Proofs
set_option linter.unusedVariables false
set_option linter.unusedSimpArgs false
set_option maxRecDepth 100000
set_option maxHeartbeats 8000000
theorem ba_empty (a : ByteArray) : a ++ ByteArray.empty = a := by
  apply ba_ext; rw [ByteArray.data_append, Array.toList_append]; simp
theorem Tx.take {H : Heap} {b : Option Addr} {l : List ByteArray} {m c n : Nat} (hs : Sl H (.slice b m c) 1 (trs l)) (hn : n ≤ l.length) : Sl H (.slice b n c) 1 (trs (l.take n)) := by
  obtain ⟨b', c', e1, e2, e3⟩ := hs
  simp only [Value.slice.injEq] at e1
  obtain ⟨rfl, e1b, rfl⟩ := e1
  simp only [trs, Zv] at e2
  refine ⟨b, c, ?_, ?_, fun i r hr => e3 i r ?_⟩
  · simp only [trs, Zv, List.length_take, Nat.min_eq_left hn]
  · simp only [trs, Zv, List.length_take]; omega
  · rw [trs, List.map_take] at hr
    rw [List.getElem?_take] at hr
    split at hr
    · exact hr
    · cases hr
/-- What a list of texts is, where it lies, and its beginning. -/
def TxL (H : Heap) (b : Option Addr) (l : List ByteArray) : Prop :=
  Sl H (.slice b l.length l.length) 1 (trs l) ∧ ∃ b2, ∀ (X : Heap) (n : Nat), n ≤ l.length → cut Tryd.prog 31 (H ++ X) (.slice b l.length l.length) none (some (.int .i64 n)) none = some (.slice b2 n l.length) ∧
    Sl (H ++ X) (.slice b2 n l.length) 1 (trs (l.take n))
theorem txl_of (h : Heap) (l : List ByteArray) : ∃ b, cV h.length l.length = .slice b l.length l.length ∧ TxL (h ++ cL 1 (txs l) l.length) b l := by
  by_cases h0 : l = []
  · subst h0
    refine ⟨none, rfl, Sl.nil _ 1, none, fun X n hn => ?_⟩
    obtain rfl : n = 0 := by simpa using hn
    refine ⟨?_, Sl.nil _ 1⟩
    have hb : bnd 0 0 (some (.int .i64 ((0 : Nat) : Int))) = some 0 := by simp [bnd]
    simp only [Z2, cut, cutB, bnd_none, hb, Ty.sl31, Ty.sz9]
    simp [Ty.sz9]
  · have hl : l.length ≠ 0 := fun q => h0 (List.length_eq_zero_iff.1 q)
    refine ⟨some ⟨h.length, 0, some 0⟩, by rw [cV, if_neg hl], ?_⟩
    rw [cL, if_neg hl]
    refine ⟨Tx.sl0 (Z4 _) rfl, some ⟨h.length, 0, some 0⟩, fun X n hn => ⟨?_, ?_⟩⟩
    · have hb : bnd l.length l.length (some (.int .i64 (n : Int))) = some n := by
        simp only [bnd]
        rw [if_pos ⟨by omega, by omega⟩, Zq]
      have hg : (h ++ [(⟨2, 1, txs l⟩ : Blk)] ++ X)[h.length]? = some ⟨2, 1, txs l⟩ := by rw [Z7, get_at0]; rfl
      simp only [cut, cutB, bnd_none, hb, Ty.sl31, Ty.sz9, hg]
      simp
    · rw [Z7]
      have hfl := trs_flat l
      have := Sl.of_block (h := h ++ ([(⟨2, 1, txs l⟩ : Blk)] ++ X)) (id := h.length) (k := 2) (c := l.length) (sp := some 0) (rows := trs l) (by rw [get_at0, hfl]; rfl) (.inr rfl) (trs_len l) (by simp [trs])
      have := Tx.take this hn
      simpa [trs] using this
theorem texts_l (s : Store) (l : List ByteArray) (h : Heap) (hk : storeOk s = true) (hl : tiR s = l) : ACalls Tryd.prog dE 12 #[.agg s.cells.toArray] h
    fun v h' => ∃ (b : Option Addr) (F : Heap), v = .tuple #[.slice b l.length l.length, .bool true] ∧ h' = h ++ F ∧ TxL (h ++ F) b l := by
  subst hl
  refine (implTextsIn_ok s h (good_small hk)).mono fun v h' q => ?_
  obtain ⟨b, h1, h2⟩ := txl_of h (tiR s)
  exact ⟨b, _, by rw [q.1, tiV, h1, hk], q.2, h2⟩
theorem textsG_l (s : Store) (h : Heap) (hk : s.small) : ACalls Tryd.prog dE 12 #[.agg s.cells.toArray] h
    fun v h' => ∃ (b : Option Addr) (F : Heap), v = .tuple #[.slice b (tiR s).length (tiR s).length, .bool (storeOk s)] ∧ h' = h ++ F ∧ TxL (h ++ F) b (tiR s) := by
  refine (implTextsIn_ok s h hk).mono fun v h' q => ?_
  obtain ⟨b, h1, h2⟩ := txl_of h (tiR s)
  exact ⟨b, _, by rw [q.1, tiV, h1], q.2, h2⟩
theorem textsS_l (s : Store) (h : Heap) (hk : s.small) : ACalls Tryd.prog dE 28 #[.agg s.cells.toArray] h
    fun v h' => ∃ (b : Option Addr) (F : Heap), v = .tuple #[.slice b (tiR s).length (tiR s).length, .bool (storeOk s)] ∧ h' = h ++ F ∧ TxL (h ++ F) b (tiR s) := by
  refine (specTextsIn_ok s h hk).mono fun v h' q => ?_
  obtain ⟨b, h1, h2⟩ := txl_of h (tiR s)
  exact ⟨b, _, by rw [q.1, tiV, h1], q.2, h2⟩
theorem frames_l (t : ByteArray) (l : List ByteArray) (p : Nat) (h : Heap) (h4 : t.size ≤ 4000) (hr : rdF t 99 0 [] = (l, p)) : ACalls Tryd.prog dE 13 #[.string t] h
    fun v h' => ∃ (b : Option Addr) (F : Heap), v = .tuple #[.slice b l.length l.length, .int .i64 (p : Nat), .bool true] ∧ h' = h ++ F ∧ TxL (h ++ F) b l := by
  refine (implReadFrames_ok t h (by omega)).mono fun v h' q => ?_
  obtain ⟨b, h1, h2⟩ := txl_of h l
  have e : rfR t = (l, p) := by rw [rfR, if_neg (by omega), hr]
  refine ⟨b, _, ?_, q.2, ?_⟩
  · rw [q.1, rfV, e, h1, decide_eq_true h4]
  · rw [rfL, e]; exact h2
theorem framesG_l (t : ByteArray) (h : Heap) (h4 : t.size ≤ 1048576) : ACalls Tryd.prog dE 13 #[.string t] h
    fun v h' => ∃ (b : Option Addr) (F : Heap), v = .tuple #[.slice b (rfR t).1.length (rfR t).1.length, .int .i64 ((rfR t).2 : Nat), .bool (decide (t.size ≤ 4000))] ∧ h' = h ++ F ∧ TxL (h ++ F) b (rfR t).1 := by
  refine (implReadFrames_ok t h (by omega)).mono fun v h' q => ?_
  obtain ⟨b, h1, h2⟩ := txl_of h (rfR t).1
  exact ⟨b, _, by rw [q.1, rfV, h1], q.2, h2⟩
theorem framesS_l (t : ByteArray) (h : Heap) (h4 : t.size ≤ 1048576) : ACalls Tryd.prog dE 18 #[.string t] h
    fun v h' => ∃ (b : Option Addr) (F : Heap), v = .tuple #[.slice b (rfR t).1.length (rfR t).1.length, .int .i64 ((rfR t).2 : Nat), .bool (decide (t.size ≤ 4000))] ∧ h' = h ++ F ∧ TxL (h ++ F) b (rfR t).1 := by
  refine (specReadFrames_ok t h (by omega)).mono fun v h' q => ?_
  obtain ⟨b, h1, h2⟩ := txl_of h (rfR t).1
  exact ⟨b, _, by rw [q.1, rfV, h1], q.2, h2⟩
theorem rfR_len (t : ByteArray) : (rfR t).1.length ≤ 99 := by
  unfold rfR
  split
  · simp
  · have := (rdF_len t 99 0 [] (Nat.zero_le _)).1
    simpa using this
def mendM (u : Store) : Store := if mendOk u = true then mendS u else Store.zero
def mendN (u : Store) : Int := if mendOk u = true then (u.sure.size : Int) - mendP u else 0
theorem mendV_eq (u : Store) : mendV u = .tuple #[.agg (mendM u).cells.toArray, .int .i64 (mendN u), .bool (mendOk u)] := by
  unfold mendV mendM mendN
  split
  · rename_i q; rw [q]
  · rename_i q; rw [Bool.not_eq_true] at q; rw [q]
theorem implMend_p (u : Store) (h : Heap) (hs : u.small) : ACalls Tryd.prog dE 14 #[.agg u.cells.toArray] h fun v h' => v = .tuple #[.agg (mendM u).cells.toArray, .int .i64 (mendN u), .bool (mendOk u)] ∧ h' = h :=
  (implMendStore_ok u h hs).mono fun v h' q => ⟨q.1.trans (mendV_eq u), q.2⟩
theorem specMend_p (u : Store) (h : Heap) (hs : u.small) : ACalls Tryd.prog dE 20 #[.agg u.cells.toArray] h fun v h' => v = .tuple #[.agg (mendM u).cells.toArray, .int .i64 (mendN u), .bool (mendOk u)] ∧ h' = h :=
  (specMendStore_ok u h hs).mono fun v h' q => ⟨q.1.trans (mendV_eq u), q.2⟩
/-- What is known of a store behind a crash. -/
theorem crash_facts (s : Store) (kp : Int) (hk : crashOk s kp = true) :
    ∃ (p : Nat) (q : Nat) (r : Nat) (a b d : List ByteArray) (m : Store),
      rdF (s.sure ++ s.later) 99 0 [] = (a, p) ∧ tiR s = a ∧ rdF s.sure 99 0 [] = (d, q) ∧ tiR (crashS s kp) = b ∧ tiR m = b ∧ storeOk s = true ∧ storeOk (crashS s kp) = true ∧ storeOk m = true ∧
      mendV (crashS s kp) = .tuple #[.agg m.cells.toArray, .int .i64 (r : Nat), .bool true] ∧ b.length ≤ a.length ∧ a.take b.length = b ∧ d.length ≤ b.length ∧ a.length ≤ 99 ∧ putC m ⟨#[97]⟩ ≠ 2 := by
  simp only [crashOk, Bool.and_eq_true] at hk
  obtain ⟨h1, h2⟩ := hk
  have h3 := of_decide_eq_true h2
  have hg := (storeOk_iff s).1 h1
  obtain ⟨kn, rfl⟩ : ∃ n : Nat, kp = n := ⟨kp.toNat, by omega⟩
  have hkn : kn ≤ s.later.size := by omega
  have ec : crashS s kn = ⟨s.room, s.sure ++ s.later.extract 0 kn, ByteArray.empty⟩ := by simp [crashS]
  have hsz : (s.sure ++ s.later.extract 0 kn).size = s.sure.size + kn := by rw [ByteArray.size_append, ByteArray.size_extract]; omega
  have hcg : storeOk (crashS s kn) = true := by
    rw [ec, storeOk_iff]; simp only [hsz, ByteArray.size_empty]; omega
  have hpre : s.sure ++ s.later.extract 0 kn = (s.sure ++ s.later).extract 0 (s.sure.size + kn) := by
    apply ba_ext
    have e1 : (s.later.extract 0 kn).data.toList = s.later.data.toList.take kn := by rw [ext_list, Z19]
    have e2 : ((s.sure ++ s.later).extract 0 (s.sure.size + kn)).data.toList = (s.sure.data.toList ++ s.later.data.toList).take (s.sure.size + kn) := by rw [ext_list, Z19, ByteArray.data_append, Array.toList_append]
    rw [ByteArray.data_append, Array.toList_append, e1, e2, ← len_list s.sure, List.take_length_add_append]
  have hpr2 : s.sure = (s.sure ++ s.later.extract 0 kn).extract 0 s.sure.size := by
    apply ba_ext
    rw [ext_list, Z19, ByteArray.data_append, Array.toList_append, List.take_append_of_le_length (Nat.le_of_eq (len_list _).symm), List.take_of_length_le (Nat.le_of_eq (len_list _))]
  have hP : mendP (crashS s kn) ≤ s.sure.size + kn := by
    have := mendP_le (crashS s kn)
    have e : (crashS s kn).sure.size = s.sure.size + kn := by rw [ec]; exact hsz
    omega
  have hmS : mendS (crashS s kn) = ⟨s.room, (s.sure ++ s.later.extract 0 kn).extract 0 (mendP (crashS s kn)), ByteArray.empty⟩ := by
    unfold mendS; rw [show (crashS s kn).room = s.room from rfl, show (crashS s kn).sure = s.sure ++ s.later.extract 0 kn by rw [ec]]
  have hmk : mendOk (crashS s kn) = true := by
    unfold mendOk; rw [hcg, show (crashS s kn).later = ⟨#[]⟩ from rfl]; rfl
  have hmp : mendP (crashS s kn) = (rdF (s.sure ++ s.later.extract 0 kn) 99 0 []).2 := by
    unfold mendP; rw [show (crashS s kn).sure = s.sure ++ s.later.extract 0 kn by rw [ec]]
  have hlost : ((crashS s kn).sure.size : Int) - mendP (crashS s kn) = ((s.sure.size + kn - mendP (crashS s kn) : Nat) : Int) := by
    have e : (crashS s kn).sure.size = s.sure.size + kn := by rw [ec]; exact hsz
    omega
  generalize hPP : mendP (crashS s kn) = P at hP hmS hmp hlost
  have hm2 := (rdF_pre (s.sure ++ s.later.extract 0 kn) P (by rw [hsz]; exact hP) 99 0 []).2 (Nat.le_of_eq hmp.symm)
  have hmz : ((s.sure ++ s.later.extract 0 kn).extract 0 P).size = P := by
    rw [ByteArray.size_extract, hsz]; omega
  have hmg : storeOk (mendS (crashS s kn)) = true := by
    rw [hmS, storeOk_iff]; simp only [hmz, ByteArray.size_empty]; omega
  have ht1 : tiR s = (rdF (s.sure ++ s.later) 99 0 []).1 := by rw [tiR, if_pos h1]
  have ht2 : tiR (crashS s kn) = (rdF (s.sure ++ s.later.extract 0 kn) 99 0 []).1 := by rw [tiR, if_pos hcg, ec]; simp only [ba_empty]
  have ht3 : tiR (mendS (crashS s kn)) = (rdF (s.sure ++ s.later.extract 0 kn) 99 0 []).1 := by rw [tiR, if_pos hmg, hmS]; simp only [ba_empty]; rw [hm2]
  have hq1 := (rdF_pre (s.sure ++ s.later) (s.sure.size + kn) (by rw [ByteArray.size_append]; omega) 99 0 []).1
  rw [← hpre] at hq1
  have hq2 := (rdF_pre (s.sure ++ s.later.extract 0 kn) s.sure.size (by rw [hsz]; omega) 99 0 []).1
  rw [← hpr2] at hq2
  have hlen := (rdF_len (s.sure ++ s.later) 99 0 [] (Nat.zero_le _)).1
  refine ⟨(rdF (s.sure ++ s.later) 99 0 []).2, (rdF s.sure 99 0 []).2, s.sure.size + kn - P, (rdF (s.sure ++ s.later) 99 0 []).1, (rdF (s.sure ++ s.later.extract 0 kn) 99 0 []).1, (rdF s.sure 99 0 []).1, mendS (crashS s kn),
    rfl, ht1, rfl, ht2, ht3, h1, hcg, hmg, ?_, (prefix_take hq1).2, (prefix_take hq1).1, (prefix_take hq2).2, by simpa using hlen, ?_⟩
  · rw [mendV_eq, mendM, mendN, if_pos hmk, if_pos hmk, hmk]
    rw [← hlost, hPP]
  · have e2 : (mendS (crashS s kn)).sure ++ (mendS (crashS s kn)).later = (s.sure ++ s.later.extract 0 kn).extract 0 P := by rw [hmS]; exact ba_empty _
    have e3 : (mendS (crashS s kn)).sure.size + (mendS (crashS s kn)).later.size = P := by rw [hmS]; simp only [hmz, ByteArray.size_empty]; omega
    unfold putC
    simp only [e2, e3, hm2, ← hmp]
    rw [if_neg (by decide), if_neg (Nat.lt_irrefl _)]
    split
    · decide
    · split <;> decide
end Go.Proofs.YtmjhfklmlcnofaaDoor.Am
