/- What a text's first frame is; the reference's taking of it. Conditions: none. -/
import Derived.Test.YtdldekkojjfllaaDoorJ3
import Derived.Test.YtdldekkojjfllaaDoorJW
import Derived.Test.YtdldekkojjfllaaDoorV1
namespace Go.Proofs.YtdldekkojjfllaaDoor.Am
open Go Go.Proofs Go.RowKit
set_option linter.unusedVariables false
set_option linter.unusedSimpArgs false
set_option maxRecDepth 100000
set_option maxHeartbeats 8000000
/-- The cut of a string. -/
theorem bnd_int {hi d : Nat} {k : IntKind} {i : Int} (h0 : 0 ≤ i) (h1 : i ≤ hi) : bnd hi d (some (.int k i)) = some i.toNat := by
  simp only [bnd]; rw [if_pos ⟨h0, h1⟩]
theorem cut_str {P : Program} {t : TypeId} {h : Heap} (ht : stT P t = true) (s : ByteArray) (a b : Int) (ha : 0 ≤ a) (hab : a ≤ b) (hb : b ≤ s.size) (k k' : IntKind) :
    cut P t h (.string s) (some (.int k a)) (some (.int k' b)) none = some (.string (s.extract a.toNat b.toNat)) := by
  simp only [cut, ht, cutB, bnd_none, bnd_int (k := k') (show 0 ≤ b by omega) hb, bnd_int (k := k) ha (show a ≤ ((b.toNat : Nat) : Int) by omega)]
  simp
theorem cut_str_hi {P : Program} {t : TypeId} {h : Heap} (ht : stT P t = true) (s : ByteArray) (b : Int) (hab : 0 ≤ b) (hb : b ≤ s.size) (k' : IntKind) :
    cut P t h (.string s) none (some (.int k' b)) none = some (.string (s.extract 0 b.toNat)) := by
  simp only [cut, ht, cutB, bnd_none, bnd_int (k := k') hab hb]
  simp
theorem cut_str_lo {P : Program} {t : TypeId} {h : Heap} (ht : stT P t = true) (s : ByteArray) (a : Int) (ha : 0 ≤ a) (hb : a ≤ s.size) (k : IntKind) :
    cut P t h (.string s) (some (.int k a)) none none = some (.string (s.extract a.toNat s.size)) := by
  have hn : bnd s.size 0 (some (.int k a)) = some a.toNat := bnd_int ha hb
  simp [cut, ht, cutB, bnd_none, hn]
/-- The text begins with the frame number no, of a text of n bytes. -/
def fit (t : ByteArray) (no n : Nat) : Prop := n ≤ 60 ∧ n + 8 ≤ t.size ∧ frameT no (t.extract 4 (4 + n)) = t.extract 0 (8 + n)
instance (t : ByteArray) (no n : Nat) : Decidable (fit t no n) := by unfold fit; infer_instance
theorem ext_list (t : ByteArray) (a b : Nat) : (t.extract a b).data.toList = (t.data.toList.take b).drop a := by
  rw [ByteArray.data_extract, Array.toList_extract, List.extract_eq_take_drop, List.drop_take]
theorem frame_list (no : Nat) (s : ByteArray) : ∃ r, (frameT no s).data.toList = digL no 2 ++ (digL s.size 2 ++ r) := by
  refine ⟨s.data.toList ++ digL (sm (headT no s) (headT no s).size % 9973).toNat 4, ?_⟩
  simp [frameT, headT, S, ByteArray.data_append, Z7]
theorem fit_two {t : ByteArray} {no n : Nat} (h : fit t no n) : (t.extract 2 4).data.toList = digL n 2 := by
  obtain ⟨h1, h2, h3⟩ := h
  obtain ⟨r, hr⟩ := frame_list no (t.extract 4 (4 + n))
  have hsz : (t.extract 4 (4 + n)).size = n := by rw [ByteArray.size_extract]; omega
  rw [hsz, h3, ext_list] at hr
  rw [ext_list]
  have : t.data.toList.take 4 = ((t.data.toList.take (8 + n)).drop 0).take 4 := by rw [Z19, List.take_take]; congr 1; omega
  rw [this, hr, ← Z7, List.take_append_of_le_length (by simp [digL_len])]
  rw [List.take_of_length_le (by simp [digL_len]), List.drop_append_of_le_length (by simp [digL_len])]
  simp [digL_len]
theorem atoi2 (n : Nat) (h : n ≤ 60) : Lib.atoiAll (digL n 2) = .ok (n : Int) := by
  have : ∀ m : Fin 61, Lib.atoiAll (digL m.val 2) = .ok (m.val : Int) := by decide +kernel
  exact this ⟨n, by omega⟩
theorem fit_unique {t : ByteArray} {no n n' : Nat} (h : fit t no n) (h' : fit t no n') : n = n' := by
  have e1 := atoi2 n h.1
  rw [← fit_two h, fit_two h', atoi2 n' h'.1] at e1
  cases e1; rfl
theorem take_yes (t : ByteArray) (no n : Nat) (h : Heap) (hno : no ≤ 99) (ht : t.size ≤ 1048576) (hf : fit t no n) :
    ACalls Tryd.prog dP 51 #[.string t, .int .i64 (no : Nat)] h fun v h' => v = .tuple #[.string (t.extract 4 (4 + n)), .bool true] ∧ h' = h := by
  refine acalls_pure (.inr ⟨_, rfl, by simp [af, af1]⟩) ?_
  refine Z36 Tryd.func51 rfl Tryd.ntmps51 (by simp) (by dsimp only [Tryd.f51]) ?_
  repeat' (first | refine wS ?_ | refine wD ?_ | refine wT ?_ | refine wL ?_ | refine wB ?_ | refine wG ?_ | refine wY ?_ | refine gw_if (fun hb => ?_) (fun hb => ?_) | refine wC ?_ | refine cw_if (fun hb => ?_) (fun hb => ?_) | refine wR ?_ | refine wV (ms := [0, 0, 3, 0, 0, 16, 56, 127]) ?_ | refine wX ?_ | (refine wK (K := ?_) ?_ ?_; rotate_left 1) | (refine wM (v := ?_) ?_ ?_; rotate_left 1) | ((with_reducible refine l17Frame_ok _ _ _ ?_ ?_); (· exact pO); (· exact pO)) | refine hkp ?_)
  refine aw_for [0, 1] (fun k T h' => h' = h ∧ T 6 = .int .i64 k) n (k0 := 0) (Nat.zero_le _) ⟨rfl, rfl⟩ ?_
  rintro k T h' hk hR ⟨rfl, h6⟩
  simp only [Z37, Z38, Z39, implies_true, and_true, stp, ev, ZB, reduceIte, Nat.reduceEqDiff, Z2x, Z13, Zy] at hR
  obtain ⟨f1, f2, f3⟩ := hf
  have g1 : (k : Int) ≤ 60 := by omega
  have hw1 : IntKind.i64.wrap ((k : Int) + 8) = (k : Int) + 8 := wrap_id (by omega)
  have g2 : (k : Int) + 8 ≤ (t.size : Int) := by omega
  have hw2 : IntKind.i64.wrap (4 + (k : Int)) = ((4 + k : Nat) : Int) := by rw [wrap_id (by omega)]; omega
  have hw3 : IntKind.i64.wrap (8 + (k : Int)) = ((8 + k : Nat) : Int) := by rw [wrap_id (by omega)]; omega
  have hc1 := fun h => cut_str (P := Tryd.prog) (h := h) Ty.st9 t 4 ((4 + k : Nat) : Int) (by omega) (by omega) (by omega) .i64 .i64
  have hc2 := fun h => cut_str_hi (P := Tryd.prog) (h := h) Ty.st9 t ((8 + k : Nat) : Int) (by omega) (by omega) .i64
  simp only [Zq, show (4 : Int).toNat = 4 from rfl] at hc1 hc2
  have hsz : (t.extract 4 (4 + k)).size ≤ 60 := by rw [ByteArray.size_extract]; omega
  rcases Nat.lt_or_ge k n with hkn | hkn
  · have hne : ¬ frameT no (t.extract 4 (4 + k)) = t.extract 0 (8 + k) := fun q => by
      have := fit_unique (t := t) (no := no) ⟨by omega, by omega, q⟩ ⟨f1, f2, f3⟩
      omega
    clear f3
    repeat' (first | refine wS ?_ | refine wD ?_ | refine wT ?_ | refine wL ?_ | refine wB ?_ | refine wG ?_ | refine wY ?_ | refine gw_if (fun hb => ?_) (fun hb => ?_) | refine wC ?_ | refine cw_if (fun hb => ?_) (fun hb => ?_) | refine wR ?_ | refine wV (ms := [0, 0, 3, 0, 0, 16, 56, 127]) ?_ | refine wX ?_ | (refine wK (K := ?_) ?_ ?_; rotate_left 1) | (refine wM (v := ?_) ?_ ?_; rotate_left 1) | ((with_reducible refine l17Frame_ok _ _ _ ?_ ?_); (· exact pO); (· exact pO)) | refine hkp ?_)
    refine ⟨by first | assumption | omega, ?_, ?_⟩
    · simp only [Z37, Z38, Z39, implies_true, and_true, ZB, stp, ev, reduceIte, Nat.reduceEqDiff, Z2x, Z13, Zy, *]
    refine ⟨rfl, ?_⟩
    simp only [Zb, reduceIte, Nat.reduceEqDiff]
    rw [wrap_id (by omega)]; rfl
  · obtain rfl : k = n := by omega
    repeat' (first | refine wS ?_ | refine wD ?_ | refine wT ?_ | refine wL ?_ | refine wB ?_ | refine wG ?_ | refine wY ?_ | refine gw_if (fun hb => ?_) (fun hb => ?_) | refine wC ?_ | refine cw_if (fun hb => ?_) (fun hb => ?_) | refine wR ?_ | refine wV (ms := [0, 0, 3, 0, 0, 16, 56, 127]) ?_ | refine wX ?_ | (refine wK (K := ?_) ?_ ?_; rotate_left 1) | (refine wM (v := ?_) ?_ ?_; rotate_left 1) | ((with_reducible refine l17Frame_ok _ _ _ ?_ ?_); (· exact pO); (· exact pO)) | refine hkp ?_)
    exact ⟨rfl, [], (Zx _).symm⟩
theorem take_no (t : ByteArray) (no : Nat) (h : Heap) (hno : no ≤ 99) (ht : t.size ≤ 1048576) (hf : ∀ n, ¬ fit t no n) :
    ACalls Tryd.prog dP 51 #[.string t, .int .i64 (no : Nat)] h fun v h' => v = .tuple #[.string ⟨#[]⟩, .bool false] ∧ h' = h := by
  refine acalls_pure (.inr ⟨_, rfl, by simp [af, af1]⟩) ?_
  refine Z36 Tryd.func51 rfl Tryd.ntmps51 (by simp) (by dsimp only [Tryd.f51]) ?_
  repeat' (first | refine wS ?_ | refine wD ?_ | refine wT ?_ | refine wL ?_ | refine wB ?_ | refine wG ?_ | refine wY ?_ | refine gw_if (fun hb => ?_) (fun hb => ?_) | refine wC ?_ | refine cw_if (fun hb => ?_) (fun hb => ?_) | refine wR ?_ | refine wV (ms := [0, 0, 3, 0, 0, 16, 56, 127]) ?_ | refine wX ?_ | (refine wK (K := ?_) ?_ ?_; rotate_left 1) | (refine wM (v := ?_) ?_ ?_; rotate_left 1) | ((with_reducible refine l17Frame_ok _ _ _ ?_ ?_); (· exact pO); (· exact pO)) | refine hkp ?_)
  refine aw_for [0, 1] (fun k T h' => h' = h ∧ T 6 = .int .i64 k) 61 (k0 := 0) (Nat.zero_le _) ⟨rfl, rfl⟩ ?_
  rintro k T h' hk hR ⟨rfl, h6⟩
  simp only [Z37, Z38, Z39, implies_true, and_true, stp, ev, ZB, reduceIte, Nat.reduceEqDiff, Z2x, Z13, Zy] at hR
  have hf1 := hf k
  clear hf
  have hw1 : IntKind.i64.wrap ((k : Int) + 8) = (k : Int) + 8 := wrap_id (by omega)
  by_cases g1' : k ≤ 60
  · have g1 : (k : Int) ≤ 60 := by omega
    by_cases g2' : k + 8 ≤ t.size
    · have g2 : (k : Int) + 8 ≤ (t.size : Int) := by omega
      have hw2 : IntKind.i64.wrap (4 + (k : Int)) = ((4 + k : Nat) : Int) := by rw [wrap_id (by omega)]; omega
      have hw3 : IntKind.i64.wrap (8 + (k : Int)) = ((8 + k : Nat) : Int) := by rw [wrap_id (by omega)]; omega
      have hc1 := fun h => cut_str (P := Tryd.prog) (h := h) Ty.st9 t 4 ((4 + k : Nat) : Int) (by omega) (by omega) (by omega) .i64 .i64
      have hc2 := fun h => cut_str_hi (P := Tryd.prog) (h := h) Ty.st9 t ((8 + k : Nat) : Int) (by omega) (by omega) .i64
      simp only [Zq, show (4 : Int).toNat = 4 from rfl] at hc1 hc2
      have hsz : (t.extract 4 (4 + k)).size ≤ 60 := by rw [ByteArray.size_extract]; omega
      have hne : ¬ frameT no (t.extract 4 (4 + k)) = t.extract 0 (8 + k) := fun q => hf1 ⟨g1', g2', q⟩
      have hkn : k < 61 := by omega
      clear hf1
      repeat' (first | refine wS ?_ | refine wD ?_ | refine wT ?_ | refine wL ?_ | refine wB ?_ | refine wG ?_ | refine wY ?_ | refine gw_if (fun hb => ?_) (fun hb => ?_) | refine wC ?_ | refine cw_if (fun hb => ?_) (fun hb => ?_) | refine wR ?_ | refine wV (ms := [0, 0, 3, 0, 0, 16, 56, 127]) ?_ | refine wX ?_ | (refine wK (K := ?_) ?_ ?_; rotate_left 1) | (refine wM (v := ?_) ?_ ?_; rotate_left 1) | ((with_reducible refine l17Frame_ok _ _ _ ?_ ?_); (· exact pO); (· exact pO)) | refine hkp ?_)
      refine ⟨by first | assumption | omega, ?_, ?_⟩
      · simp only [Z37, Z38, Z39, implies_true, and_true, ZB, stp, ev, reduceIte, Nat.reduceEqDiff, Z2x, Z13, Zy, *]
      refine ⟨rfl, ?_⟩
      simp only [Zb, reduceIte, Nat.reduceEqDiff]
      rw [wrap_id (by omega)]; rfl
    · have g2 : ¬ (k : Int) + 8 ≤ (t.size : Int) := by omega
      clear hf1
      repeat' (first | refine wS ?_ | refine wD ?_ | refine wT ?_ | refine wL ?_ | refine wB ?_ | refine wG ?_ | refine wY ?_ | refine gw_if (fun hb => ?_) (fun hb => ?_) | refine wC ?_ | refine cw_if (fun hb => ?_) (fun hb => ?_) | refine wR ?_ | refine wV (ms := [0, 0, 3, 0, 0, 16, 56, 127]) ?_ | refine wX ?_ | (refine wK (K := ?_) ?_ ?_; rotate_left 1) | (refine wM (v := ?_) ?_ ?_; rotate_left 1) | ((with_reducible refine l17Frame_ok _ _ _ ?_ ?_); (· exact pO); (· exact pO)) | refine hkp ?_)
      exact ⟨rfl, [], (Zx _).symm⟩
  · have g1 : ¬ (k : Int) ≤ 60 := by omega
    clear hf1
    repeat' (first | refine wS ?_ | refine wD ?_ | refine wT ?_ | refine wL ?_ | refine wB ?_ | refine wG ?_ | refine wY ?_ | refine gw_if (fun hb => ?_) (fun hb => ?_) | refine wC ?_ | refine cw_if (fun hb => ?_) (fun hb => ?_) | refine wR ?_ | refine wV (ms := [0, 0, 3, 0, 0, 16, 56, 127]) ?_ | refine wX ?_ | (refine wK (K := ?_) ?_ ?_; rotate_left 1) | (refine wM (v := ?_) ?_ ?_; rotate_left 1) | ((with_reducible refine l17Frame_ok _ _ _ ?_ ?_); (· exact pO); (· exact pO)) | refine hkp ?_)
    exact ⟨rfl, [], (Zx _).symm⟩
/-! ### strconv.Atoi -/
theorem tab_err {m : Map} {h : Heap} {w : World} (r : WRel dE m h w) (g : Nat) (hg : g = 2 ∨ g = 3) : ∃ ev, w.cell? ⟨g, 0, none⟩ = some ev ∧ (ev = .nilIface ∨ ∃ te pe, ev = .iface te pe) := by
  have ht : dE.tab g = some isErr := by
    rcases hg with rfl | rfl <;> rfl
  obtain ⟨⟨x, hx, cs, t, z, ev, rfl, h1, h2⟩, _⟩ := r.tab g _ ht
  exact ⟨ev, by simp [World.cell?, hx, h1], h2⟩
theorem atoi_yes (s : ByteArray) (n : Int) (h : Heap) (hs : s.size ≤ 1048576) (ha : Lib.atoiAll s.data.toList = .ok n) :
    ACalls Tryd.prog dE 54 #[.string s] h fun v h' => v = .tuple #[.int .i64 n, .nilIface] ∧ h' = h := by
  refine acalls_of_calls (by simp [af, af1]) (fun k m => ?_) fun w => (Tryd.strconv_Atoi_ok s (by omega) n ha w).mono ?_
  · refine .tuple _ _ rfl fun i h1 h2 => .of_af ?_
    rcases i with _ | _ | i
    · rfl
    · rfl
    · simp at h1; omega
  · rintro e w' ⟨rfl, rfl | ⟨t, rfl⟩⟩
    · exact ⟨rfl, Below.refl _ _⟩
    · exact ⟨rfl, Lib.bytesWorld_below _ _ _⟩
theorem get_last1 {h : Heap} {B b : Blk} {id : Nat} (hb : (h ++ [B])[id]? = some b) : (id < h.length ∧ h[id]? = some b) ∨ (id = h.length ∧ b = B) := by
  rcases Nat.lt_trichotomy id h.length with q | q | q
  · rw [List.getElem?_append_left q] at hb; exact .inl ⟨q, hb⟩
  · subst q; simp at hb; exact .inr ⟨rfl, hb.symm⟩
  · rw [List.getElem?_append_right (by omega)] at hb
    have : ([B] : Heap)[id - h.length]? = none := List.getElem?_eq_none (by simp; omega)
    rw [this] at hb; cases hb
/-- A call that gives a number and a pointer to something new. -/
theorem acalls_fresh {P : Program} {G : Glo} {f : FuncId} {args : Array Value} {h : Heap} {q : Int} {t : TypeId} (haf : ∀ x ∈ args, af x = true)
    (hc : ∀ m w, WRel G m h w → Calls P f args w fun e w' => ∃ N, e = .returned (.tuple #[.int .i64 q, .iface t (.pointer (some ⟨N, 0, none⟩))]) ∧ w.heap.size ≤ N ∧ N < w'.heap.size ∧ Below w.heap.size w w') :
    ACalls P G f args h fun v h' => v = .tuple #[.int .i64 q, .iface t (.pointer (some ⟨h.length, 0, none⟩))] ∧ h' = h ++ [⟨1, 1, []⟩] := by
  intro m args' w hs hr r
  have he : args' = args := by
    apply Array.ext hs.symm
    intro i h1 h2
    exact (hr i h2 h1).eq_af (haf _ (by simp))
  subst he
  refine (hc m w r).mono ?_
  rintro e w' ⟨N, rfl, hN, hN2, hb⟩
  obtain ⟨r1, g1⟩ := r.below hb
  let m' : Map := fun id => if id = h.length then ⟨N, 0, 1, 0⟩ else m id
  have hag : Agree h.length m m' := fun id hid => if_neg (by omega)
  have hmn : m' h.length = ⟨N, 0, 1, 0⟩ := if_pos rfl
  have hlen : h.length ≤ (h ++ [(⟨1, 1, []⟩ : Blk)]).length := by simp
  refine ⟨_, .tuple #[.int .i64 q, .iface t (.pointer (some ⟨N, 0, none⟩))], m', _, rfl, ?_, ⟨?_, ?_, ?_, ?_, ?_, ?_, ?_⟩, ⟨hag, hlen, g1.size, g1.io, g1.keeps, ?_⟩, rfl, rfl⟩
  · refine .tuple _ _ rfl fun i h1 h2 => ?_
    rcases i with _ | _ | i
    · exact .int _ _
    · refine .iface _ _ _ ?_
      have := VRel.ptr (n := (h ++ [(⟨1, 1, []⟩ : Blk)]).length) (m := m') ⟨h.length, 0, none⟩ rfl (by simp)
      rw [show place m' ⟨h.length, 0, none⟩ = ⟨N, 0, none⟩ by simp [place, hmn]] at this
      exact this
    · simp at h1; omega
  · intro id b hb' hk j v hj
    rcases get_last1 hb' with ⟨q1, q2⟩ | ⟨q1, rfl⟩
    · obtain ⟨v', a1, a2, a3⟩ := r1.cell id b q2 hk j v hj
      rw [hag id q1]
      exact ⟨v', a1, a2.mono hlen hag, a3⟩
    · simp at hj
  · intro id b hb' hk
    rcases get_last1 hb' with ⟨q1, q2⟩ | ⟨q1, rfl⟩
    · rw [hag id q1]; exact r1.room id b q2 hk
    · cases hk
  · intro id b hb' hk
    rcases get_last1 hb' with ⟨q1, q2⟩ | ⟨q1, rfl⟩
    · rw [hag id q1]; exact r1.iter id b q2 hk
    · cases hk
  · intro id b hb' hk
    rcases get_last1 hb' with ⟨q1, q2⟩ | ⟨q1, rfl⟩
    · rw [hag id q1]; exact r1.live id b q2 hk
    · rw [q1, hmn]; exact hN2
  · intro id id' b b' hb1 hb2 ho hk hne
    rcases get_last1 hb1 with ⟨q1, q2⟩ | ⟨q1, rfl⟩
    · rcases get_last1 hb2 with ⟨p1, p2⟩ | ⟨p1, rfl⟩
      · rw [hag id q1, hag id' p1]; exact r1.apart id id' b b' q2 p2 ho hk hne
      · rw [hag id q1, p1, hmn]
        have := r.live id b q2 (Blk.own_live ho)
        simp only; omega
    · rcases ho with q | q <;> cases q
  · intro g hg
    obtain ⟨a1, a2, a3⟩ := r1.glob g hg
    exact ⟨by omega, by rw [hag g a1]; exact a2, by rw [hag g a1]; exact a3⟩
  · intro g o ho
    obtain ⟨a1, a2⟩ := r1.tab g o ho
    refine ⟨a1, fun id b hb' hown => ?_⟩
    rcases get_last1 hb' with ⟨q1, q2⟩ | ⟨q1, rfl⟩
    · rw [hag id q1]; exact a2 id b q2 hown
    · rcases hown with q | q <;> cases q
  · intro id b hb' hk
    rcases get_last1 hb' with ⟨q1, q2⟩ | ⟨q1, rfl⟩
    · rw [hag id q1]; exact .inr ⟨id, b, q2, hk, fun x => x, rfl⟩
    · rw [q1, hmn]; exact .inl hN
theorem atoi_no (s : ByteArray) (hs : s.size ≤ 1048576) (ha : ∀ n, Lib.atoiAll s.data.toList ≠ .ok n) :
    ∃ q, ∀ h, ACalls Tryd.prog dE 54 #[.string s] h fun v h' => v = .tuple #[.int .i64 q, .iface 98 (.pointer (some ⟨h.length, 0, none⟩))] ∧ h' = h ++ [⟨1, 1, []⟩] := by
  cases hc : Lib.atoiAll s.data.toList with
  | ok n => exact absurd hc (ha n)
  | range =>
    refine ⟨Lib.atoiSat s.data.toList, fun h => acalls_fresh (by simp [af, af1]) fun m w r => ?_⟩
    obtain ⟨ev, e1, e2⟩ := tab_err r 3 (.inr rfl)
    refine (Tryd.strconv_Atoi_range s (by omega) hc ev w e1 e2).mono ?_
    rintro e w' ⟨N, a1, a2, a3, a4⟩
    exact ⟨N, a1, a2, (Array.getElem?_eq_some_iff.1 a3).1, a4⟩
  | _ =>
    refine ⟨0, fun h => acalls_fresh (by simp [af, af1]) fun m w r => ?_⟩
    obtain ⟨ev, e1, e2⟩ := tab_err r 2 (.inl rfl)
    refine (Tryd.strconv_Atoi_syntax s (by omega) hc ev w e1 e2).mono ?_
    rintro e w' ⟨N, a1, a2, a3, a4⟩
    exact ⟨N, a1, a2, (Array.getElem?_eq_some_iff.1 a3).1, a4⟩
end Go.Proofs.YtdldekkojjfllaaDoor.Am
namespace Go.Proofs.YtdldekkojjfllaaDoor.Am
open Go Go.Proofs Go.RowKit
set_option linter.unusedVariables false
set_option linter.unusedSimpArgs false
set_option maxRecDepth 100000
set_option maxHeartbeats 8000000
def txs (l : List ByteArray) : List Value := l.map Value.string
theorem txs_af (l : List ByteArray) : ∀ x ∈ txs l, af1 x = true := fun x hx => by
  obtain ⟨a, _, rfl⟩ := List.mem_map.1 hx
  rfl
def nextFit (t : ByteArray) (no : Nat) : Option Nat := (List.range 61).find? fun n => decide (fit t no n)
theorem nextFit_some {t : ByteArray} {no n : Nat} (h : fit t no n) : nextFit t no = some n := by
  unfold nextFit
  cases hq : (List.range 61).find? fun n => decide (fit t no n) with
  | none =>
    have := List.find?_eq_none.1 hq n (List.mem_range.2 (by have := h.1; omega))
    exact absurd h (by simpa using this)
  | some n' =>
    have := List.find?_some hq
    rw [fit_unique h (of_decide_eq_true this)]
theorem nextFit_none {t : ByteArray} {no : Nat} (h : ∀ n, ¬ fit t no n) : nextFit t no = none :=
  List.find?_eq_none.2 fun n _ => by simpa using h n
/-- The frames of t from pos on, behind those of acc. -/
def rdF (t : ByteArray) : Nat → Nat → List ByteArray → List ByteArray × Nat
  | 0, pos, acc => (acc, pos)
  | f + 1, pos, acc => match nextFit (t.extract pos t.size) (acc.length + 1) with
    | some n => rdF t f (pos + (8 + n)) (acc ++ [(t.extract pos t.size).extract 4 (4 + n)])
    | none => (acc, pos)
theorem rdF_yes {t : ByteArray} {f pos n : Nat} {acc : List ByteArray} (h : fit (t.extract pos t.size) (acc.length + 1) n) :
    rdF t (f + 1) pos acc = rdF t f (pos + (8 + n)) (acc ++ [(t.extract pos t.size).extract 4 (4 + n)]) := by
  simp only [rdF, nextFit_some h]
theorem rdF_no {t : ByteArray} {f pos : Nat} {acc : List ByteArray} (h : ∀ n, ¬ fit (t.extract pos t.size) (acc.length + 1) n) : rdF t (f + 1) pos acc = (acc, pos) := by
  simp only [rdF, nextFit_none h]
def frV (n : Nat) (R : List ByteArray × Nat) : Value := .tuple #[cV n R.1.length, .int .i64 R.2]
def frL (R : List ByteArray × Nat) : Heap := cL 1 (txs R.1) R.1.length
theorem fr_canon {h L : Heap} {v : Value} {R : List ByteArray × Nat} {acc : List ByteArray} {pos : Nat} (hR : (acc, pos) = R) (ha : App h.length L v 1 (txs acc) acc.length) :
    ∃ (L' : Heap) (ks : List Nat), h ++ L = h ++ L' ∧ Inj ks ∧ ks.length = (frL R).length ∧ BsOk (frL R) L' ks ∧ RV h.length L' ks (frV h.length R) (.tuple #[v, .int .i64 (pos : Nat)]) := by
  subst hR
  exact canon_fr [.int .i64 (pos : Nat)] ha.fr (txs_af _) (by simp [af1])
theorem app_slice {n : Nat} {L : Heap} {v : Value} {e : Nat} {cs : List Value} {len : Nat} (h : App n L v e cs len) : ∃ b, v = .slice b len len := by
  rcases h with ⟨rfl, rfl, _⟩ | ⟨_, _, k, rfl, _⟩
  · exact ⟨_, rfl⟩
  · exact ⟨_, rfl⟩
theorem l17Read_ok (t : ByteArray) (h : Heap) (ht : t.size ≤ 1048576) : ACalls Tryd.prog dP 43 #[.string t] h fun v h' => v = frV h.length (rdF t 99 0 []) ∧ h' = h ++ frL (rdF t 99 0 []) := by
  refine acalls_canon _ _ ?_
  generalize hR : rdF t 99 0 [] = R
  refine Z36 Tryd.func43 rfl Tryd.ntmps43 (by simp) (by dsimp only [Tryd.f43]) ?_
  repeat' (first | refine wS ?_ | refine wD ?_ | refine wT ?_ | refine wL ?_ | refine wB ?_ | refine wC ?_ | refine cw_if (fun hb => ?_) (fun hb => ?_) | refine wR ?_ | (refine wK (K := ?_) ?_ ?_; rotate_left 1) | ((with_reducible refine take_yes _ _ ?_ _ ?_ ?_ ?_); rotate_left 1; (· exact pO); (· exact pO); (· assumption)) | ((with_reducible refine take_no _ _ _ ?_ ?_ ?_); (· exact pO); (· exact pO); (· assumption)) | refine hkp ?_)
  refine aw_loop (n := 99) (fun m T h' => ∃ L acc pos, m = 99 - acc.length ∧ acc.length ≤ 99 ∧ pos ≤ t.size ∧ h' = h ++ L ∧ T 0 = .string t ∧ T 5 = .int .i64 (pos : Nat) ∧ App h.length L (T 4) 1 (txs acc) acc.length ∧ rdF t (99 - acc.length) pos acc = R)
    ⟨[], [], 0, rfl, Nat.zero_le _, Nat.zero_le _, (Zx h).symm, rfl, rfl, App.nil _ _ _, hR⟩ ?_
  rintro m T h' ⟨L, acc, pos, rfl, hal, hpos, rfl, h0, h5, hap, hrd⟩
  clear hR
  obtain ⟨b, h4⟩ := app_slice hap
  have hfl := hap.flat
  rw [h4] at hap hfl
  have hcut := fun h => cut_str_lo (P := Tryd.prog) (h := h) Ty.st9 t (pos : Int) (by omega) (by omega) .i64
  simp only [Zq] at hcut
  have hrs : (t.extract pos t.size).size = t.size - pos := by rw [ByteArray.size_extract]; omega
  by_cases ha : acc.length < 99
  · have ha' : (acc.length : Int) < 99 := by omega
    have hw1 : IntKind.i64.wrap ((acc.length : Int) + 1) = ((acc.length + 1 : Nat) : Int) := by rw [wrap_id (by omega)]; omega
    have hfu : 99 - acc.length = (98 - acc.length) + 1 := by omega
    rw [hfu] at hrd
    by_cases hf : ∃ n, fit (t.extract pos t.size) (acc.length + 1) n
    · obtain ⟨n, hf⟩ := hf
      rw [rdF_yes hf] at hrd
      have hn60 := hf.1
      have hn8 := hf.2.1
      have hxs : ((t.extract pos t.size).extract 4 (4 + n)).size = n := by rw [ByteArray.size_extract]; omega
      generalize hx : (t.extract pos t.size).extract 4 (4 + n) = x at *
      have hbs := bsl_one (h := h ++ L) (x := .string x) Ty.sl74 Ty.zc9 rfl rfl
      obtain ⟨v', L', hap', happ⟩ := app_step (h2 := h) (L := L) (E := [⟨2, 1, [.string x]⟩]) (j := 0) (ix := h.length + L.length)
        Ty.sl74 Ty.zc9 Ty.by9 hap rfl rfl (by omega) (by omega) (by omega)
      simp only [Z7, Zc, Zd, Z6, Z3, Z2, Zf, Zh, Nat.reduceAdd] at hbs hap' happ
      have hw2 : IntKind.i64.wrap (8 + (n : Int)) = ((8 + n : Nat) : Int) := by rw [wrap_id (by omega)]; omega
      have hw3 : IntKind.i64.wrap ((pos : Int) + ((8 + n : Nat) : Int)) = ((pos + (8 + n) : Nat) : Int) := by rw [wrap_id (by omega)]; omega
      clear hfu
      repeat' (first | refine wS ?_ | refine wD ?_ | refine wT ?_ | refine wL ?_ | refine wB ?_ | refine wC ?_ | refine cw_if (fun hb => ?_) (fun hb => ?_) | refine wR ?_ | (refine wK (K := ?_) ?_ ?_; rotate_left 1) | ((with_reducible refine take_yes _ _ ?_ _ ?_ ?_ ?_); rotate_left 1; (· exact pO); (· exact pO); (· assumption)) | ((with_reducible refine take_no _ _ _ ?_ ?_ ?_); (· exact pO); (· exact pO); (· assumption)) | refine hkp ?_)
      refine ⟨99 - (acc.length + 1), by omega, L', acc ++ [x], pos + (8 + n), by simp, by simp; omega, by omega, rfl, ?_, ?_, ?_, ?_⟩
      · simp only [Zb, reduceIte, Nat.reduceEqDiff]; exact h0
      · simp only [Zb, reduceIte, Nat.reduceEqDiff]
      · simp only [Zb, reduceIte, Nat.reduceEqDiff]
        exact happ.cast rfl rfl rfl (by simp [txs]) (by simp)
      · rw [show 99 - (acc ++ [x]).length = 98 - acc.length by rw [Z6]; show 99 - (acc.length + 1) = _; omega]; exact hrd
    · have hf' : ∀ n, ¬ fit (t.extract pos t.size) (acc.length + 1) n := fun n q => hf ⟨n, q⟩
      rw [rdF_no hf'] at hrd
      clear hf hfu
      repeat' (first | refine wS ?_ | refine wD ?_ | refine wT ?_ | refine wL ?_ | refine wB ?_ | refine wC ?_ | refine cw_if (fun hb => ?_) (fun hb => ?_) | refine wR ?_ | (refine wK (K := ?_) ?_ ?_; rotate_left 1) | ((with_reducible refine take_yes _ _ ?_ _ ?_ ?_ ?_); rotate_left 1; (· exact pO); (· exact pO); (· assumption)) | ((with_reducible refine take_no _ _ _ ?_ ?_ ?_); (· exact pO); (· exact pO); (· assumption)) | refine hkp ?_)
      exact fr_canon hrd hap
  · have ha' : ¬ (acc.length : Int) < 99 := by omega
    rw [show 99 - acc.length = 0 by omega] at hrd
    repeat' (first | refine wS ?_ | refine wD ?_ | refine wT ?_ | refine wL ?_ | refine wB ?_ | refine wC ?_ | refine cw_if (fun hb => ?_) (fun hb => ?_) | refine wR ?_ | (refine wK (K := ?_) ?_ ?_; rotate_left 1) | ((with_reducible refine take_yes _ _ ?_ _ ?_ ?_ ?_); rotate_left 1; (· exact pO); (· exact pO); (· assumption)) | ((with_reducible refine take_no _ _ _ ?_ ?_ ?_); (· exact pO); (· exact pO); (· assumption)) | refine hkp ?_)
    exact fr_canon hrd hap
end Go.Proofs.YtdldekkojjfllaaDoor.Am
namespace Go.Proofs.YtdldekkojjfllaaDoor.Am
open Go Go.Proofs Go.RowKit
set_option linter.unusedVariables false
set_option linter.unusedSimpArgs false
set_option maxRecDepth 100000
set_option maxHeartbeats 8000000
theorem frameOfE (r : Nat) (s : ByteArray) (h : Heap) (hr : r ≤ 99) (hs : s.size ≤ 60) : ACalls Tryd.prog dE 47 #[.int .i64 (r : Nat), .string s] h fun v h' => v = .string (frameT r s) ∧ h' = h := upPE (frameOf_ok r s h hr hs)
theorem withinE (n lo hi : Int) (h : Heap) : ACalls Tryd.prog dE 33 #[.int .i64 n, .int .i64 lo, .int .i64 hi] h fun v h' => v = .bool (decide (lo ≤ n ∧ n ≤ hi)) ∧ h' = h := upPE (within_ok n lo hi h)
theorem nil_nil : binV Tryd.prog .neq 83 (.tmp 27) (.const .nilIface) .nilIface .nilIface = some (.bool false) := by kernel_rfl
theorem err_nil (xo yo : Operand) (t : TypeId) (p : Value) : binV Tryd.prog .neq 83 xo yo (.iface t p) .nilIface = some (.bool true) := by
  simp only [binV, Tryd.underlying83]
theorem readFrames_ok (t : ByteArray) (h : Heap) (ht : t.size ≤ 1048576) : ACalls Tryd.prog dE 46 #[.string t] h fun v h' => v = frV h.length (rdF t 99 0 []) ∧ h' = h ++ frL (rdF t 99 0 []) := by
  refine acalls_canon _ _ ?_
  generalize hR : rdF t 99 0 [] = R
  have hnn := nil_nil
  have hen := err_nil
  refine Z36 Tryd.func46 rfl Tryd.ntmps46 (by simp) (by dsimp only [Tryd.f46]) ?_
  repeat' (first | refine wS ?_ | refine wD ?_ | refine wT ?_ | refine wL ?_ | refine wB ?_ | refine wG ?_ | refine wY ?_ | refine gw_if (fun hb => ?_) (fun hb => ?_) | refine wC ?_ | refine cw_if (fun hb => ?_) (fun hb => ?_) | refine wR ?_ | refine wV (ms := [0, 0, 3, 0, 0, 16, 56, 127]) ?_ | refine wX ?_ | (refine wK (K := ?_) ?_ ?_; rotate_left 1) | (refine wM (v := ?_) ?_ ?_; rotate_left 1) | (refine xd_bs (v := ?_) (h' := ?_) (L := ?_) (by decide +kernel) ?_ ?_ ?_; rotate_left 3; (· exact eqA); (· exact rfl)) | (with_reducible exact withinE _ _ _ _) | ((with_reducible refine frameOfE _ _ _ ?_ ?_); (· exact pO); (· exact pO)) | ((with_reducible refine atoi_yes _ ?_ _ ?_ ?_); rotate_left 1; (· exact pO); (· assumption)) | (with_reducible exact hno _) | refine hkp ?_)
  refine aw_loop (n := 99) (fun m T h' => ∃ L acc pos, m = 99 - acc.length ∧ acc.length ≤ 99 ∧ pos ≤ t.size ∧ h' = h ++ L ∧ T 0 = .string t ∧ T 5 = .int .i64 (pos : Nat) ∧ T 6 = .int .i64 ((acc.length + 1 : Nat) : Int) ∧ App h.length L (T 4) 1 (txs acc) acc.length ∧ rdF t (99 - acc.length) pos acc = R)
    ⟨[], [], 0, rfl, Nat.zero_le _, Nat.zero_le _, (Zx h).symm, rfl, rfl, rfl, App.nil _ _ _, hR⟩ ?_
  rintro m T h' ⟨L, acc, pos, rfl, hal, hpos, rfl, h0, h5, h6, hap, hrd⟩
  clear hR
  obtain ⟨b, h4⟩ := app_slice hap
  have hfl := hap.flat
  rw [h4] at hap hfl
  have hcut := fun h => cut_str_lo (P := Tryd.prog) (h := h) Ty.st9 t (pos : Int) (by omega) (by omega) .i64
  simp only [Zq] at hcut
  have hrs : (t.extract pos t.size).size = t.size - pos := by rw [ByteArray.size_extract]; omega
  by_cases ha : acc.length < 99
  · have ha' : ((acc.length + 1 : Nat) : Int) ≤ 99 := by omega
    have hfu : 99 - acc.length = (98 - acc.length) + 1 := by omega
    rw [hfu] at hrd
    clear hfu
    generalize hs : t.extract pos t.size = s at *
    have hrs' : s.size + pos ≤ t.size := by omega
    clear hrs
    have no_fit : (∀ n, ¬ fit s (acc.length + 1) n) → (acc, pos) = R := fun q => by
      subst hs
      rw [rdF_no q] at hrd; exact hrd
    by_cases h8 : s.size < 8
    · have h8' : (s.size : Int) < 8 := by omega
      have hd := no_fit fun n q => by have := q.2.1; omega
      clear no_fit hrd
      repeat' (first | refine wS ?_ | refine wD ?_ | refine wT ?_ | refine wL ?_ | refine wB ?_ | refine wG ?_ | refine wY ?_ | refine gw_if (fun hb => ?_) (fun hb => ?_) | refine wC ?_ | refine cw_if (fun hb => ?_) (fun hb => ?_) | refine wR ?_ | refine wV (ms := [0, 0, 3, 0, 0, 16, 56, 127]) ?_ | refine wX ?_ | (refine wK (K := ?_) ?_ ?_; rotate_left 1) | (refine wM (v := ?_) ?_ ?_; rotate_left 1) | (refine xd_bs (v := ?_) (h' := ?_) (L := ?_) (by decide +kernel) ?_ ?_ ?_; rotate_left 3; (· exact eqA); (· exact rfl)) | (with_reducible exact withinE _ _ _ _) | ((with_reducible refine frameOfE _ _ _ ?_ ?_); (· exact pO); (· exact pO)) | ((with_reducible refine atoi_yes _ ?_ _ ?_ ?_); rotate_left 1; (· exact pO); (· assumption)) | (with_reducible exact hno _) | refine hkp ?_)
      exact fr_canon hd hap
    have h8' : ¬ (s.size : Int) < 8 := by omega
    have hc2 := fun h => cut_str (P := Tryd.prog) (h := h) Ty.st9 s 2 4 (by omega) (by omega) (by omega) .i64 .i64
    simp only [show (2 : Int).toNat = 2 from rfl, show (4 : Int).toNat = 4 from rfl] at hc2
    have hs2 : (s.extract 2 4).size = 2 := by rw [ByteArray.size_extract]; omega
    by_cases hok : ∃ z, Lib.atoiAll (s.extract 2 4).data.toList = .ok z
    · obtain ⟨z, hok⟩ := hok
      have fit_z : ∀ n, fit s (acc.length + 1) n → z = (n : Int) := fun n q => by
        have := atoi2 n q.1
        rw [← fit_two q, hok] at this
        cases this; rfl
      by_cases hz : 0 ≤ z ∧ z ≤ 60
      · obtain ⟨n, rfl⟩ : ∃ n : Nat, z = (n : Int) := ⟨z.toNat, by omega⟩
        have hn60 : (n : Int) ≤ 60 := hz.2
        clear hz
        have hw2 : IntKind.i64.wrap (8 + (n : Int)) = ((8 + n : Nat) : Int) := by rw [wrap_id (by omega)]; omega
        by_cases hl : s.size < 8 + n
        · have hl' : (s.size : Int) < ((8 + n : Nat) : Int) := by omega
          have hd := no_fit fun n' q => by have := q.2.1; have := fit_z n' q; omega
          clear no_fit hrd fit_z
          repeat' (first | refine wS ?_ | refine wD ?_ | refine wT ?_ | refine wL ?_ | refine wB ?_ | refine wG ?_ | refine wY ?_ | refine gw_if (fun hb => ?_) (fun hb => ?_) | refine wC ?_ | refine cw_if (fun hb => ?_) (fun hb => ?_) | refine wR ?_ | refine wV (ms := [0, 0, 3, 0, 0, 16, 56, 127]) ?_ | refine wX ?_ | (refine wK (K := ?_) ?_ ?_; rotate_left 1) | (refine wM (v := ?_) ?_ ?_; rotate_left 1) | (refine xd_bs (v := ?_) (h' := ?_) (L := ?_) (by decide +kernel) ?_ ?_ ?_; rotate_left 3; (· exact eqA); (· exact rfl)) | (with_reducible exact withinE _ _ _ _) | ((with_reducible refine frameOfE _ _ _ ?_ ?_); (· exact pO); (· exact pO)) | ((with_reducible refine atoi_yes _ ?_ _ ?_ ?_); rotate_left 1; (· exact pO); (· assumption)) | (with_reducible exact hno _) | refine hkp ?_)
          exact fr_canon hd hap
        · have hl' : ¬ (s.size : Int) < ((8 + n : Nat) : Int) := by omega
          have hw4 : IntKind.i64.wrap (4 + (n : Int)) = ((4 + n : Nat) : Int) := by rw [wrap_id (by omega)]; omega
          have hc3 := fun h => cut_str (P := Tryd.prog) (h := h) Ty.st9 s 4 ((4 + n : Nat) : Int) (by omega) (by omega) (by omega) .i64 .i64
          have hc4 := fun h => cut_str_hi (P := Tryd.prog) (h := h) Ty.st9 s ((8 + n : Nat) : Int) (by omega) (by omega) .i64
          simp only [Zq, show (4 : Int).toNat = 4 from rfl] at hc3 hc4
          have hxs : (s.extract 4 (4 + n)).size = n := by rw [ByteArray.size_extract]; omega
          by_cases hfr : frameT (acc.length + 1) (s.extract 4 (4 + n)) = s.extract 0 (8 + n)
          · have hfit : fit s (acc.length + 1) n := ⟨by omega, by omega, hfr⟩
            have hrd' : rdF t (98 - acc.length) (pos + (8 + n)) (acc ++ [s.extract 4 (4 + n)]) = R := by
              subst hs
              rw [rdF_yes hfit] at hrd; exact hrd
            clear hrd no_fit fit_z hfit
            generalize hx : s.extract 4 (4 + n) = x at *
            have hbs := bsl_one (h := h ++ L) (x := .string x) Ty.sl74 Ty.zc9 rfl rfl
            obtain ⟨v', L', hap', happ⟩ := app_step (h2 := h) (L := L) (E := [⟨2, 1, [.string x]⟩]) (j := 0) (ix := h.length + L.length)
              Ty.sl74 Ty.zc9 Ty.by9 hap rfl rfl (by omega) (by omega) (by omega)
            simp only [Z7, Zc, Zd, Z6, Z3, Z2, Zf, Zh, Nat.reduceAdd] at hbs hap' happ
            have hw3 : IntKind.i64.wrap ((pos : Int) + ((8 + n : Nat) : Int)) = ((pos + (8 + n) : Nat) : Int) := by rw [wrap_id (by omega)]; omega
            have hw5 : IntKind.i64.wrap (((acc.length + 1 : Nat) : Int) + 1) = ((acc.length + 1 + 1 : Nat) : Int) := by rw [wrap_id (by omega)]; omega
            repeat' (first | refine wS ?_ | refine wD ?_ | refine wT ?_ | refine wL ?_ | refine wB ?_ | refine wG ?_ | refine wY ?_ | refine gw_if (fun hb => ?_) (fun hb => ?_) | refine wC ?_ | refine cw_if (fun hb => ?_) (fun hb => ?_) | refine wR ?_ | refine wV (ms := [0, 0, 3, 0, 0, 16, 56, 127]) ?_ | refine wX ?_ | (refine wK (K := ?_) ?_ ?_; rotate_left 1) | (refine wM (v := ?_) ?_ ?_; rotate_left 1) | (refine xd_bs (v := ?_) (h' := ?_) (L := ?_) (by decide +kernel) ?_ ?_ ?_; rotate_left 3; (· exact eqA); (· exact rfl)) | (with_reducible exact withinE _ _ _ _) | ((with_reducible refine frameOfE _ _ _ ?_ ?_); (· exact pO); (· exact pO)) | ((with_reducible refine atoi_yes _ ?_ _ ?_ ?_); rotate_left 1; (· exact pO); (· assumption)) | (with_reducible exact hno _) | refine hkp ?_)
            refine ⟨99 - (acc.length + 1), by omega, L', acc ++ [x], pos + (8 + n), by simp, by simp; omega, by omega, rfl, ?_, ?_, ?_, ?_, ?_⟩
            · simp only [Zb, reduceIte, Nat.reduceEqDiff]; exact h0
            · simp only [Zb, reduceIte, Nat.reduceEqDiff]
            · simp only [Zb, reduceIte, Nat.reduceEqDiff, Z6, Z3, Z2, Zf]
            · simp only [Zb, reduceIte, Nat.reduceEqDiff]
              exact happ.cast rfl rfl rfl (by simp [txs]) (by simp)
            · rw [show 99 - (acc ++ [x]).length = 98 - acc.length by rw [Z6]; show 99 - (acc.length + 1) = _; omega]; exact hrd'
          · have hd := no_fit fun n' q => by
              have := fit_z n' q
              obtain rfl : n = n' := by omega
              exact hfr q.2.2
            clear no_fit hrd fit_z
            repeat' (first | refine wS ?_ | refine wD ?_ | refine wT ?_ | refine wL ?_ | refine wB ?_ | refine wG ?_ | refine wY ?_ | refine gw_if (fun hb => ?_) (fun hb => ?_) | refine wC ?_ | refine cw_if (fun hb => ?_) (fun hb => ?_) | refine wR ?_ | refine wV (ms := [0, 0, 3, 0, 0, 16, 56, 127]) ?_ | refine wX ?_ | (refine wK (K := ?_) ?_ ?_; rotate_left 1) | (refine wM (v := ?_) ?_ ?_; rotate_left 1) | (refine xd_bs (v := ?_) (h' := ?_) (L := ?_) (by decide +kernel) ?_ ?_ ?_; rotate_left 3; (· exact eqA); (· exact rfl)) | (with_reducible exact withinE _ _ _ _) | ((with_reducible refine frameOfE _ _ _ ?_ ?_); (· exact pO); (· exact pO)) | ((with_reducible refine atoi_yes _ ?_ _ ?_ ?_); rotate_left 1; (· exact pO); (· assumption)) | (with_reducible exact hno _) | refine hkp ?_)
            exact fr_canon hd hap
      · have hz' : ¬ (0 ≤ z ∧ z ≤ 60) := hz
        have hd := no_fit fun n' q => by have := q.1; have := fit_z n' q; omega
        clear no_fit hrd fit_z
        repeat' (first | refine wS ?_ | refine wD ?_ | refine wT ?_ | refine wL ?_ | refine wB ?_ | refine wG ?_ | refine wY ?_ | refine gw_if (fun hb => ?_) (fun hb => ?_) | refine wC ?_ | refine cw_if (fun hb => ?_) (fun hb => ?_) | refine wR ?_ | refine wV (ms := [0, 0, 3, 0, 0, 16, 56, 127]) ?_ | refine wX ?_ | (refine wK (K := ?_) ?_ ?_; rotate_left 1) | (refine wM (v := ?_) ?_ ?_; rotate_left 1) | (refine xd_bs (v := ?_) (h' := ?_) (L := ?_) (by decide +kernel) ?_ ?_ ?_; rotate_left 3; (· exact eqA); (· exact rfl)) | (with_reducible exact withinE _ _ _ _) | ((with_reducible refine frameOfE _ _ _ ?_ ?_); (· exact pO); (· exact pO)) | ((with_reducible refine atoi_yes _ ?_ _ ?_ ?_); rotate_left 1; (· exact pO); (· assumption)) | (with_reducible exact hno _) | refine hkp ?_)
        exact fr_canon hd hap
    · have hd := no_fit fun n q => hok ⟨n, by rw [fit_two q]; exact atoi2 n q.1⟩
      clear no_fit hrd
      obtain ⟨q, hno⟩ := atoi_no (s.extract 2 4) (by omega) fun n q => hok ⟨n, q⟩
      repeat' (first | refine wS ?_ | refine wD ?_ | refine wT ?_ | refine wL ?_ | refine wB ?_ | refine wG ?_ | refine wY ?_ | refine gw_if (fun hb => ?_) (fun hb => ?_) | refine wC ?_ | refine cw_if (fun hb => ?_) (fun hb => ?_) | refine wR ?_ | refine wV (ms := [0, 0, 3, 0, 0, 16, 56, 127]) ?_ | refine wX ?_ | (refine wK (K := ?_) ?_ ?_; rotate_left 1) | (refine wM (v := ?_) ?_ ?_; rotate_left 1) | (refine xd_bs (v := ?_) (h' := ?_) (L := ?_) (by decide +kernel) ?_ ?_ ?_; rotate_left 3; (· exact eqA); (· exact rfl)) | (with_reducible exact withinE _ _ _ _) | ((with_reducible refine frameOfE _ _ _ ?_ ?_); (· exact pO); (· exact pO)) | ((with_reducible refine atoi_yes _ ?_ _ ?_ ?_); rotate_left 1; (· exact pO); (· assumption)) | (with_reducible exact hno _) | refine hkp ?_)
      exact fr_canon hd (hap.more _)
  · have ha' : ¬ ((acc.length + 1 : Nat) : Int) ≤ 99 := by omega
    rw [show 99 - acc.length = 0 by omega] at hrd
    repeat' (first | refine wS ?_ | refine wD ?_ | refine wT ?_ | refine wL ?_ | refine wB ?_ | refine wG ?_ | refine wY ?_ | refine gw_if (fun hb => ?_) (fun hb => ?_) | refine wC ?_ | refine cw_if (fun hb => ?_) (fun hb => ?_) | refine wR ?_ | refine wV (ms := [0, 0, 3, 0, 0, 16, 56, 127]) ?_ | refine wX ?_ | (refine wK (K := ?_) ?_ ?_; rotate_left 1) | (refine wM (v := ?_) ?_ ?_; rotate_left 1) | (refine xd_bs (v := ?_) (h' := ?_) (L := ?_) (by decide +kernel) ?_ ?_ ?_; rotate_left 3; (· exact eqA); (· exact rfl)) | (with_reducible exact withinE _ _ _ _) | ((with_reducible refine frameOfE _ _ _ ?_ ?_); (· exact pO); (· exact pO)) | ((with_reducible refine atoi_yes _ ?_ _ ?_ ?_); rotate_left 1; (· exact pO); (· assumption)) | (with_reducible exact hno _) | refine hkp ?_)
    exact fr_canon hrd hap
theorem l17ReadE (t : ByteArray) (h : Heap) (ht : t.size ≤ 1048576) : ACalls Tryd.prog dE 43 #[.string t] h fun v h' => v = frV h.length (rdF t 99 0 []) ∧ h' = h ++ frL (rdF t 99 0 []) := upPE (l17Read_ok t h ht)
theorem rdF_len (t : ByteArray) : ∀ (f pos : Nat) (acc : List ByteArray), pos ≤ t.size → (rdF t f pos acc).1.length ≤ acc.length + f ∧ (rdF t f pos acc).2 ≤ t.size
  | 0, pos, acc, h => ⟨Z4 _, h⟩
  | f + 1, pos, acc, h => by
      by_cases hf : ∃ n, fit (t.extract pos t.size) (acc.length + 1) n
      · obtain ⟨n, hf⟩ := hf
        rw [rdF_yes hf]
        have h8 := hf.2.1
        rw [ByteArray.size_extract] at h8
        have i := rdF_len t f (pos + (8 + n)) (acc ++ [(t.extract pos t.size).extract 4 (4 + n)]) (by omega)
        rw [Z6] at i
        exact ⟨by have := i.1; simp only [Z3, Z2] at this; omega, i.2⟩
      · rw [rdF_no fun n q => hf ⟨n, q⟩]
        exact ⟨by simp, h⟩
end Go.Proofs.YtdldekkojjfllaaDoor.Am
