/- What a text's first frame is; the reference's taking of it. Conditions: none. -/
import Derived.Test.YtmjhfklmlcnofaaDoorJ3
import Derived.Test.YtmjhfklmlcnofaaDoorJW
import Derived.Test.YtmjhfklmlcnofaaDoorR1
namespace Go.Proofs.YtmjhfklmlcnofaaDoor.Am
open Go Go.Proofs Go.RowKit
set_option linter.unusedVariables false
set_option linter.unusedSimpArgs false
set_option maxRecDepth 100000
set_option maxHeartbeats 8000000
/-- The cut of a string. -/
theorem bnd_int {hi d : Nat} {k : IntKind} {i : Int} (h0 : 0 ≤ i) (h1 : i ≤ hi) : bnd hi d (some (.int k i)) = some i.toNat := by
  simp only [bnd]; rw [if_pos ⟨h0, h1⟩]
theorem cut_str {P : Program} {t : TypeId} {h : Heap} (ht : stT P t = true) (s : ByteArray) (a b : Int) (ha : 0 ≤ a) (hab : a ≤ b) (hb : b ≤ s.size) (k k' : IntKind) :
    cut P t h (.string s) (some (.int k a)) (some (.int k' b)) none = some (.string (s.extract a.toNat b.toNat)) := by
  simp only [cut, ht, cutB, bnd_none, bnd_int (k := k') (show 0 ≤ b by omega) hb, bnd_int (k := k) ha (show a ≤ ((b.toNat : Nat) : Int) by omega)]
  simp
theorem cut_str_lo {P : Program} {t : TypeId} {h : Heap} (ht : stT P t = true) (s : ByteArray) (a : Int) (ha : 0 ≤ a) (hb : a ≤ s.size) (k : IntKind) :
    cut P t h (.string s) (some (.int k a)) none none = some (.string (s.extract a.toNat s.size)) := by
  have hn : bnd s.size 0 (some (.int k a)) = some a.toNat := bnd_int ha hb
  simp [cut, ht, cutB, bnd_none, hn]
/-- The text begins with the frame number no, of a text of n bytes. -/
def fit (t : ByteArray) (no n : Nat) : Prop := n ≤ 60 ∧ n + 8 ≤ t.size ∧ frameT no (t.extract 4 (4 + n)) = t.extract 0 (8 + n)
instance (t : ByteArray) (no n : Nat) : Decidable (fit t no n) := by unfold fit; infer_instance
theorem ext_list (t : ByteArray) (a b : Nat) : (t.extract a b).data.toList = (t.data.toList.take b).drop a := by
  rw [ByteArray.data_extract, Array.toList_extract, List.extract_eq_take_drop, List.drop_take]
/-! ### strconv.Atoi -/
theorem tab_err {m : Map} {h : Heap} {w : World} (r : WRel dE m h w) (g : Nat) (hg : g = 0 ∨ g = 1) : ∃ ev, w.cell? ⟨g, 0, none⟩ = some ev ∧ (ev = .nilIface ∨ ∃ te pe, ev = .iface te pe) := by
  have ht : dE.tab g = some isErr := by
    rcases hg with rfl | rfl <;> rfl
  obtain ⟨⟨x, hx, cs, t, z, ev, rfl, h1, h2⟩, _⟩ := r.tab g _ ht
  exact ⟨ev, by simp [World.cell?, hx, h1], h2⟩
theorem atoi_yes (s : ByteArray) (n : Int) (h : Heap) (hs : s.size ≤ 1048576) (ha : Lib.atoiAll s.data.toList = .ok n) :
    ACalls Tryd.prog dE 59 #[.string s] h fun v h' => v = .tuple #[.int .i64 n, .nilIface] ∧ h' = h := by
  refine acalls_of_calls (by simp [af, af1]) (fun k m => ?_) fun w => (Tryd.strconv_Atoi_ok s (by omega) n ha w).mono ?_
  · refine .tuple _ _ rfl fun i h1 h2 => .of_af ?_
    rcases i with _ | _ | i
    · rfl
    · rfl
    · simp at h1; omega
  · rintro e w' ⟨rfl, rfl | ⟨t, rfl⟩⟩
    · exact ⟨rfl, Below.refl _ _⟩
    · exact ⟨rfl, Lib.bytesWorld_below _ _ _⟩
theorem get_last1 {h : Heap} {B b : Blk} {id : Nat} (hb : (h ++ [B])[id]? = some b) : (id < h.length ∧ h[id]? = some b) ∨ (id = h.length ∧ b = B) := by
  rcases Nat.lt_trichotomy id h.length with q | q | q
  · rw [List.getElem?_append_left q] at hb; exact .inl ⟨q, hb⟩
  · subst q; simp at hb; exact .inr ⟨rfl, hb.symm⟩
  · rw [List.getElem?_append_right (by omega)] at hb
    have : ([B] : Heap)[id - h.length]? = none := List.getElem?_eq_none (by simp; omega)
    rw [this] at hb; cases hb
/-- A call that gives a number and a pointer to something new. -/
theorem acalls_fresh {P : Program} {G : Glo} {f : FuncId} {args : Array Value} {h : Heap} {q : Int} {t : TypeId} (haf : ∀ x ∈ args, af x = true)
    (hc : ∀ m w, WRel G m h w → Calls P f args w fun e w' => ∃ N, e = .returned (.tuple #[.int .i64 q, .iface t (.pointer (some ⟨N, 0, none⟩))]) ∧ w.heap.size ≤ N ∧ N < w'.heap.size ∧ Below w.heap.size w w') :
    ACalls P G f args h fun v h' => v = .tuple #[.int .i64 q, .iface t (.pointer (some ⟨h.length, 0, none⟩))] ∧ h' = h ++ [⟨1, 1, []⟩] := by
  intro m args' w hs hr r
  have he : args' = args := by
    apply Array.ext hs.symm
    intro i h1 h2
    exact (hr i h2 h1).eq_af (haf _ (by simp))
  subst he
  refine (hc m w r).mono ?_
  rintro e w' ⟨N, rfl, hN, hN2, hb⟩
  obtain ⟨r1, g1⟩ := r.below hb
  let m' : Map := fun id => if id = h.length then ⟨N, 0, 1, 0⟩ else m id
  have hag : Agree h.length m m' := fun id hid => if_neg (by omega)
  have hmn : m' h.length = ⟨N, 0, 1, 0⟩ := if_pos rfl
  have hlen : h.length ≤ (h ++ [(⟨1, 1, []⟩ : Blk)]).length := by simp
  refine ⟨_, .tuple #[.int .i64 q, .iface t (.pointer (some ⟨N, 0, none⟩))], m', _, rfl, ?_, ⟨?_, ?_, ?_, ?_, ?_, ?_, ?_⟩, ⟨hag, hlen, g1.size, g1.io, g1.keeps, ?_⟩, rfl, rfl⟩
  · refine .tuple _ _ rfl fun i h1 h2 => ?_
    rcases i with _ | _ | i
    · exact .int _ _
    · refine .iface _ _ _ ?_
      have := VRel.ptr (n := (h ++ [(⟨1, 1, []⟩ : Blk)]).length) (m := m') ⟨h.length, 0, none⟩ rfl (by simp)
      rw [show place m' ⟨h.length, 0, none⟩ = ⟨N, 0, none⟩ by simp [place, hmn]] at this
      exact this
    · simp at h1; omega
  · intro id b hb' hk j v hj
    rcases get_last1 hb' with ⟨q1, q2⟩ | ⟨q1, rfl⟩
    · obtain ⟨v', a1, a2, a3⟩ := r1.cell id b q2 hk j v hj
      rw [hag id q1]
      exact ⟨v', a1, a2.mono hlen hag, a3⟩
    · simp at hj
  · intro id b hb' hk
    rcases get_last1 hb' with ⟨q1, q2⟩ | ⟨q1, rfl⟩
    · rw [hag id q1]; exact r1.room id b q2 hk
    · cases hk
  · intro id b hb' hk
    rcases get_last1 hb' with ⟨q1, q2⟩ | ⟨q1, rfl⟩
    · rw [hag id q1]; exact r1.iter id b q2 hk
    · cases hk
  · intro id b hb' hk
    rcases get_last1 hb' with ⟨q1, q2⟩ | ⟨q1, rfl⟩
    · rw [hag id q1]; exact r1.live id b q2 hk
    · rw [q1, hmn]; exact hN2
  · intro id id' b b' hb1 hb2 ho hk hne
    rcases get_last1 hb1 with ⟨q1, q2⟩ | ⟨q1, rfl⟩
    · rcases get_last1 hb2 with ⟨p1, p2⟩ | ⟨p1, rfl⟩
      · rw [hag id q1, hag id' p1]; exact r1.apart id id' b b' q2 p2 ho hk hne
      · rw [hag id q1, p1, hmn]
        have := r.live id b q2 (Blk.own_live ho)
        simp only; omega
    · rcases ho with q | q <;> cases q
  · intro g hg
    obtain ⟨a1, a2, a3⟩ := r1.glob g hg
    exact ⟨by omega, by rw [hag g a1]; exact a2, by rw [hag g a1]; exact a3⟩
  · intro g o ho
    obtain ⟨a1, a2⟩ := r1.tab g o ho
    refine ⟨a1, fun id b hb' hown => ?_⟩
    rcases get_last1 hb' with ⟨q1, q2⟩ | ⟨q1, rfl⟩
    · rw [hag id q1]; exact a2 id b q2 hown
    · rcases hown with q | q <;> cases q
  · intro id b hb' hk
    rcases get_last1 hb' with ⟨q1, q2⟩ | ⟨q1, rfl⟩
    · rw [hag id q1]; exact .inr ⟨id, b, q2, hk, fun x => x, rfl⟩
    · rw [q1, hmn]; exact .inl hN
theorem atoi_no (s : ByteArray) (hs : s.size ≤ 1048576) (ha : ∀ n, Lib.atoiAll s.data.toList ≠ .ok n) :
    ∃ q, ∀ h, ACalls Tryd.prog dE 59 #[.string s] h fun v h' => v = .tuple #[.int .i64 q, .iface 100 (.pointer (some ⟨h.length, 0, none⟩))] ∧ h' = h ++ [⟨1, 1, []⟩] := by
  cases hc : Lib.atoiAll s.data.toList with
  | ok n => exact absurd hc (ha n)
  | range =>
    refine ⟨Lib.atoiSat s.data.toList, fun h => acalls_fresh (by simp [af, af1]) fun m w r => ?_⟩
    obtain ⟨ev, e1, e2⟩ := tab_err r 1 (.inr rfl)
    refine (Tryd.strconv_Atoi_range s (by omega) hc ev w e1 e2).mono ?_
    rintro e w' ⟨N, a1, a2, a3, a4⟩
    exact ⟨N, a1, a2, (Array.getElem?_eq_some_iff.1 a3).1, a4⟩
  | _ =>
    refine ⟨0, fun h => acalls_fresh (by simp [af, af1]) fun m w r => ?_⟩
    obtain ⟨ev, e1, e2⟩ := tab_err r 0 (.inl rfl)
    refine (Tryd.strconv_Atoi_syntax s (by omega) hc ev w e1 e2).mono ?_
    rintro e w' ⟨N, a1, a2, a3, a4⟩
    exact ⟨N, a1, a2, (Array.getElem?_eq_some_iff.1 a3).1, a4⟩
end Go.Proofs.YtmjhfklmlcnofaaDoor.Am
namespace Go.Proofs.YtmjhfklmlcnofaaDoor.Am
open Go Go.Proofs Go.RowKit
set_option linter.unusedVariables false
set_option linter.unusedSimpArgs false
set_option maxRecDepth 100000
set_option maxHeartbeats 8000000
def txs (l : List ByteArray) : List Value := l.map Value.string
theorem app_slice {n : Nat} {L : Heap} {v : Value} {e : Nat} {cs : List Value} {len : Nat} (h : App n L v e cs len) : ∃ b, v = .slice b len len := by
  rcases h with ⟨rfl, rfl, _⟩ | ⟨_, _, k, rfl, _⟩
  · exact ⟨_, rfl⟩
  · exact ⟨_, rfl⟩
end Go.Proofs.YtmjhfklmlcnofaaDoor.Am
namespace Go.Proofs.YtmjhfklmlcnofaaDoor.Am
open Go Go.Proofs Go.RowKit
set_option linter.unusedVariables false
set_option linter.unusedSimpArgs false
set_option maxRecDepth 100000
set_option maxHeartbeats 8000000
def trs (l : List ByteArray) : List (List Value) := l.map fun s => [.string s]
theorem trs_flat : ∀ l : List ByteArray, (trs l).flatten = txs l
  | [] => rfl
  | t :: ts => by
      have := trs_flat ts
      simp only [trs, txs] at this
      simp [trs, txs, this]
theorem trs_len (l : List ByteArray) : ∀ r ∈ trs l, r.length = 1 := fun r hr => by
  obtain ⟨a, _, rfl⟩ := List.mem_map.1 hr
  rfl
theorem Tx.slk {h : Heap} {k c : Nat} {sp : Option Nat} {l : List ByteArray} {L : Heap} (hc : l.length ≤ c) (hb : L[k]? = some ⟨2, 1, txs l⟩) : Sl (h ++ L) (.slice (some ⟨h.length + k, 0, sp⟩) l.length c) 1 (trs l) := by
  have := Sl.of_block (h := h ++ L) (id := h.length + k) (k := 2) (c := c) (sp := sp) (rows := trs l) (by rw [get_at, trs_flat]; exact hb) (.inr rfl) (trs_len l) (by simpa [trs] using hc)
  simpa [trs] using this
end Go.Proofs.YtmjhfklmlcnofaaDoor.Am
