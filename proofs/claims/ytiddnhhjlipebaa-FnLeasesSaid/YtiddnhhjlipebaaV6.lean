/- A good desk stays one; plays. Conditions: none. -/
import Derived.Test.YtiddnhhjlipebaaK3
import Derived.Test.YtiddnhhjlipebaaV5
import Derived.Test.YtiddnhhjlipebaaV2
import Derived.Test.YtiddnhhjlipebaaV1
namespace Go.Proofs.Ytiddnhhjlipebaa.Am
open Go Go.Proofs
set_option linter.unusedVariables false
set_option linter.unusedSimpArgs false
set_option maxRecDepth 100000
set_option maxHeartbeats 8000000
theorem codeI_zero {people : List Int} {x : Item} {a : DAct} (h : codeI people x a = 0) :
    stateM a.kind x.state = true ∧ (a.kind ≠ 7 → isP people a.who = true ∧ isP people (toM a) = true ∧ roleM (people.getD a.who.toNat 0) x.role = true ∧ roleM (people.getD (toM a).toNat 0) x.role = true ∧ (a.kind ≠ 2 → x.who = a.who)) := by
  refine ⟨codeI_state h, fun h7 => ?_⟩
  unfold codeI at h
  rw [if_neg (by rw [codeI_state (people := people) (x := x) (a := a) (by unfold codeI; exact h)]; simp), if_neg h7] at h
  split at h
  · omega
  · rename_i q1
    split at h
    · omega
    · rename_i q2
      simp only [not_or, Bool.not_eq_false, not_and, Decidable.not_not] at q1 q2
      exact ⟨q1.1, q1.2, q2.1, q2.2.1, q2.2.2⟩
theorem itemOk_do {now : Int} {people : List Int} {x : Item} {a : DAct} (hx : itemOk now people x = true) (hk : 2 ≤ a.kind ∧ a.kind ≤ 7) (hc : codeI people x a = 0) : itemOk now people (doI now x a) = true := by
  obtain ⟨hs, hq⟩ := codeI_zero hc
  clear hc
  obtain ⟨kind, item, who, dst, cas, task, role, many⟩ := a
  obtain ⟨xc, xt, xr, xs, xw, xl⟩ := x
  simp only at hk hs hq
  have : kind = 2 ∨ kind = 3 ∨ kind = 4 ∨ kind = 5 ∨ kind = 6 ∨ kind = 7 := by omega
  rcases this with rfl | rfl | rfl | rfl | rfl | rfl <;>
    simp_all [doI, toM, stateM, isP, itemOk] <;> omega
theorem itemOk_tick {now m : Int} {people : List Int} {x : Item} (hx : itemOk now people x = true) (hm : 0 ≤ m) : itemOk (now + m) people (tickI (now + m) x) = true := by
  obtain ⟨xc, xt, xr, xs, xw, xl⟩ := x
  unfold tickI
  by_cases h2 : xs = 2
  · subst h2
    by_cases hl : xl ≤ now + m
    · simp only [hl, Z2b, Z2x]
      simp_all [itemOk]
    · simp only [hl, and_false, if_false]
      simp_all [itemOk]
      omega
  · simp only [h2, false_and, if_false]
    simp_all [itemOk]
theorem itemOk_free {now : Int} {people : List Int} {a : DAct} (hf : formM a = true) (hk : a.kind = 1) : itemOk now people (freeI a) = true := by
  simp only [formM, hk, Z2x, Bool.and_eq_true, decide_eq_true_eq] at hf
  obtain ⟨_, hr⟩ := hf
  obtain ⟨⟨a1, a2⟩, ⟨b1, b2⟩, c1, c2⟩ := hr
  simp [itemOk, freeI, a1, a2, b1, b2, c1, c2]
theorem deskOk_of {now : Int} {people : List Int} {items : List Item} (hn : 0 ≤ now ∧ now ≤ 10000) (hp : 1 ≤ people.length ∧ people.length ≤ 6) (hpp : people.all (fun n => decide (0 ≤ n ∧ n ≤ 15)) = true) (hl : items.length ≤ 40)
    (hi : ∀ x ∈ items, itemOk now people x = true) : deskOk now people items = true := by
  have h1 : decide (0 ≤ now ∧ now ≤ 10000) = true := decide_eq_true hn
  have h2 : decide (1 ≤ (people.length : Int) ∧ (people.length : Int) ≤ 6) = true := decide_eq_true (by omega)
  have h3 : decide ((items.length : Int) ≤ 40) = true := decide_eq_true (by omega)
  have h4 : items.all (itemOk now people) = true := List.all_eq_true.2 hi
  simp only [deskOk, h1, h2, hpp, h3, h4, Z1e]
theorem deskOk_all {now : Int} {people : List Int} {items : List Item} (h : deskOk now people items = true) : people.all (fun n => decide (0 ≤ n ∧ n ≤ 15)) = true := by
  simp only [deskOk, Bool.and_eq_true] at h; exact h.2.2.1
theorem deskOk_step {now : Int} {people : List Int} {items : List Item} {a : DAct} (hg : deskOk now people items = true) : deskOk (stepNow now a) people (stepItems now people items a) = true := by
  by_cases hc : stepCode now people items a = 0
  · have hfm : formM a = true := by
      unfold stepCode at hc
      rcases Bool.eq_false_or_eq_true (formM a) with q | q
      · exact q
      · simp [q] at hc
    have hkr := form_kind hfm
    have hn := deskOk_now hg
    have hl := deskOk_items hg
    have hp1 : 1 ≤ people.length ∧ people.length ≤ 6 := ⟨deskOk_people1 hg, deskOk_people hg⟩
    have hpp := deskOk_all hg
    unfold stepCode at hc
    unfold stepNow stepItems
    simp only [hfm, Bool.true_eq_false, if_false] at hc ⊢
    by_cases h1 : a.kind = 1
    · simp only [if_pos h1, show ¬ a.kind = 8 by omega, if_false] at hc ⊢
      by_cases h40 : items.length = 40
      · simp [h40] at hc
      · simp only [if_neg h40]
        refine deskOk_of hn hp1 hpp (by simp; omega) fun x hx => ?_
        rcases List.mem_append.1 hx with q | q
        · exact deskOk_item hg q
        · simp at q; subst q; exact itemOk_free hfm h1
    · simp only [if_neg h1] at hc ⊢
      by_cases h8 : a.kind = 8
      · simp only [if_pos h8] at hc ⊢
        by_cases hov : 10000 < now + a.many
        · simp [hov] at hc
        · simp only [if_neg hov]
          have hm := form_many hfm h8
          refine deskOk_of (by omega) hp1 hpp (by simpa using hl) fun x hx => ?_
          obtain ⟨y, hy, rfl⟩ := List.mem_map.1 hx
          exact itemOk_tick (deskOk_item hg hy) hm.1
      · simp only [if_neg h8] at hc ⊢
        by_cases hr : inRange items a
        · simp only [if_pos hr] at hc ⊢
          have hi3 : a.item.toNat < items.length := by obtain ⟨q1, q2⟩ := hr; omega
          have hgd : items.getD a.item.toNat Item.nil = items[a.item.toNat] := by rw [List.getD_eq_getElem?_getD, List.getElem?_eq_getElem hi3]; rfl
          rw [hgd] at hc ⊢
          refine deskOk_of hn hp1 hpp (by simpa using hl) fun x hx => ?_
          rcases List.mem_or_eq_of_mem_set hx with q | q
          · exact deskOk_item hg q
          · rw [q, nextI, if_pos hc]
            exact itemOk_do (deskOk_item hg (List.getElem_mem hi3)) (by omega) hc
        · simp [hr] at hc
  · obtain ⟨e1, e2⟩ := step_pos hc
    rw [e1, e2]; exact hg
/-- A play: the time, the items, the codes. -/
def playT (people : List Int) (s : Int × List Item × List Int) (a : DAct) : Int × List Item × List Int := (stepNow s.1 a, stepItems s.1 people s.2.1 a, s.2.2 ++ [stepCode s.1 people s.2.1 a])
def playA (people : List Int) (l : List DAct) : Int × List Item × List Int := l.foldl (playT people) (0, [], [])
theorem playA_snoc (people : List Int) {l : List DAct} {k : Nat} (hk : k < l.length) : playA people (l.take (k + 1)) = playT people (playA people (l.take k)) l[k] := by
  rw [← List.take_append_getElem hk, playA, List.foldl_append]; rfl
theorem playA_inv (people : List Int) (hg : deskOk 0 people [] = true) (l : List DAct) : ∀ k, k ≤ l.length → deskOk (playA people (l.take k)).1 people (playA people (l.take k)).2.1 = true ∧ (playA people (l.take k)).2.2.length = k
  | 0, _ => by simp [playA, hg]
  | k + 1, hk => by
      obtain ⟨h1, h2⟩ := playA_inv people hg l k (by omega)
      rw [playA_snoc people (by omega : k < l.length)]
      exact ⟨deskOk_step h1, by simp [playT, h2]⟩
end Go.Proofs.Ytiddnhhjlipebaa.Am
namespace Go.Proofs.Ytiddnhhjlipebaa.Am
open Go Go.Proofs
set_option linter.unusedVariables false
set_option linter.unusedSimpArgs false
set_option maxRecDepth 100000
set_option maxHeartbeats 8000000
/-- Where the items of a play lie. -/
def ItAt (n : Nat) (X : Heap) (vi : Value) (items : List Item) : Prop :=
  (items = [] ∧ vi = .slice none 0 0) ∨ (items ≠ [] ∧ ∃ j, X[j]? = some ⟨2, 6, cellsL items⟩ ∧ vi = .slice (some ⟨n + (j + 4), 0, some 0⟩) items.length items.length)
theorem ItAt.flat {n : Nat} {X : Heap} {vi : Value} {items : List Item} (h : ItAt n X vi items) : Am.flat vi = true := by
  rcases h with ⟨_, rfl⟩ | ⟨_, j, _, rfl⟩ <;> rfl
theorem deskOk_nil (people : List Int) : deskOk 0 people [] = peopleOk people := by simp [deskOk, peopleOk]
theorem play_none {h L : Heap} : ∃ (L' : Heap) (ks : List Nat), h ++ L = h ++ L' ∧ Inj ks ∧ ks.length = ([] : Heap).length ∧ BsOk [] L' ks ∧
      RV h.length L' ks (.tuple #[.agg #[.int .i64 0, .slice none 0 0, .slice none 0 0], .slice none 0 0, .bool false]) (.tuple #[.agg #[.int .i64 0, .slice none 0 0, .slice none 0 0], .slice none 0 0, .bool false]) :=
  ⟨L, [], rfl, Inj.nil, rfl, BsOk.nil _ _, RVl.tuple (l := [_, _, _]) (l' := [_, _, _]) ⟨RVl.agg (l := [_, _, _]) (l' := [_, _, _]) ⟨.plain _ rfl, .plain _ rfl, .plain _ rfl, trivial⟩, .plain _ rfl, .plain _ rfl, trivial⟩⟩
end Go.Proofs.Ytiddnhhjlipebaa.Am
namespace Go.Proofs.Ytiddnhhjlipebaa.Am
open Go Go.Proofs
set_option linter.unusedVariables false
set_option linter.unusedSimpArgs false
set_option maxRecDepth 100000
set_option maxHeartbeats 8000000
def playDsV (n : Nat) (people : List Int) (l : List DAct) : Value :=
  if peopleOk people && decide ((l.length : Int) ≤ 60) then
    (if l = [] then .tuple #[.agg #[.int .i64 0, .slice (some ⟨n, 0, some 0⟩) people.length people.length, .slice none 0 0], .slice none 0 0, .bool true]
    else .tuple #[.agg #[.int .i64 (playA people l).1, .slice (some ⟨n, 0, some 0⟩) people.length people.length, .slice (some ⟨n + 1, 0, some 0⟩) (playA people l).2.1.length (playA people l).2.1.length], .slice (some ⟨n + 2, 0, some 0⟩) l.length l.length, .bool true])
  else .tuple #[.agg #[.int .i64 0, .slice none 0 0, .slice none 0 0], .slice none 0 0, .bool false]
def playDsL (people : List Int) (l : List DAct) : Heap :=
  if peopleOk people && decide ((l.length : Int) ≤ 60) then (if l = [] then [⟨2, 1, (ints people).flatten⟩] else [⟨2, 1, (ints people).flatten⟩, ⟨2, 6, cellsL (playA people l).2.1⟩, ⟨2, 1, (ints (playA people l).2.2).flatten⟩]) else []
theorem plays_keep {h X : Heap} {people : List Int} {items : List Item} {codes : List Int} {now : Int} {n j1 j2 jc : Nat} (hn : codes.length = n) (h1 : X[j1]? = some ⟨2, 1, (ints people).flatten⟩) (h2 : X[j2]? = some ⟨2, 6, cellsL items⟩) (hc : X[jc]? = some ⟨2, 1, (ints codes).flatten⟩)
    (n1 : j1 ≠ j2) (n2 : j1 ≠ jc) (n3 : j2 ≠ jc) (A B C : Blk) :
    ∃ (L' : Heap) (ks : List Nat), h ++ (A :: B :: C :: X) = h ++ L' ∧ Inj ks ∧ ks.length = ([(⟨2, 1, (ints people).flatten⟩ : Blk), ⟨2, 6, cellsL items⟩, ⟨2, 1, (ints codes).flatten⟩]).length ∧
      BsOk [⟨2, 1, (ints people).flatten⟩, ⟨2, 6, cellsL items⟩, ⟨2, 1, (ints codes).flatten⟩] L' ks ∧
      RV h.length L' ks (.tuple #[.agg #[.int .i64 now, .slice (some ⟨h.length, 0, some 0⟩) people.length people.length, .slice (some ⟨h.length + 1, 0, some 0⟩) items.length items.length], .slice (some ⟨h.length + 2, 0, some 0⟩) n n, .bool true])
        (.tuple #[.agg #[.int .i64 now, .slice (some ⟨h.length + (j1 + 3), 0, some 0⟩) people.length people.length, .slice (some ⟨h.length + (j2 + 3), 0, some 0⟩) items.length items.length], .slice (some ⟨h.length + (jc + 3), 0, some 0⟩) n n, .bool true]) := by
  subst hn
  have e : ∀ {j : Nat} {b : Blk}, X[j]? = some b → (A :: B :: C :: X)[j + 3]? = some b := fun q => by simpa using q
  refine ⟨_, [j1 + 3, j2 + 3, jc + 3], rfl, Inj.three (by omega) (by omega) (by omega), rfl, BsOk.cons rfl (ints_af _) (e h1) (BsOk.cons rfl (cellsL_af _) (e h2) (BsOk.cons rfl (ints_af _) (e hc) (BsOk.nil _ _))), ?_⟩
  exact RVl.tuple (l := [_, _, _]) (l' := [_, _, _]) ⟨RVl.agg (l := [_, _, _]) (l' := [_, _, _]) ⟨.plain _ rfl, .sl 0 _ _ _ 1 _ _ rfl (e h1) (ints_flen _) (Z4 _) (.inr rfl), .sl 1 _ _ _ 6 _ _ rfl (e h2) (cellsL_len _) (Z4 _) (.inr rfl), trivial⟩,
    .sl 2 _ _ _ 1 _ _ rfl (e hc) (ints_flen _) (Z4 _) (.inr rfl), .plain _ rfl, trivial⟩
theorem plays_keep0 {h X : Heap} {people : List Int} (A C : Blk) :
    ∃ (L' : Heap) (ks : List Nat), h ++ (A :: ⟨2, 1, (ints people).flatten⟩ :: C :: X) = h ++ L' ∧ Inj ks ∧ ks.length = ([(⟨2, 1, (ints people).flatten⟩ : Blk)]).length ∧ BsOk [⟨2, 1, (ints people).flatten⟩] L' ks ∧
      RV h.length L' ks (.tuple #[.agg #[.int .i64 0, .slice (some ⟨h.length, 0, some 0⟩) people.length people.length, .slice none 0 0], .slice none 0 0, .bool true])
        (.tuple #[.agg #[.int .i64 0, .slice (some ⟨h.length + 1, 0, some 0⟩) people.length people.length, .slice none 0 0], .slice none 0 0, .bool true]) :=
  ⟨_, [1], rfl, Inj.one _, rfl, BsOk.cons rfl (ints_af _) rfl (BsOk.nil _ _),
    RVl.tuple (l := [_, _, _]) (l' := [_, _, _]) ⟨RVl.agg (l := [_, _, _]) (l' := [_, _, _]) ⟨.plain _ rfl, .sl 0 1 _ _ 1 _ _ rfl rfl (ints_flen _) (Z4 _) (.inr rfl), .plain _ rfl, trivial⟩, .plain _ rfl, .plain _ rfl, trivial⟩⟩
/-- Where a play's parts lie. -/
def SpAt (n : Nat) (people : List Int) (k : Nat) (X : Heap) (vp vi vc : Value) (items : List Item) (cs : List Int) : Prop :=
  (k = 0 ∧ X = [] ∧ vp = .slice (some ⟨n + 1, 0, some 0⟩) people.length people.length ∧ vi = .slice none 0 0 ∧ vc = .slice none 0 0 ∧ items = [] ∧ cs = []) ∨
  (0 < k ∧ ∃ j1 j2 jc, X[j1]? = some ⟨2, 1, (ints people).flatten⟩ ∧ X[j2]? = some ⟨2, 6, cellsL items⟩ ∧ X[jc]? = some ⟨2, 1, (ints cs).flatten⟩ ∧ j1 ≠ j2 ∧ j1 ≠ jc ∧ j2 ≠ jc ∧
    vp = .slice (some ⟨n + (j1 + 3), 0, some 0⟩) people.length people.length ∧ vi = .slice (some ⟨n + (j2 + 3), 0, some 0⟩) items.length items.length ∧ vc = .slice (some ⟨n + (jc + 3), 0, some 0⟩) k k)
theorem ints_one (x : Int) : ints [x] = [[.int .i64 x]] := rfl
theorem sp_sl1 {h X : Heap} {people : List Int} {j : Nat} (hj : X[j]? = some ⟨2, 1, (ints people).flatten⟩) (A B C : Blk) (Y : Heap) : Sl (h ++ A :: B :: C :: (X ++ Y)) (.slice (some ⟨h.length + (j + 3), 0, some 0⟩) people.length people.length) 1 (ints people) :=
  sl_ints (h := h) (k := j + 3) (Z4 _) (by simp only [Z0]; exact get_old hj)
theorem sp_sl2 {h X : Heap} {items : List Item} {j : Nat} (hj : X[j]? = some ⟨2, 6, cellsL items⟩) (A B C : Blk) (Y : Heap) : Sl (h ++ A :: B :: C :: (X ++ Y)) (.slice (some ⟨h.length + (j + 3), 0, some 0⟩) items.length items.length) 6 (items.map Item.cells) :=
  sl_items (h := h) (k := j + 3) (Z4 _) (by simp only [Z0]; exact get_old hj)
theorem specPlayDesk_ok (people : List Int) (l : List DAct) (ap : Addr) (c : Nat) (vl : Value) (h : Heap) (hp : Sl h (.slice (some ap) people.length c) 1 (ints people)) (hs : Sl h vl 8 (l.map DAct.cells)) (hl : people.length ≤ 1048576) (hll : l.length ≤ 1048576) :
    ACalls Try.prog 0 57 #[.slice (some ap) people.length c, vl] h fun v h' => v = playDsV h.length people l ∧ h' = h ++ playDsL people l := by
  refine acalls_canon _ _ ?_
  have hf := hs.flat
  obtain ⟨bl, cl, rfl, hcl, hrow⟩ := id hs
  simp only [Zv] at hf hcl hs ⊢
  have hdn := deskOk_nil people
  rcases Bool.eq_false_or_eq_true (peopleOk people) with hk | hk
  · by_cases h60 : (l.length : Int) ≤ 60
    · have h60' : decide (60 < (l.length : Int)) = false := decide_eq_false (by omega)
      simp only [playDsV, playDsL, hk, decide_eq_true h60, Z1e, Z2x]
      refine Z36 Try.func57 rfl Try.ntmps57 (by simp) (by dsimp only [Try.f57]) ?_
      repeat' (first | ((with_reducible refine eq_go ?_); simp only [stp, ev, ZB, reduceIte, Nat.reduceEqDiff, Z2x, Z13, Zy, bld, fillL, vcs, splice, Ze, ZH, Z35, ldv, stv, idxA, blt, lenV, Z10, Zg, Z14, Zw, Z33, Nat.reduceAdd, Nat.reduceMul, Nat.reduceLeDiff, newB, Ty.t3, Ty.t24, Ty.t56, Ty.t58, Ty.t71, Ty.t77, Ty.t80, newDeskV, newDeskL, *]; rfl) | (with_reducible first | refine aw_then ?_ | refine aw_skip ?_ | refine aw_ret ?_ | refine aw_exit ?_ | refine aw_block ?_ | refine xr_reg (by decide +kernel) ?_ | refine xr_nil ?_ | refine k_norm ?_ | refine k_ret ?_ | refine k_exit ?_ | refine b_norm ?_ | refine b_ret ?_ | refine b_exit ?_ | refine b_past (by decide) ?_) | (refine Ty.c46 (args := ?_) (K := ?_) ?_ ?_ ?_; rotate_left 2) | (refine Ty.c110 (args := ?_) (K := ?_) ?_ ?_ ?_; rotate_left 2) | (refine xr_do (v := ?_) (h' := ?_) (by exact rfl) ?_ ?_; rotate_left 2) | (refine xr_st (v := ?_) (h' := ?_) (by exact rfl) ?_ ?_; rotate_left 2) | (refine xr_g (b := ?_) (by exact rfl) ?_ ?_; rotate_left 1; (· simp only [ev, Zb, reduceIte, Nat.reduceEqDiff, Z8, Z5, *]; rfl)) | (with_reducible first | refine gw_tt ?_ | refine gw_ff ?_ | refine gw_tf ?_ | refine gw_ft ?_ | refine gw_un ?_) | refine gw_if (fun hb => ?_) (fun hb => ?_) | (refine aw_c (b := ?_) (by decide) ?_ ?_; rotate_left 1; (· simp only [ev, Zb, reduceIte, Nat.reduceEqDiff, *]; rfl)) | (with_reducible first | refine cw_t ?_ | refine cw_f ?_) | refine cw_if (fun hb => ?_) (fun hb => ?_) | (refine r_ret (vs := ?_) ?_ ?_; rotate_left 1; (· simp only [resV, oneOf, stp, ev, ZB, reduceIte, Nat.reduceEqDiff, Z2x, Z13, Zy, bld, fillL, vcs, splice, Ze, ZH, Z35, ldv, stv, idxA, blt, lenV, Z10, Zg, Z14, Zw, Z33, Nat.reduceAdd, Nat.reduceMul, Nat.reduceLeDiff, newB, Ty.t3, Ty.t24, Ty.t56, Ty.t58, Ty.t71, Ty.t77, Ty.t80, newDeskV, newDeskL, *]; rfl)) | ((with_reducible refine specNewDesk_ok people _ _ _ ?_ ?_); (· first | assumption | exact Sl.old (by assumption) _ | ((try (simp only [deskV, deskL, Z11, Z12, Z1y, Z1h, Za, Z9, Z7, Zc, Zd, Z6, Z3, Z2, Zf, Zi, Nat.reduceAdd, Zh])); first | exact Sl.old (by assumption) _ | exact sl_nilints | exact sl_nilitems | (refine sl_ints (Z4 _) ?_; exact rfl) | (refine sl_items (Z4 _) ?_; exact rfl) | (refine sl_ints0 (Z4 _) ?_; exact rfl) | (refine sl_items0 (Z4 _) ?_; exact rfl))); (· first | omega | (simp only [Z2]; omega))) | ((with_reducible refine l16Step_ok _ people items _ _ _ _ _ ?_ ?_ ?_ ?_); (· first | assumption | exact Sl.old (by assumption) _ | ((try (simp only [deskV, deskL, Z11, Z12, Z1y, Z1h, Za, Z9, Z7, Zc, Zd, Z6, Z3, Z2, Zf, Zi, Nat.reduceAdd, Zh])); first | exact Sl.old (by assumption) _ | exact sl_nilints | exact sl_nilitems | (refine sl_ints (Z4 _) ?_; exact rfl) | (refine sl_items (Z4 _) ?_; exact rfl) | (refine sl_ints0 (Z4 _) ?_; exact rfl) | (refine sl_items0 (Z4 _) ?_; exact rfl))); (· first | assumption | exact Sl.old (by assumption) _ | ((try (simp only [deskV, deskL, Z11, Z12, Z1y, Z1h, Za, Z9, Z7, Zc, Zd, Z6, Z3, Z2, Zf, Zi, Nat.reduceAdd, Zh])); first | exact Sl.old (by assumption) _ | exact sl_nilints | exact sl_nilitems | (refine sl_ints (Z4 _) ?_; exact rfl) | (refine sl_items (Z4 _) ?_; exact rfl) | (refine sl_ints0 (Z4 _) ?_; exact rfl) | (refine sl_items0 (Z4 _) ?_; exact rfl))); (· assumption); (· (intro i q; have hz := hvb2 i q; simp only [Z6, Z3, Z2]; omega))) | ((with_reducible refine Z2w ?_); rintro _ _ ⟨rfl, hh⟩; replace hh := hh.symm; subst hh))
      refine aw_for [4, 7, 27, 28] (fun k T h' => ∃ X vp vi, h' = h ++ (⟨2, 1, [.int .i64 0, .slice none 0 0, .slice none 0 0]⟩ :: ⟨2, 1, (ints people).flatten⟩ :: ⟨2, 1, [.int .i64 (playA people (l.take k)).1, vp, vi]⟩ :: X) ∧
        T 29 = .int .i64 (k : Nat) ∧ SpAt h.length people k X vp vi (T 9) (playA people (l.take k)).2.1 (playA people (l.take k)).2.2) l.length (k0 := 0) (Nat.zero_le _) ⟨[], _, _, rfl, rfl, .inl ⟨rfl, rfl, rfl, rfl, rfl, rfl, rfl⟩⟩ ?_
      rintro k T h' hkl hR ⟨X, vp, vi, rfl, h29, hat⟩
      simp only [Z37, Z38, Z39, implies_true, and_true, stp, ev, ZB, reduceIte, Nat.reduceEqDiff, Z2x, Z13, Zy] at hR
      obtain ⟨hgk, hlk⟩ := playA_inv people (hdn.trans hk) l k hkl
      rcases Nat.lt_or_ge k l.length with hkn | hkn
      · have h1 : (k : Int) < l.length := by omega
        have hsn := playA_snoc people hkn
        obtain ⟨al, rfl, hld0⟩ := Sl.row hrow (k := k) (by simpa using hkn)
        rw [List.getElem_map] at hld0
        have hld := loadCs_old hld0
        generalize playA people (l.take k) = s at hgk hlk hsn hat ⊢
        obtain ⟨now, items, cs⟩ := s
        simp only at hgk hlk hat
        generalize l[k] = a at hsn hld
        clear hs hrow hld0 h60' hdn hk
        have hpl := deskOk_people hgk
        rcases hat with ⟨rfl, rfl, rfl, rfl, h9, rfl, rfl⟩ | ⟨h0, j1, j2, jc, b1, b2, bc, n1, n2, n3, rfl, rfl, h9⟩
        · simp only [Nat.zero_mul, Zi] at hld
          have hbs := bsl_one (h := h ++ (⟨2, 1, [.int .i64 0, .slice none 0 0, .slice none 0 0]⟩ :: ⟨2, 1, (ints people).flatten⟩ :: ⟨2, 1, [.int .i64 (stepNow now a), .slice (some ⟨h.length + 4, 0, some 0⟩) people.length people.length, .slice (some ⟨h.length + 5, 0, some 0⟩) (stepItems now people [] a).length (stepItems now people [] a).length]⟩ :: [⟨2, 1, a.cells⟩, ⟨2, 1, (ints people).flatten⟩, ⟨2, 6, cellsL (stepItems now people [] a)⟩, ⟨2, 1, [.int .i64 (stepNow now a), .slice (some ⟨h.length + 4, 0, some 0⟩) people.length people.length, .slice (some ⟨h.length + 5, 0, some 0⟩) (stepItems now people [] a).length (stepItems now people [] a).length]⟩])) (x := .int .i64 (stepCode now people [] a)) Ty.sl24 Ty.zc3 rfl rfl
          have hap := apS_nil (P := Try.prog) (H := h ++ (⟨2, 1, [.int .i64 0, .slice none 0 0, .slice none 0 0]⟩ :: ⟨2, 1, (ints people).flatten⟩ :: ⟨2, 1, [.int .i64 (stepNow now a), .slice (some ⟨h.length + 4, 0, some 0⟩) people.length people.length, .slice (some ⟨h.length + 5, 0, some 0⟩) (stepItems now people [] a).length (stepItems now people [] a).length]⟩ :: [⟨2, 1, a.cells⟩, ⟨2, 1, (ints people).flatten⟩, ⟨2, 6, cellsL (stepItems now people [] a)⟩, ⟨2, 1, [.int .i64 (stepNow now a), .slice (some ⟨h.length + 4, 0, some 0⟩) people.length people.length, .slice (some ⟨h.length + 5, 0, some 0⟩) (stepItems now people [] a).length (stepItems now people [] a).length]⟩, ⟨2, 1, [.int .i64 (stepCode now people [] a)]⟩])) (id2 := h.length + 7) (sp := none) (m := 1) (xs := [.int .i64 (stepCode now people [] a)])
            Ty.sl24 Ty.zc3 Ty.by3 (by rw [get_at]; rfl) rfl (by decide) (by omega) (by omega)
          simp only [Z7, Zc, Zd, Z6, Z3, Z2, Zf, Zh, Nat.reduceAdd, ints_one] at hbs hap
          repeat' (first | ((with_reducible refine eq_go ?_); simp only [stp, ev, ZB, reduceIte, Nat.reduceEqDiff, Z2x, Z13, Zy, bld, fillL, vcs, splice, Ze, ZH, Z35, ldv, stv, idxA, blt, lenV, Z10, Zg, Z14, Zw, Z33, Nat.reduceAdd, Nat.reduceMul, Nat.reduceLeDiff, newB, Ty.t3, Ty.t24, Ty.t56, Ty.t58, Ty.t71, Ty.t77, Ty.t80, DAct.cells_length, DAct.cells_flat, DAct.cells_take, DAct.cells_splice, *]; rfl) | (with_reducible first | refine aw_then ?_ | refine aw_skip ?_ | refine aw_ret ?_ | refine aw_exit ?_ | refine aw_block ?_ | refine xr_reg (by decide +kernel) ?_ | refine xr_nil ?_ | refine k_norm ?_ | refine k_ret ?_ | refine k_exit ?_ | refine b_norm ?_ | refine b_ret ?_ | refine b_exit ?_ | refine b_past (by decide) ?_) | (refine Ty.c46 (args := ?_) (K := ?_) ?_ ?_ ?_; rotate_left 2) | (refine Ty.c110 (args := ?_) (K := ?_) ?_ ?_ ?_; rotate_left 2) | (refine xr_do (v := ?_) (h' := ?_) (by exact rfl) ?_ ?_; rotate_left 2) | (refine xr_st (v := ?_) (h' := ?_) (by exact rfl) ?_ ?_; rotate_left 2) | (refine xr_g (b := ?_) (by exact rfl) ?_ ?_; rotate_left 1; (· simp only [ev, Zb, reduceIte, Nat.reduceEqDiff, Z8, Z5, *]; rfl)) | (with_reducible first | refine gw_tt ?_ | refine gw_ff ?_ | refine gw_tf ?_ | refine gw_ft ?_ | refine gw_un ?_) | refine gw_if (fun hb => ?_) (fun hb => ?_) | (refine aw_c (b := ?_) (by decide) ?_ ?_; rotate_left 1; (· simp only [ev, Zb, reduceIte, Nat.reduceEqDiff, *]; rfl)) | (with_reducible first | refine cw_t ?_ | refine cw_f ?_) | refine cw_if (fun hb => ?_) (fun hb => ?_) | (refine r_ret (vs := ?_) ?_ ?_; rotate_left 1; (· simp only [resV, oneOf, stp, ev, ZB, reduceIte, Nat.reduceEqDiff, Z2x, Z13, Zy, bld, fillL, vcs, splice, Ze, ZH, Z35, ldv, stv, idxA, blt, lenV, Z10, Zg, Z14, Zw, Z33, Nat.reduceAdd, Nat.reduceMul, Nat.reduceLeDiff, newB, Ty.t3, Ty.t24, Ty.t56, Ty.t58, Ty.t71, Ty.t77, Ty.t80, DAct.cells_length, DAct.cells_flat, DAct.cells_take, DAct.cells_splice, *]; rfl)) | ((with_reducible refine specNewDesk_ok people _ _ _ ?_ ?_); (· first | assumption | exact Sl.old (by assumption) _ | ((try (simp only [deskV, deskL, Z11, Z12, Z1y, Z1h, Za, Z9, Z7, Zc, Zd, Z6, Z3, Z2, Zf, Zi, Nat.reduceAdd, Zh])); first | exact Sl.old (by assumption) _ | exact sl_nilints | exact sl_nilitems | (refine sl_ints (Z4 _) ?_; exact rfl) | (refine sl_items (Z4 _) ?_; exact rfl) | (refine sl_ints0 (Z4 _) ?_; exact rfl) | (refine sl_items0 (Z4 _) ?_; exact rfl))); (· first | omega | (simp only [Z2]; omega))) | ((with_reducible refine l16Step_ok _ people [] _ _ _ _ _ ?_ ?_ ?_ ?_); (· first | assumption | exact Sl.old (by assumption) _ | ((try (simp only [deskV, deskL, Z11, Z12, Z1y, Z1h, Za, Z9, Z7, Zc, Zd, Z6, Z3, Z2, Zf, Zi, Nat.reduceAdd, Zh])); first | exact Sl.old (by assumption) _ | exact sl_nilints | exact sl_nilitems | (refine sl_ints (Z4 _) ?_; exact rfl) | (refine sl_items (Z4 _) ?_; exact rfl) | (refine sl_ints0 (Z4 _) ?_; exact rfl) | (refine sl_items0 (Z4 _) ?_; exact rfl))); (· first | assumption | exact Sl.old (by assumption) _ | ((try (simp only [deskV, deskL, Z11, Z12, Z1y, Z1h, Za, Z9, Z7, Zc, Zd, Z6, Z3, Z2, Zf, Zi, Nat.reduceAdd, Zh])); first | exact Sl.old (by assumption) _ | exact sl_nilints | exact sl_nilitems | (refine sl_ints (Z4 _) ?_; exact rfl) | (refine sl_items (Z4 _) ?_; exact rfl) | (refine sl_ints0 (Z4 _) ?_; exact rfl) | (refine sl_items0 (Z4 _) ?_; exact rfl))); (· assumption); (· (intro i q; simp [bid] at q))) | ((with_reducible refine Z2w ?_); rintro _ _ ⟨rfl, hh⟩; replace hh := hh.symm; subst hh))
          refine ⟨by first | assumption | omega, ?_, ?_⟩
          · simp only [Z37, Z38, Z39, implies_true, and_true, ZB, stp, ev, reduceIte, Nat.reduceEqDiff, Z2x, Z13, Zy, *]
          rw [hsn]
          refine ⟨_, .slice (some ⟨h.length + 4, 0, some 0⟩) people.length people.length, .slice (some ⟨h.length + 5, 0, some 0⟩) (stepItems now people [] a).length (stepItems now people [] a).length, rfl, ?_, .inr ⟨by omega, 1, 2, 5, rfl, rfl, ?_, by decide, by decide, by decide, rfl, rfl, ?_⟩⟩
          all_goals first | (simp only [Zb, reduceIte, Nat.reduceEqDiff]; rw [wrap_id (by omega)]; rfl) | (simp [playT, ints]; done) | (simp only [Zb, reduceIte, Nat.reduceEqDiff]; rfl) | (simp [Zb, Zh]; done) | (simp only [Zb, reduceIte, Nat.reduceEqDiff]; skip)
        · have hl1 := lt_of_get b1
          have hl2 := lt_of_get b2
          have hlc := lt_of_get bc
          have hset : ∀ (b : Blk) (Y : Heap), (X ++ Y).set jc b = X.set jc b ++ Y := fun b Y => List.set_append_left _ _ hlc
          have hbs := bsl_one (h := h ++ (⟨2, 1, [.int .i64 0, .slice none 0 0, .slice none 0 0]⟩ :: ⟨2, 1, (ints people).flatten⟩ :: ⟨2, 1, [.int .i64 (stepNow now a), .slice (some ⟨h.length + (X.length + 4), 0, some 0⟩) people.length people.length, .slice (some ⟨h.length + (X.length + 5), 0, some 0⟩) (stepItems now people items a).length (stepItems now people items a).length]⟩ :: (X ++ [⟨2, 1, a.cells⟩, ⟨2, 1, (ints people).flatten⟩, ⟨2, 6, cellsL (stepItems now people items a)⟩, ⟨2, 1, [.int .i64 (stepNow now a), .slice (some ⟨h.length + (X.length + 4), 0, some 0⟩) people.length people.length, .slice (some ⟨h.length + (X.length + 5), 0, some 0⟩) (stepItems now people items a).length (stepItems now people items a).length]⟩]))) (x := .int .i64 (stepCode now people items a)) Ty.sl24 Ty.zc3 rfl rfl
          have hap := apS_full (P := Try.prog) (H := h ++ (⟨2, 1, [.int .i64 0, .slice none 0 0, .slice none 0 0]⟩ :: ⟨2, 1, (ints people).flatten⟩ :: ⟨2, 1, [.int .i64 (stepNow now a), .slice (some ⟨h.length + (X.length + 4), 0, some 0⟩) people.length people.length, .slice (some ⟨h.length + (X.length + 5), 0, some 0⟩) (stepItems now people items a).length (stepItems now people items a).length]⟩ :: (X ++ [⟨2, 1, a.cells⟩, ⟨2, 1, (ints people).flatten⟩, ⟨2, 6, cellsL (stepItems now people items a)⟩, ⟨2, 1, [.int .i64 (stepNow now a), .slice (some ⟨h.length + (X.length + 4), 0, some 0⟩) people.length people.length, .slice (some ⟨h.length + (X.length + 5), 0, some 0⟩) (stepItems now people items a).length (stepItems now people items a).length]⟩, ⟨2, 1, [.int .i64 (stepCode now people items a)]⟩]))) (id1 := h.length + (jc + 3)) (id2 := h.length + (X.length + 7)) (sp := none) (n := k) (m := 1) (cs := (ints cs).flatten) (xs := [.int .i64 (stepCode now people items a)])
            Ty.sl24 Ty.zc3 Ty.by3 (by rw [get_at]; simp only [Z0]; exact get_old bc) (by rw [get_at]; simp only [Z0]; rw [get_at]; rfl) (by rw [← hlk]; exact ints_flen _) rfl (by decide) (by omega) (by omega)
          simp only [Z7, Zc, Zd, Z6, Z3, Z2, Zf, Zh, Nat.reduceAdd, ints_one, Z1y, Za, hset] at hbs hap
          repeat' (first | ((with_reducible refine eq_go ?_); simp only [stp, ev, ZB, reduceIte, Nat.reduceEqDiff, Z2x, Z13, Zy, bld, fillL, vcs, splice, Ze, ZH, Z35, ldv, stv, idxA, blt, lenV, Z10, Zg, Z14, Zw, Z33, Nat.reduceAdd, Nat.reduceMul, Nat.reduceLeDiff, newB, Ty.t3, Ty.t24, Ty.t56, Ty.t58, Ty.t71, Ty.t77, Ty.t80, DAct.cells_length, DAct.cells_flat, DAct.cells_take, DAct.cells_splice, *]; rfl) | (with_reducible first | refine aw_then ?_ | refine aw_skip ?_ | refine aw_ret ?_ | refine aw_exit ?_ | refine aw_block ?_ | refine xr_reg (by decide +kernel) ?_ | refine xr_nil ?_ | refine k_norm ?_ | refine k_ret ?_ | refine k_exit ?_ | refine b_norm ?_ | refine b_ret ?_ | refine b_exit ?_ | refine b_past (by decide) ?_) | (refine Ty.c46 (args := ?_) (K := ?_) ?_ ?_ ?_; rotate_left 2) | (refine Ty.c110 (args := ?_) (K := ?_) ?_ ?_ ?_; rotate_left 2) | (refine xr_do (v := ?_) (h' := ?_) (by exact rfl) ?_ ?_; rotate_left 2) | (refine xr_st (v := ?_) (h' := ?_) (by exact rfl) ?_ ?_; rotate_left 2) | (refine xr_g (b := ?_) (by exact rfl) ?_ ?_; rotate_left 1; (· simp only [ev, Zb, reduceIte, Nat.reduceEqDiff, Z8, Z5, *]; rfl)) | (with_reducible first | refine gw_tt ?_ | refine gw_ff ?_ | refine gw_tf ?_ | refine gw_ft ?_ | refine gw_un ?_) | refine gw_if (fun hb => ?_) (fun hb => ?_) | (refine aw_c (b := ?_) (by decide) ?_ ?_; rotate_left 1; (· simp only [ev, Zb, reduceIte, Nat.reduceEqDiff, *]; rfl)) | (with_reducible first | refine cw_t ?_ | refine cw_f ?_) | refine cw_if (fun hb => ?_) (fun hb => ?_) | (refine r_ret (vs := ?_) ?_ ?_; rotate_left 1; (· simp only [resV, oneOf, stp, ev, ZB, reduceIte, Nat.reduceEqDiff, Z2x, Z13, Zy, bld, fillL, vcs, splice, Ze, ZH, Z35, ldv, stv, idxA, blt, lenV, Z10, Zg, Z14, Zw, Z33, Nat.reduceAdd, Nat.reduceMul, Nat.reduceLeDiff, newB, Ty.t3, Ty.t24, Ty.t56, Ty.t58, Ty.t71, Ty.t77, Ty.t80, DAct.cells_length, DAct.cells_flat, DAct.cells_take, DAct.cells_splice, *]; rfl)) | ((with_reducible refine specNewDesk_ok people _ _ _ ?_ ?_); (· first | assumption | exact Sl.old (by assumption) _ | ((try (simp only [deskV, deskL, Z11, Z12, Z1y, Z1h, Za, Z9, Z7, Zc, Zd, Z6, Z3, Z2, Zf, Zi, Nat.reduceAdd, Zh])); first | exact Sl.old (by assumption) _ | exact sl_nilints | exact sl_nilitems | (refine sl_ints (Z4 _) ?_; exact rfl) | (refine sl_items (Z4 _) ?_; exact rfl) | (refine sl_ints0 (Z4 _) ?_; exact rfl) | (refine sl_items0 (Z4 _) ?_; exact rfl))); (· first | omega | (simp only [Z2]; omega))) | ((with_reducible refine l16Step_ok _ people items _ _ _ _ _ ?_ ?_ ?_ ?_); (· exact sp_sl1 b1 _ _ _ _); (· exact sp_sl2 b2 _ _ _ _); (· assumption); (· (intro i q; simp only [bid, Option.some.injEq] at q; simp only [Z6, Z3, Z2]; omega))) | ((with_reducible refine Z2w ?_); rintro _ _ ⟨rfl, hh⟩; replace hh := hh.symm; subst hh))
          refine ⟨by first | assumption | omega, ?_, ?_⟩
          · simp only [Z37, Z38, Z39, implies_true, and_true, ZB, stp, ev, reduceIte, Nat.reduceEqDiff, Z2x, Z13, Zy, *]
          rw [hsn]
          refine ⟨_, .slice (some ⟨h.length + (X.length + 4), 0, some 0⟩) people.length people.length, .slice (some ⟨h.length + (X.length + 5), 0, some 0⟩) (stepItems now people items a).length (stepItems now people items a).length, rfl, ?_, .inr ⟨by omega, X.length + 1, X.length + 2, X.length + 5, ?_, ?_, ?_, by omega, by omega, by omega, rfl, rfl, ?_⟩⟩
          all_goals first | (simp only [Zb, reduceIte, Nat.reduceEqDiff]; rw [wrap_id (by omega)]; rfl) | (simp [playT, ints]; done) | (simp only [Zb, reduceIte, Nat.reduceEqDiff]; rfl) | (simp [Zb, Zh]; done) | (simp only [Zb, reduceIte, Nat.reduceEqDiff]; skip)
      · have h1 : ¬ (k : Int) < l.length := by omega
        obtain rfl : k = l.length := by omega
        rw [List.take_length] at *
        clear hs hrow
        rcases hat with ⟨h0, rfl, rfl, rfl, h9, q1, q2⟩ | ⟨h0, j1, j2, jc, b1, b2, bc, n1, n2, n3, rfl, rfl, h9⟩
        · obtain rfl := List.length_eq_zero_iff.1 h0
          have hz : decide (((([] : List DAct).length : Nat) : Int) < ((([] : List DAct).length : Nat) : Int)) = false := rfl
          have hz2 : decide (((0 : Nat) : Int) < ((0 : Nat) : Int)) = false := rfl
          simp only [Z2x]
          repeat' (first | ((with_reducible refine eq_go ?_); simp only [stp, ev, ZB, reduceIte, Nat.reduceEqDiff, Z2x, Z13, Zy, bld, fillL, vcs, splice, Ze, ZH, Z35, ldv, stv, idxA, blt, lenV, Z10, Zg, Z14, Zw, Z33, Nat.reduceAdd, Nat.reduceMul, Nat.reduceLeDiff, newB, Ty.t3, Ty.t24, Ty.t56, Ty.t58, Ty.t71, Ty.t77, Ty.t80, *]; rfl) | (with_reducible first | refine aw_then ?_ | refine aw_skip ?_ | refine aw_ret ?_ | refine aw_exit ?_ | refine aw_block ?_ | refine xr_reg (by decide +kernel) ?_ | refine xr_nil ?_ | refine k_norm ?_ | refine k_ret ?_ | refine k_exit ?_ | refine b_norm ?_ | refine b_ret ?_ | refine b_exit ?_ | refine b_past (by decide) ?_) | (refine Ty.c46 (args := ?_) (K := ?_) ?_ ?_ ?_; rotate_left 2) | (refine Ty.c110 (args := ?_) (K := ?_) ?_ ?_ ?_; rotate_left 2) | (refine xr_do (v := ?_) (h' := ?_) (by exact rfl) ?_ ?_; rotate_left 2) | (refine xr_st (v := ?_) (h' := ?_) (by exact rfl) ?_ ?_; rotate_left 2) | (refine xr_g (b := ?_) (by exact rfl) ?_ ?_; rotate_left 1; (· simp only [ev, Zb, reduceIte, Nat.reduceEqDiff, Z8, Z5, *]; rfl)) | (with_reducible first | refine gw_tt ?_ | refine gw_ff ?_ | refine gw_tf ?_ | refine gw_ft ?_ | refine gw_un ?_) | refine gw_if (fun hb => ?_) (fun hb => ?_) | (refine aw_c (b := ?_) (by decide) ?_ ?_; rotate_left 1; (· simp only [ev, Zb, reduceIte, Nat.reduceEqDiff, *]; rfl)) | (with_reducible first | refine cw_t ?_ | refine cw_f ?_) | refine cw_if (fun hb => ?_) (fun hb => ?_) | (refine r_ret (vs := ?_) ?_ ?_; rotate_left 1; (· simp only [resV, oneOf, stp, ev, ZB, reduceIte, Nat.reduceEqDiff, Z2x, Z13, Zy, bld, fillL, vcs, splice, Ze, ZH, Z35, ldv, stv, idxA, blt, lenV, Z10, Zg, Z14, Zw, Z33, Nat.reduceAdd, Nat.reduceMul, Nat.reduceLeDiff, newB, Ty.t3, Ty.t24, Ty.t56, Ty.t58, Ty.t71, Ty.t77, Ty.t80, *]; rfl)) | ((with_reducible refine specNewDesk_ok people _ _ _ ?_ ?_); (· first | assumption | exact Sl.old (by assumption) _ | ((try (simp only [deskV, deskL, Z11, Z12, Z1y, Z1h, Za, Z9, Z7, Zc, Zd, Z6, Z3, Z2, Zf, Zi, Nat.reduceAdd, Zh])); first | exact Sl.old (by assumption) _ | exact sl_nilints | exact sl_nilitems | (refine sl_ints (Z4 _) ?_; exact rfl) | (refine sl_items (Z4 _) ?_; exact rfl) | (refine sl_ints0 (Z4 _) ?_; exact rfl) | (refine sl_items0 (Z4 _) ?_; exact rfl))); (· first | omega | (simp only [Z2]; omega))) | ((with_reducible refine l16Step_ok _ people items _ _ _ _ _ ?_ ?_ ?_ ?_); (· exact sp_sl1 b1 _ _ _ _); (· exact sp_sl2 b2 _ _ _ _); (· assumption); (· (intro i q; simp only [bid, Option.some.injEq] at q; simp only [Z6, Z3, Z2]; omega))) | ((with_reducible refine Z2w ?_); rintro _ _ ⟨rfl, hh⟩; replace hh := hh.symm; subst hh))
          exact plays_keep0 _ _
        · have hne : l ≠ [] := fun q => by rw [q] at h0; simp at h0
          simp only [if_neg hne]
          repeat' (first | ((with_reducible refine eq_go ?_); simp only [stp, ev, ZB, reduceIte, Nat.reduceEqDiff, Z2x, Z13, Zy, bld, fillL, vcs, splice, Ze, ZH, Z35, ldv, stv, idxA, blt, lenV, Z10, Zg, Z14, Zw, Z33, Nat.reduceAdd, Nat.reduceMul, Nat.reduceLeDiff, newB, Ty.t3, Ty.t24, Ty.t56, Ty.t58, Ty.t71, Ty.t77, Ty.t80, *]; rfl) | (with_reducible first | refine aw_then ?_ | refine aw_skip ?_ | refine aw_ret ?_ | refine aw_exit ?_ | refine aw_block ?_ | refine xr_reg (by decide +kernel) ?_ | refine xr_nil ?_ | refine k_norm ?_ | refine k_ret ?_ | refine k_exit ?_ | refine b_norm ?_ | refine b_ret ?_ | refine b_exit ?_ | refine b_past (by decide) ?_) | (refine Ty.c46 (args := ?_) (K := ?_) ?_ ?_ ?_; rotate_left 2) | (refine Ty.c110 (args := ?_) (K := ?_) ?_ ?_ ?_; rotate_left 2) | (refine xr_do (v := ?_) (h' := ?_) (by exact rfl) ?_ ?_; rotate_left 2) | (refine xr_st (v := ?_) (h' := ?_) (by exact rfl) ?_ ?_; rotate_left 2) | (refine xr_g (b := ?_) (by exact rfl) ?_ ?_; rotate_left 1; (· simp only [ev, Zb, reduceIte, Nat.reduceEqDiff, Z8, Z5, *]; rfl)) | (with_reducible first | refine gw_tt ?_ | refine gw_ff ?_ | refine gw_tf ?_ | refine gw_ft ?_ | refine gw_un ?_) | refine gw_if (fun hb => ?_) (fun hb => ?_) | (refine aw_c (b := ?_) (by decide) ?_ ?_; rotate_left 1; (· simp only [ev, Zb, reduceIte, Nat.reduceEqDiff, *]; rfl)) | (with_reducible first | refine cw_t ?_ | refine cw_f ?_) | refine cw_if (fun hb => ?_) (fun hb => ?_) | (refine r_ret (vs := ?_) ?_ ?_; rotate_left 1; (· simp only [resV, oneOf, stp, ev, ZB, reduceIte, Nat.reduceEqDiff, Z2x, Z13, Zy, bld, fillL, vcs, splice, Ze, ZH, Z35, ldv, stv, idxA, blt, lenV, Z10, Zg, Z14, Zw, Z33, Nat.reduceAdd, Nat.reduceMul, Nat.reduceLeDiff, newB, Ty.t3, Ty.t24, Ty.t56, Ty.t58, Ty.t71, Ty.t77, Ty.t80, *]; rfl)) | ((with_reducible refine specNewDesk_ok people _ _ _ ?_ ?_); (· first | assumption | exact Sl.old (by assumption) _ | ((try (simp only [deskV, deskL, Z11, Z12, Z1y, Z1h, Za, Z9, Z7, Zc, Zd, Z6, Z3, Z2, Zf, Zi, Nat.reduceAdd, Zh])); first | exact Sl.old (by assumption) _ | exact sl_nilints | exact sl_nilitems | (refine sl_ints (Z4 _) ?_; exact rfl) | (refine sl_items (Z4 _) ?_; exact rfl) | (refine sl_ints0 (Z4 _) ?_; exact rfl) | (refine sl_items0 (Z4 _) ?_; exact rfl))); (· first | omega | (simp only [Z2]; omega))) | ((with_reducible refine l16Step_ok _ people items _ _ _ _ _ ?_ ?_ ?_ ?_); (· exact sp_sl1 b1 _ _ _ _); (· exact sp_sl2 b2 _ _ _ _); (· assumption); (· (intro i q; simp only [bid, Option.some.injEq] at q; simp only [Z6, Z3, Z2]; omega))) | ((with_reducible refine Z2w ?_); rintro _ _ ⟨rfl, hh⟩; replace hh := hh.symm; subst hh))
          exact plays_keep hlk b1 b2 bc n1 n2 n3 _ _ _
    · have h60' : decide (60 < (l.length : Int)) = true := decide_eq_true (by omega)
      simp only [playDsV, playDsL, hk, decide_eq_false h60, Bool.true_and, Bool.false_eq_true, if_false]
      refine Z36 Try.func57 rfl Try.ntmps57 (by simp) (by dsimp only [Try.f57]) ?_
      repeat' (first | ((with_reducible refine eq_go ?_); simp only [stp, ev, ZB, reduceIte, Nat.reduceEqDiff, Z2x, Z13, Zy, bld, fillL, vcs, splice, Ze, ZH, Z35, ldv, stv, idxA, blt, lenV, Z10, Zg, Z14, Zw, Z33, Nat.reduceAdd, Nat.reduceMul, Nat.reduceLeDiff, newB, Ty.t3, Ty.t24, Ty.t56, Ty.t58, Ty.t71, Ty.t77, Ty.t80, newDeskV, newDeskL, *]; rfl) | (with_reducible first | refine aw_then ?_ | refine aw_skip ?_ | refine aw_ret ?_ | refine aw_exit ?_ | refine aw_block ?_ | refine xr_reg (by decide +kernel) ?_ | refine xr_nil ?_ | refine k_norm ?_ | refine k_ret ?_ | refine k_exit ?_ | refine b_norm ?_ | refine b_ret ?_ | refine b_exit ?_ | refine b_past (by decide) ?_) | (refine Ty.c46 (args := ?_) (K := ?_) ?_ ?_ ?_; rotate_left 2) | (refine Ty.c110 (args := ?_) (K := ?_) ?_ ?_ ?_; rotate_left 2) | (refine xr_do (v := ?_) (h' := ?_) (by exact rfl) ?_ ?_; rotate_left 2) | (refine xr_st (v := ?_) (h' := ?_) (by exact rfl) ?_ ?_; rotate_left 2) | (refine xr_g (b := ?_) (by exact rfl) ?_ ?_; rotate_left 1; (· simp only [ev, Zb, reduceIte, Nat.reduceEqDiff, Z8, Z5, *]; rfl)) | (with_reducible first | refine gw_tt ?_ | refine gw_ff ?_ | refine gw_tf ?_ | refine gw_ft ?_ | refine gw_un ?_) | refine gw_if (fun hb => ?_) (fun hb => ?_) | (refine aw_c (b := ?_) (by decide) ?_ ?_; rotate_left 1; (· simp only [ev, Zb, reduceIte, Nat.reduceEqDiff, *]; rfl)) | (with_reducible first | refine cw_t ?_ | refine cw_f ?_) | refine cw_if (fun hb => ?_) (fun hb => ?_) | (refine r_ret (vs := ?_) ?_ ?_; rotate_left 1; (· simp only [resV, oneOf, stp, ev, ZB, reduceIte, Nat.reduceEqDiff, Z2x, Z13, Zy, bld, fillL, vcs, splice, Ze, ZH, Z35, ldv, stv, idxA, blt, lenV, Z10, Zg, Z14, Zw, Z33, Nat.reduceAdd, Nat.reduceMul, Nat.reduceLeDiff, newB, Ty.t3, Ty.t24, Ty.t56, Ty.t58, Ty.t71, Ty.t77, Ty.t80, newDeskV, newDeskL, *]; rfl)) | ((with_reducible refine specNewDesk_ok people _ _ _ ?_ ?_); (· first | assumption | exact Sl.old (by assumption) _ | ((try (simp only [deskV, deskL, Z11, Z12, Z1y, Z1h, Za, Z9, Z7, Zc, Zd, Z6, Z3, Z2, Zf, Zi, Nat.reduceAdd, Zh])); first | exact Sl.old (by assumption) _ | exact sl_nilints | exact sl_nilitems | (refine sl_ints (Z4 _) ?_; exact rfl) | (refine sl_items (Z4 _) ?_; exact rfl) | (refine sl_ints0 (Z4 _) ?_; exact rfl) | (refine sl_items0 (Z4 _) ?_; exact rfl))); (· first | omega | (simp only [Z2]; omega))) | ((with_reducible refine l16Step_ok _ people items _ _ _ _ _ ?_ ?_ ?_ ?_); (· exact sp_sl1 b1 _ _ _ _); (· exact sp_sl2 b2 _ _ _ _); (· assumption); (· (intro i q; simp only [bid, Option.some.injEq] at q; simp only [Z6, Z3, Z2]; omega))) | ((with_reducible refine Z2w ?_); rintro _ _ ⟨rfl, hh⟩; replace hh := hh.symm; subst hh))
      exact play_none
  · simp only [playDsV, playDsL, hk, Bool.false_and, Bool.false_eq_true, if_false]
    refine Z36 Try.func57 rfl Try.ntmps57 (by simp) (by dsimp only [Try.f57]) ?_
    repeat' (first | ((with_reducible refine eq_go ?_); simp only [stp, ev, ZB, reduceIte, Nat.reduceEqDiff, Z2x, Z13, Zy, bld, fillL, vcs, splice, Ze, ZH, Z35, ldv, stv, idxA, blt, lenV, Z10, Zg, Z14, Zw, Z33, Nat.reduceAdd, Nat.reduceMul, Nat.reduceLeDiff, newB, Ty.t3, Ty.t24, Ty.t56, Ty.t58, Ty.t71, Ty.t77, Ty.t80, newDeskV, newDeskL, Bool.false_eq_true, if_false, *]; rfl) | (with_reducible first | refine aw_then ?_ | refine aw_skip ?_ | refine aw_ret ?_ | refine aw_exit ?_ | refine aw_block ?_ | refine xr_reg (by decide +kernel) ?_ | refine xr_nil ?_ | refine k_norm ?_ | refine k_ret ?_ | refine k_exit ?_ | refine b_norm ?_ | refine b_ret ?_ | refine b_exit ?_ | refine b_past (by decide) ?_) | (refine Ty.c46 (args := ?_) (K := ?_) ?_ ?_ ?_; rotate_left 2) | (refine Ty.c110 (args := ?_) (K := ?_) ?_ ?_ ?_; rotate_left 2) | (refine xr_do (v := ?_) (h' := ?_) (by exact rfl) ?_ ?_; rotate_left 2) | (refine xr_st (v := ?_) (h' := ?_) (by exact rfl) ?_ ?_; rotate_left 2) | (refine xr_g (b := ?_) (by exact rfl) ?_ ?_; rotate_left 1; (· simp only [ev, Zb, reduceIte, Nat.reduceEqDiff, Z8, Z5, *]; rfl)) | (with_reducible first | refine gw_tt ?_ | refine gw_ff ?_ | refine gw_tf ?_ | refine gw_ft ?_ | refine gw_un ?_) | refine gw_if (fun hb => ?_) (fun hb => ?_) | (refine aw_c (b := ?_) (by decide) ?_ ?_; rotate_left 1; (· simp only [ev, Zb, reduceIte, Nat.reduceEqDiff, *]; rfl)) | (with_reducible first | refine cw_t ?_ | refine cw_f ?_) | refine cw_if (fun hb => ?_) (fun hb => ?_) | (refine r_ret (vs := ?_) ?_ ?_; rotate_left 1; (· simp only [resV, oneOf, stp, ev, ZB, reduceIte, Nat.reduceEqDiff, Z2x, Z13, Zy, bld, fillL, vcs, splice, Ze, ZH, Z35, ldv, stv, idxA, blt, lenV, Z10, Zg, Z14, Zw, Z33, Nat.reduceAdd, Nat.reduceMul, Nat.reduceLeDiff, newB, Ty.t3, Ty.t24, Ty.t56, Ty.t58, Ty.t71, Ty.t77, Ty.t80, newDeskV, newDeskL, Bool.false_eq_true, if_false, *]; rfl)) | ((with_reducible refine specNewDesk_ok people _ _ _ ?_ ?_); (· first | assumption | exact Sl.old (by assumption) _ | ((try (simp only [deskV, deskL, Z11, Z12, Z1y, Z1h, Za, Z9, Z7, Zc, Zd, Z6, Z3, Z2, Zf, Zi, Nat.reduceAdd, Zh])); first | exact Sl.old (by assumption) _ | exact sl_nilints | exact sl_nilitems | (refine sl_ints (Z4 _) ?_; exact rfl) | (refine sl_items (Z4 _) ?_; exact rfl) | (refine sl_ints0 (Z4 _) ?_; exact rfl) | (refine sl_items0 (Z4 _) ?_; exact rfl))); (· first | omega | (simp only [Z2]; omega))) | ((with_reducible refine l16Step_ok _ people items _ _ _ _ _ ?_ ?_ ?_ ?_); (· exact sp_sl1 b1 _ _ _ _); (· exact sp_sl2 b2 _ _ _ _); (· assumption); (· (intro i q; simp only [bid, Option.some.injEq] at q; simp only [Z6, Z3, Z2]; omega))) | ((with_reducible refine Z2w ?_); rintro _ _ ⟨rfl, hh⟩; replace hh := hh.symm; subst hh))
    exact play_none
end Go.Proofs.Ytiddnhhjlipebaa.Am
namespace Go.Proofs.Ytiddnhhjlipebaa.Am
open Go Go.Proofs
set_option linter.unusedVariables false
set_option linter.unusedSimpArgs false
set_option maxRecDepth 100000
set_option maxHeartbeats 8000000
structure Grp where
  least : Int
  most : Int
  enough : Int
  made : Int
  don : Int
  opn : Bool
def Grp.cells (g : Grp) : List Value := [.int .i64 g.least, .int .i64 g.most, .int .i64 g.enough, .int .i64 g.made, .int .i64 g.don, .bool g.opn]
def Grp.zero : Grp := ⟨0, 0, 0, 0, 0, false⟩
instance Grp.dec : DecidableEq Grp := fun a b =>
  decidable_of_iff (a.least = b.least ∧ a.most = b.most ∧ a.enough = b.enough ∧ a.made = b.made ∧ a.don = b.don ∧ a.opn = b.opn) (by
    cases a; cases b; simp)
end Go.Proofs.Ytiddnhhjlipebaa.Am
namespace Go.Proofs.Ytiddnhhjlipebaa.Am
open Go Go.Proofs
set_option linter.unusedVariables false
set_option linter.unusedSimpArgs false
set_option maxRecDepth 100000
set_option maxHeartbeats 8000000
theorem Grp.cells_length (g : Grp) : g.cells.length = 6 := rfl
theorem Grp.cells_flat (g : Grp) : g.cells.all flat = true := rfl
theorem Grp.cells_take (g : Grp) : g.cells.take 6 = g.cells := rfl
theorem Grp.cells_splice (g : Grp) (a b c d e f : Value) : splice [a, b, c, d, e, f] 0 g.cells = g.cells := rfl
end Go.Proofs.Ytiddnhhjlipebaa.Am
namespace Go.Proofs.Ytiddnhhjlipebaa.Am
open Go Go.Proofs
set_option linter.unusedVariables false
set_option linter.unusedSimpArgs false
set_option maxRecDepth 100000
set_option maxHeartbeats 8000000
theorem cur0_bud {code : List Int} {vc : Value} (hcl : code.length ≤ 9223372036854775807) (hcw : ∀ x ∈ code, 0 ≤ x ∧ x ≤ 255) : Cur.bud ⟨vc, code, 0, 0⟩ 0 :=
  ⟨⟨by simp, hcl, hcw, by simp, by simp⟩, Z4 _⟩
end Go.Proofs.Ytiddnhhjlipebaa.Am
