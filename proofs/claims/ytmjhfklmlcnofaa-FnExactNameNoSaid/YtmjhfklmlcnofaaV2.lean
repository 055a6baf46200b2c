/- Walks of the reference's search along a net. Conditions: none. -/
import Derived.Test.YtmjhfklmlcnofaaK3
import Derived.Test.YtmjhfklmlcnofaaV1
namespace Go.Proofs.Ytmjhfklmlcnofaa.Am
open Go Go.Proofs
set_option linter.unusedVariables false
set_option linter.unusedSimpArgs false
set_option maxRecDepth 100000
set_option maxHeartbeats 8000000
theorem l3Forward_ok (n : NetM) (vt : Value) (I h : Heap) (place : Int) (hI : Sub I h) (hs : RTrs I vt n.trans) (hsm : n.small) (hok : netOk n = true) (hp : 0 ≤ place ∧ place ≤ n.places - 1) :
    ACalls Try.prog 0 79 #[.agg #[.int .i64 n.places, vt], .int .i64 place] h
    fun v h' => v = .tuple #[.slice (some ⟨h.length, 0, some 0⟩) n.places.toNat n.places.toNat, .slice (some ⟨h.length + 1, 0, some 0⟩) n.trans.length n.trans.length] ∧
      h' = h ++ [⟨2, 1, bools (reach false n place).1⟩, ⟨2, 1, bools (reach false n place).2⟩] := by
  refine acalls_canon _ _ ?_
  have hfl := hs.flat
  obtain ⟨b, c, rfl, hc, hrow⟩ := hs.form
  have hlen := hsm.1
  simp only [netOk, Bool.and_eq_true, decide_eq_true_eq, List.all_eq_true] at hok
  obtain ⟨hpl, h24, hall⟩ := hok
  obtain ⟨P, hP⟩ : ∃ P : Nat, n.places = P := ⟨n.places.toNat, by omega⟩
  obtain ⟨q, rfl⟩ : ∃ q : Nat, place = q := ⟨place.toNat, by omega⟩
  have hqP : q + 1 ≤ P := by omega
  have hqP1 : (q : Int) < P := by omega
  have hmk : ∀ (H : Heap) (m : Nat), m ≤ 1048576 → mkS Try.prog 114 H (.int .i64 m) (.int .i64 m) = some (.slice (some ⟨H.length, 0, none⟩) m m, H ++ [⟨2, 1, bools (List.replicate m false)⟩]) := fun H m hm => by
    rw [mkS_eq Ty.sl114 Ty.zc4 Ty.by4 (by omega) (by omega), bools_zeros]; rfl
  have hmk1 := fun H => hmk H P (by omega)
  have hmk2 := fun H => hmk H n.trans.length (by omega)
  refine Z36 Try.func79 rfl Try.ntmps79 (by simp) (by dsimp only [Try.f79]) ?_
  repeat' (first | ((with_reducible refine eq_go ?_); simp only [stp, ev, ZB, reduceIte, Nat.reduceEqDiff, Z2x, Z13, Zy, binV_bool_neq, binV_bool_eql, Ty.un4, ldv, stv, vcs, fldA, idxA, blt, lenV, Z10, ZH, Zg, Ze, Z14, Zw, Z33, Nat.reduceAdd, Nat.reduceMul, Nat.reduceLeDiff, splice, newB, Ty.t3, Ty.t4, Ty.t68, Ty.t70, Ty.t86, Ty.t95, Ty.t114, Nat.mul_one, bools_len, List.length_replicate, bools_set, *]; rfl) | (with_reducible first | refine aw_then ?_ | refine aw_skip ?_ | refine aw_ret ?_ | refine aw_exit ?_ | refine aw_block ?_ | refine xr_reg (by decide +kernel) ?_ | refine xr_nil ?_ | refine k_norm ?_ | refine k_ret ?_ | refine k_exit ?_ | refine b_norm ?_ | refine b_ret ?_ | refine b_exit ?_ | refine b_past (by decide) ?_) | (refine xr_do (v := ?_) (h' := ?_) (by exact rfl) ?_ ?_; rotate_left 2) | (refine xr_st (v := ?_) (h' := ?_) (by exact rfl) ?_ ?_; rotate_left 2) | (refine xr_g (b := ?_) (by exact rfl) ?_ ?_; rotate_left 1; (· simp only [ev, Zb, reduceIte, Nat.reduceEqDiff, Z8, Z5, *]; rfl)) | (with_reducible first | refine gw_tt ?_ | refine gw_ff ?_ | refine gw_tf ?_ | refine gw_ft ?_ | refine gw_un ?_) | refine gw_if (fun hb => ?_) (fun hb => ?_) | (refine aw_c (b := ?_) (by decide) ?_ ?_; rotate_left 1; (· simp only [ev, Zb, reduceIte, Nat.reduceEqDiff, *]; rfl)) | (with_reducible first | refine cw_t ?_ | refine cw_f ?_) | refine cw_if (fun hb => ?_) (fun hb => ?_) | (refine r_ret (vs := ?_) ?_ ?_; rotate_left 1; (· simp only [resV, ev, Zb, reduceIte, Nat.reduceEqDiff, Zj, *]; rfl)))
  refine aw_loop (n := n.trans.length + 2) (fun m T h' => ∃ (s : St) (f : Nat) (L : Heap), h' = h ++ ⟨2, 1, [.int .i64 P, .slice b n.trans.length c]⟩ :: ⟨2, 1, bools s.ps⟩ :: ⟨2, 1, bools s.ts⟩ :: L ∧
      T 8 = .bool s.ch ∧ T 2 = .pointer (some ⟨h.length, 0, none⟩) ∧ T 6 = .slice (some ⟨h.length + 1, 0, none⟩) P P ∧ T 7 = .slice (some ⟨h.length + 2, 0, none⟩) n.trans.length n.trans.length ∧
      s.ps.length = P ∧ s.ts.length = n.trans.length ∧ (s.ch = true → reachF false n.trans f (s.ps, s.ts) = reach false n q ∧ cnt s.ts < f ∧ f + 1 ≤ m) ∧ (s.ch = false → (s.ps, s.ts) = reach false n q))
    ⟨⟨(List.replicate P false).set q true, List.replicate n.trans.length false, true⟩, n.trans.length + 1, [], rfl, rfl, rfl, rfl, rfl, by simp, by simp, fun _ => ⟨by simp only [reach, hP, Zq], Nat.lt_succ_of_le (by have := cnt_le (List.replicate n.trans.length false); rw [bsz] at this; exact this), by omega⟩, fun q => by cases q⟩ ?_
  clear hmk hmk1 hmk2
  rintro m T h' ⟨⟨ps, ts, ch⟩, f, L, rfl, h8, h2, h6, h7, hps, hts, hc1, hc2⟩
  simp only at h8 hps hts hc1 hc2 ⊢
  cases ch
  · have hR0 := hc2 rfl
    clear hc1 hc2
    repeat' (first | ((with_reducible refine eq_go ?_); simp only [stp, ev, ZB, reduceIte, Nat.reduceEqDiff, Z2x, Z13, Zy, binV_bool_neq, binV_bool_eql, Ty.un4, ldv, stv, vcs, fldA, idxA, blt, lenV, Z10, ZH, Zg, Ze, Z14, Zw, Z33, Nat.reduceAdd, Nat.reduceMul, Nat.reduceLeDiff, splice, newB, Ty.t3, Ty.t4, Ty.t68, Ty.t70, Ty.t86, Ty.t95, Ty.t114, *]; rfl) | (with_reducible first | refine aw_then ?_ | refine aw_skip ?_ | refine aw_ret ?_ | refine aw_exit ?_ | refine aw_block ?_ | refine xr_reg (by decide +kernel) ?_ | refine xr_nil ?_ | refine k_norm ?_ | refine k_ret ?_ | refine k_exit ?_ | refine b_norm ?_ | refine b_ret ?_ | refine b_exit ?_ | refine b_past (by decide) ?_) | (refine xr_do (v := ?_) (h' := ?_) (by exact rfl) ?_ ?_; rotate_left 2) | (refine xr_st (v := ?_) (h' := ?_) (by exact rfl) ?_ ?_; rotate_left 2) | (refine xr_g (b := ?_) (by exact rfl) ?_ ?_; rotate_left 1; (· simp only [ev, Zb, reduceIte, Nat.reduceEqDiff, Z8, Z5, *]; rfl)) | (with_reducible first | refine gw_tt ?_ | refine gw_ff ?_ | refine gw_tf ?_ | refine gw_ft ?_ | refine gw_un ?_) | refine gw_if (fun hb => ?_) (fun hb => ?_) | (refine aw_c (b := ?_) (by decide) ?_ ?_; rotate_left 1; (· simp only [ev, Zb, reduceIte, Nat.reduceEqDiff, *]; rfl)) | (with_reducible first | refine cw_t ?_ | refine cw_f ?_) | refine cw_if (fun hb => ?_) (fun hb => ?_) | (refine r_ret (vs := ?_) ?_ ?_; rotate_left 1; (· simp only [resV, ev, Zb, reduceIte, Nat.reduceEqDiff, Zj, *]; rfl)))
    rw [← hR0]
    exact ⟨_, [1, 2], rfl, Inj.two (by decide), rfl, BsOk.cons rfl (bools_af _) rfl (BsOk.cons rfl (bools_af _) rfl (BsOk.nil _ _)), RVl.tuple (l := [_, _]) (l' := [_, _]) ⟨by rw [hP, Zq]; exact .sl 0 1 _ _ 1 _ _ rfl rfl (by rw [bools_len, hps, Nat.mul_one]) (Z4 _) (.inl ⟨rfl, rfl⟩), .sl 1 2 _ _ 1 _ _ rfl rfl (by rw [bools_len, hts, Nat.mul_one]) (Z4 _) (.inl ⟨rfl, rfl⟩), trivial⟩⟩
  · obtain ⟨hf1, hf2, hf3⟩ := hc1 rfl
    clear hc1 hc2
    obtain ⟨f, rfl⟩ : ∃ g, f = g + 1 := ⟨f - 1, by omega⟩
    repeat' (first | ((with_reducible refine eq_go ?_); simp only [stp, ev, ZB, reduceIte, Nat.reduceEqDiff, Z2x, Z13, Zy, binV_bool_neq, binV_bool_eql, Ty.un4, ldv, stv, vcs, fldA, idxA, blt, lenV, Z10, ZH, Zg, Ze, Z14, Zw, Z33, Nat.reduceAdd, Nat.reduceMul, Nat.reduceLeDiff, splice, newB, Ty.t3, Ty.t4, Ty.t68, Ty.t70, Ty.t86, Ty.t95, Ty.t114, *]; rfl) | (with_reducible first | refine aw_then ?_ | refine aw_skip ?_ | refine aw_ret ?_ | refine aw_exit ?_ | refine aw_block ?_ | refine xr_reg (by decide +kernel) ?_ | refine xr_nil ?_ | refine k_norm ?_ | refine k_ret ?_ | refine k_exit ?_ | refine b_norm ?_ | refine b_ret ?_ | refine b_exit ?_ | refine b_past (by decide) ?_) | (refine xr_do (v := ?_) (h' := ?_) (by exact rfl) ?_ ?_; rotate_left 2) | (refine xr_st (v := ?_) (h' := ?_) (by exact rfl) ?_ ?_; rotate_left 2) | (refine xr_g (b := ?_) (by exact rfl) ?_ ?_; rotate_left 1; (· simp only [ev, Zb, reduceIte, Nat.reduceEqDiff, Z8, Z5, *]; rfl)) | (with_reducible first | refine gw_tt ?_ | refine gw_ff ?_ | refine gw_tf ?_ | refine gw_ft ?_ | refine gw_un ?_) | refine gw_if (fun hb => ?_) (fun hb => ?_) | (refine aw_c (b := ?_) (by decide) ?_ ?_; rotate_left 1; (· simp only [ev, Zb, reduceIte, Nat.reduceEqDiff, *]; rfl)) | (with_reducible first | refine cw_t ?_ | refine cw_f ?_) | refine cw_if (fun hb => ?_) (fun hb => ?_) | (refine r_ret (vs := ?_) ?_ ?_; rotate_left 1; (· simp only [resV, ev, Zb, reduceIte, Nat.reduceEqDiff, Zj, *]; rfl)))
    refine aw_for [2, 6, 7, 28, 29] (fun k T h' => ∃ (L : Heap), h' = h ++ ⟨2, 1, [.int .i64 P, .slice b n.trans.length c]⟩ :: ⟨2, 1, bools (sweepK false n.trans ⟨ps, ts, false⟩ k).ps⟩ :: ⟨2, 1, bools (sweepK false n.trans ⟨ps, ts, false⟩ k).ts⟩ :: L ∧
      T 8 = .bool (sweepK false n.trans ⟨ps, ts, false⟩ k).ch ∧ T 30 = .int .i64 k) n.trans.length (k0 := 0) (Nat.zero_le _) ⟨L, rfl, rfl, rfl⟩ ?_
    rintro k T h' hk hR ⟨L, rfl, h8, h30⟩
    simp only [Z37, Z38, Z39, implies_true, and_true, stp, ev, ZB, reduceIte, Nat.reduceEqDiff, Z2x, Z13, Zy] at hR
    have hsl := sweep_len false n.trans ⟨ps, ts, false⟩ k
    have hsn : sweepK false n.trans ⟨ps, ts, false⟩ (k + 1) = rStep false (n.trans.getD k Tr.nil) k (sweepK false n.trans ⟨ps, ts, false⟩ k) := rfl
    rcases Nat.lt_or_ge k n.trans.length with hkn | hkn
    · have h1 : (k : Int) < n.trans.length := by omega
      obtain ⟨a, row, rfl, hrl, hrt, hld0⟩ := hrow k hkn
      obtain ⟨x, y, z, rfl, q1, q2, q3⟩ := hrt
      obtain ⟨s1, s2, s3⟩ := hsm.2 n.trans[k] (List.getElem_mem hkn)
      have htok := hall _ (List.getElem_mem hkn)
      have hld := fun L => hld0 _ (hI.app L)
      have f3 := q3.flat
      obtain ⟨hri, hro⟩ := trOk_range htok
      rw [hP] at hri hro
      obtain ⟨x1, x2, rfl, x3, xrow⟩ := q1
      obtain ⟨y1, y2, rfl, y3, yrow⟩ := q2
      simp only [ints_length] at hld x3 y3
      clear hrow hld0 htok
      rw [show n.trans.getD k Tr.nil = n.trans[k] by rw [List.getD_eq_getElem?_getD, List.getElem?_eq_getElem hkn]; rfl] at hsn
      generalize n.trans[k] = t at *
      generalize sweepK false n.trans ⟨ps, ts, false⟩ k = sk at *
      generalize sweepK false n.trans ⟨ps, ts, false⟩ (k + 1) = sk1 at *
      obtain ⟨kps, kts, kch⟩ := sk
      simp only at hsl h8 hsn
      obtain ⟨hl1, hl2⟩ := hsl
      rw [hps] at hl1
      rw [hts] at hl2
      have hgk : (bools kts)[k]? = some (.bool (kts.getD k false)) := bools_get kts (by omega)
      have hkl : k + 1 ≤ n.trans.length := by omega
      simp only [rStep, Tr.src, Tr.dst, Bool.false_eq_true, if_false, Z2x] at hsn
      repeat' (first | ((with_reducible refine eq_go ?_); simp only [stp, ev, ZB, reduceIte, Nat.reduceEqDiff, Z2x, Z13, Zy, binV_bool_neq, binV_bool_eql, Ty.un4, ldv, stv, vcs, fldA, idxA, blt, lenV, Z10, ZH, Zg, Ze, Z14, Zw, Z33, Nat.reduceAdd, Nat.reduceMul, Nat.reduceLeDiff, splice, newB, Ty.t3, Ty.t4, Ty.t68, Ty.t70, Ty.t86, Ty.t95, Ty.t114, Nat.mul_one, bools_len, List.length_replicate, bools_set, *]; rfl) | (with_reducible first | refine aw_then ?_ | refine aw_skip ?_ | refine aw_ret ?_ | refine aw_exit ?_ | refine aw_block ?_ | refine xr_reg (by decide +kernel) ?_ | refine xr_nil ?_ | refine k_norm ?_ | refine k_ret ?_ | refine k_exit ?_ | refine b_norm ?_ | refine b_ret ?_ | refine b_exit ?_ | refine b_past (by decide) ?_) | (refine xr_do (v := ?_) (h' := ?_) (by exact rfl) ?_ ?_; rotate_left 2) | (refine xr_st (v := ?_) (h' := ?_) (by exact rfl) ?_ ?_; rotate_left 2) | (refine xr_g (b := ?_) (by exact rfl) ?_ ?_; rotate_left 1; (· simp only [ev, Zb, reduceIte, Nat.reduceEqDiff, Z8, Z5, *]; rfl)) | (with_reducible first | refine gw_tt ?_ | refine gw_ff ?_ | refine gw_tf ?_ | refine gw_ft ?_ | refine gw_un ?_) | refine gw_if (fun hb => ?_) (fun hb => ?_) | (refine aw_c (b := ?_) (by decide) ?_ ?_; rotate_left 1; (· simp only [ev, Zb, reduceIte, Nat.reduceEqDiff, *]; rfl)) | (with_reducible first | refine cw_t ?_ | refine cw_f ?_) | refine cw_if (fun hb => ?_) (fun hb => ?_) | (refine r_ret (vs := ?_) ?_ ?_; rotate_left 1; (· simp only [resV, ev, Zb, reduceIte, Nat.reduceEqDiff, Zj, *]; rfl)))
      refine aw_for [2, 6, 7, 8, 9, 28, 29, 30, 36, 37] (fun i T h' => (∃ L : Heap, h' = h ++ ⟨2, 1, [.int .i64 P, .slice (some a) n.trans.length c]⟩ :: ⟨2, 1, bools kps⟩ :: ⟨2, 1, bools kts⟩ :: (L ++ [⟨2, 1, [.slice x1 t.inn.length x2, .slice y1 t.out.length y2, z]⟩]) ∧ T 10 = .pointer (some ⟨h.length + (L.length + 3), 0, none⟩)) ∧ T 38 = .int .i64 i ∧ T 11 = .bool (anyAt kps (t.inn.take i))) t.inn.length (k0 := 0) (Nat.zero_le _) ⟨⟨L, rfl, rfl⟩, rfl, rfl⟩ ?_
      rintro i T h' hi hR ⟨⟨L, rfl, h10⟩, h38, h11⟩
      simp only [Z37, Z38, Z39, implies_true, and_true, stp, ev, ZB, reduceIte, Nat.reduceEqDiff, Z2x, Z13, Zy] at hR
      rcases Nat.lt_or_ge i t.inn.length with hin | hin
      · have h1n : (i : Int) < t.inn.length := by omega
        obtain ⟨ad, rfl, hgp0⟩ := sl_get (e := 1) xrow i hin
        rw [Nat.mul_one] at hgp0
        have hgp := fun L => (hI.app L).get hgp0
        have hli : t.inn[i] = t.inn.getD i 0 := by rw [List.getD_eq_getElem?_getD, List.getElem?_eq_getElem hin]; rfl
        have hmem : t.inn.getD i 0 ∈ t.inn := by rw [← hli]; exact List.getElem_mem _
        have hrp := hri _ hmem
        have hsn : anyAt kps (t.inn.take (i + 1)) = (anyAt kps (t.inn.take i) || kps.getD (t.inn.getD i 0).toNat false) := by
          unfold anyAt
          rw [← List.take_append_getElem hin, List.any_append, hli]; simp
        clear hmem hli
        generalize t.inn.getD i 0 = p at *
        obtain ⟨p, rfl⟩ : ∃ p' : Nat, p = p' := ⟨p.toNat, by omega⟩
        rw [Zq] at hsn
        have hp2 : (p : Int) < P := by omega
        have hgb : (bools kps)[p]? = some (.bool (kps.getD p false)) := bools_get kps (by omega)
        generalize kps.getD p false = pb at *
        generalize anyAt kps (t.inn.take i) = an at *
        cases an
        all_goals
          simp only [Bool.false_or, Bool.true_or] at hsn
          repeat' (first | ((with_reducible refine eq_go ?_); simp only [stp, ev, ZB, reduceIte, Nat.reduceEqDiff, Z2x, Z13, Zy, binV_bool_neq, binV_bool_eql, Ty.un4, ldv, stv, vcs, fldA, idxA, blt, lenV, Z10, ZH, Zg, Ze, Z14, Zw, Z33, Nat.reduceAdd, Nat.reduceMul, Nat.reduceLeDiff, splice, newB, Ty.t3, Ty.t4, Ty.t68, Ty.t70, Ty.t86, Ty.t95, Ty.t114, Nat.mul_one, bools_len, List.length_replicate, bools_set, *]; rfl) | (with_reducible first | refine aw_then ?_ | refine aw_skip ?_ | refine aw_ret ?_ | refine aw_exit ?_ | refine aw_block ?_ | refine xr_reg (by decide +kernel) ?_ | refine xr_nil ?_ | refine k_norm ?_ | refine k_ret ?_ | refine k_exit ?_ | refine b_norm ?_ | refine b_ret ?_ | refine b_exit ?_ | refine b_past (by decide) ?_) | (refine xr_do (v := ?_) (h' := ?_) (by exact rfl) ?_ ?_; rotate_left 2) | (refine xr_st (v := ?_) (h' := ?_) (by exact rfl) ?_ ?_; rotate_left 2) | (refine xr_g (b := ?_) (by exact rfl) ?_ ?_; rotate_left 1; (· simp only [ev, Zb, reduceIte, Nat.reduceEqDiff, Z8, Z5, *]; rfl)) | (with_reducible first | refine gw_tt ?_ | refine gw_ff ?_ | refine gw_tf ?_ | refine gw_ft ?_ | refine gw_un ?_) | refine gw_if (fun hb => ?_) (fun hb => ?_) | (refine aw_c (b := ?_) (by decide) ?_ ?_; rotate_left 1; (· simp only [ev, Zb, reduceIte, Nat.reduceEqDiff, *]; rfl)) | (with_reducible first | refine cw_t ?_ | refine cw_f ?_) | refine cw_if (fun hb => ?_) (fun hb => ?_) | (refine r_ret (vs := ?_) ?_ ?_; rotate_left 1; (· simp only [resV, ev, Zb, reduceIte, Nat.reduceEqDiff, Zj, *]; rfl)))
          refine ⟨by first | assumption | omega, ?_, ?_⟩
          · simp only [Z37, Z38, Z39, implies_true, and_true, ZB, stp, ev, reduceIte, Nat.reduceEqDiff, Z2x, Z13, Zy, *]
          refine ⟨⟨L, rfl, ?_⟩, ?_, ?_⟩
          · simp only [Zb, reduceIte, Nat.reduceEqDiff, h10]
          · simp only [Zb, reduceIte, Nat.reduceEqDiff]
            rw [wrap_id (by omega)]; rfl
          · simp only [Zb, reduceIte, Nat.reduceEqDiff, hsn, h11]
      · have h1n : ¬ (i : Int) < t.inn.length := by omega
        rw [List.take_of_length_le hin] at h11
        generalize hpan : anyAt kps t.inn = an at *
        rcases Bool.eq_false_or_eq_true (kts.getD k false) with htk | htk
        · rw [htk] at hgk hsn
          simp only [Bool.true_or, Z2x] at hsn
          subst hsn
          cases an
          all_goals
            repeat' (first | ((with_reducible refine eq_go ?_); simp only [stp, ev, ZB, reduceIte, Nat.reduceEqDiff, Z2x, Z13, Zy, binV_bool_neq, binV_bool_eql, Ty.un4, ldv, stv, vcs, fldA, idxA, blt, lenV, Z10, ZH, Zg, Ze, Z14, Zw, Z33, Nat.reduceAdd, Nat.reduceMul, Nat.reduceLeDiff, splice, newB, Ty.t3, Ty.t4, Ty.t68, Ty.t70, Ty.t86, Ty.t95, Ty.t114, Nat.mul_one, bools_len, List.length_replicate, bools_set, *]; rfl) | (with_reducible first | refine aw_then ?_ | refine aw_skip ?_ | refine aw_ret ?_ | refine aw_exit ?_ | refine aw_block ?_ | refine xr_reg (by decide +kernel) ?_ | refine xr_nil ?_ | refine k_norm ?_ | refine k_ret ?_ | refine k_exit ?_ | refine b_norm ?_ | refine b_ret ?_ | refine b_exit ?_ | refine b_past (by decide) ?_) | (refine xr_do (v := ?_) (h' := ?_) (by exact rfl) ?_ ?_; rotate_left 2) | (refine xr_st (v := ?_) (h' := ?_) (by exact rfl) ?_ ?_; rotate_left 2) | (refine xr_g (b := ?_) (by exact rfl) ?_ ?_; rotate_left 1; (· simp only [ev, Zb, reduceIte, Nat.reduceEqDiff, Z8, Z5, *]; rfl)) | (with_reducible first | refine gw_tt ?_ | refine gw_ff ?_ | refine gw_tf ?_ | refine gw_ft ?_ | refine gw_un ?_) | refine gw_if (fun hb => ?_) (fun hb => ?_) | (refine aw_c (b := ?_) (by decide) ?_ ?_; rotate_left 1; (· simp only [ev, Zb, reduceIte, Nat.reduceEqDiff, *]; rfl)) | (with_reducible first | refine cw_t ?_ | refine cw_f ?_) | refine cw_if (fun hb => ?_) (fun hb => ?_) | (refine r_ret (vs := ?_) ?_ ?_; rotate_left 1; (· simp only [resV, ev, Zb, reduceIte, Nat.reduceEqDiff, Zj, *]; rfl)))
            refine ⟨by first | assumption | omega, ?_, ?_⟩
            · simp only [Z37, Z38, Z39, implies_true, and_true, ZB, stp, ev, reduceIte, Nat.reduceEqDiff, Z2x, Z13, Zy, *]
            refine ⟨_, rfl, ?_, ?_⟩
            · simp only [Zb, reduceIte, Nat.reduceEqDiff, hR, h8]
            · simp only [Zb, reduceIte, Nat.reduceEqDiff, hR, h8]
              rw [wrap_id (by omega)]; rfl
        · rw [htk] at hgk hsn
          cases an
          · simp only [Bool.false_or, Z5, Z2x] at hsn
            subst hsn
            repeat' (first | ((with_reducible refine eq_go ?_); simp only [stp, ev, ZB, reduceIte, Nat.reduceEqDiff, Z2x, Z13, Zy, binV_bool_neq, binV_bool_eql, Ty.un4, ldv, stv, vcs, fldA, idxA, blt, lenV, Z10, ZH, Zg, Ze, Z14, Zw, Z33, Nat.reduceAdd, Nat.reduceMul, Nat.reduceLeDiff, splice, newB, Ty.t3, Ty.t4, Ty.t68, Ty.t70, Ty.t86, Ty.t95, Ty.t114, Nat.mul_one, bools_len, List.length_replicate, bools_set, *]; rfl) | (with_reducible first | refine aw_then ?_ | refine aw_skip ?_ | refine aw_ret ?_ | refine aw_exit ?_ | refine aw_block ?_ | refine xr_reg (by decide +kernel) ?_ | refine xr_nil ?_ | refine k_norm ?_ | refine k_ret ?_ | refine k_exit ?_ | refine b_norm ?_ | refine b_ret ?_ | refine b_exit ?_ | refine b_past (by decide) ?_) | (refine xr_do (v := ?_) (h' := ?_) (by exact rfl) ?_ ?_; rotate_left 2) | (refine xr_st (v := ?_) (h' := ?_) (by exact rfl) ?_ ?_; rotate_left 2) | (refine xr_g (b := ?_) (by exact rfl) ?_ ?_; rotate_left 1; (· simp only [ev, Zb, reduceIte, Nat.reduceEqDiff, Z8, Z5, *]; rfl)) | (with_reducible first | refine gw_tt ?_ | refine gw_ff ?_ | refine gw_tf ?_ | refine gw_ft ?_ | refine gw_un ?_) | refine gw_if (fun hb => ?_) (fun hb => ?_) | (refine aw_c (b := ?_) (by decide) ?_ ?_; rotate_left 1; (· simp only [ev, Zb, reduceIte, Nat.reduceEqDiff, *]; rfl)) | (with_reducible first | refine cw_t ?_ | refine cw_f ?_) | refine cw_if (fun hb => ?_) (fun hb => ?_) | (refine r_ret (vs := ?_) ?_ ?_; rotate_left 1; (· simp only [resV, ev, Zb, reduceIte, Nat.reduceEqDiff, Zj, *]; rfl)))
            refine ⟨by first | assumption | omega, ?_, ?_⟩
            · simp only [Z37, Z38, Z39, implies_true, and_true, ZB, stp, ev, reduceIte, Nat.reduceEqDiff, Z2x, Z13, Zy, *]
            refine ⟨_, rfl, ?_, ?_⟩
            · simp only [Zb, reduceIte, Nat.reduceEqDiff, hR, h8]
            · simp only [Zb, reduceIte, Nat.reduceEqDiff, hR, h8]
              rw [wrap_id (by omega)]; rfl
          · simp only [Bool.false_or, Z8, Bool.false_eq_true, if_false] at hsn
            subst hsn
            repeat' (first | ((with_reducible refine eq_go ?_); simp only [stp, ev, ZB, reduceIte, Nat.reduceEqDiff, Z2x, Z13, Zy, binV_bool_neq, binV_bool_eql, Ty.un4, ldv, stv, vcs, fldA, idxA, blt, lenV, Z10, ZH, Zg, Ze, Z14, Zw, Z33, Nat.reduceAdd, Nat.reduceMul, Nat.reduceLeDiff, splice, newB, Ty.t3, Ty.t4, Ty.t68, Ty.t70, Ty.t86, Ty.t95, Ty.t114, Nat.mul_one, bools_len, List.length_replicate, bools_set, *]; rfl) | (with_reducible first | refine aw_then ?_ | refine aw_skip ?_ | refine aw_ret ?_ | refine aw_exit ?_ | refine aw_block ?_ | refine xr_reg (by decide +kernel) ?_ | refine xr_nil ?_ | refine k_norm ?_ | refine k_ret ?_ | refine k_exit ?_ | refine b_norm ?_ | refine b_ret ?_ | refine b_exit ?_ | refine b_past (by decide) ?_) | (refine xr_do (v := ?_) (h' := ?_) (by exact rfl) ?_ ?_; rotate_left 2) | (refine xr_st (v := ?_) (h' := ?_) (by exact rfl) ?_ ?_; rotate_left 2) | (refine xr_g (b := ?_) (by exact rfl) ?_ ?_; rotate_left 1; (· simp only [ev, Zb, reduceIte, Nat.reduceEqDiff, Z8, Z5, *]; rfl)) | (with_reducible first | refine gw_tt ?_ | refine gw_ff ?_ | refine gw_tf ?_ | refine gw_ft ?_ | refine gw_un ?_) | refine gw_if (fun hb => ?_) (fun hb => ?_) | (refine aw_c (b := ?_) (by decide) ?_ ?_; rotate_left 1; (· simp only [ev, Zb, reduceIte, Nat.reduceEqDiff, *]; rfl)) | (with_reducible first | refine cw_t ?_ | refine cw_f ?_) | refine cw_if (fun hb => ?_) (fun hb => ?_) | (refine r_ret (vs := ?_) ?_ ?_; rotate_left 1; (· simp only [resV, ev, Zb, reduceIte, Nat.reduceEqDiff, Zj, *]; rfl)))
            refine aw_for [2, 6, 7, 8, 28, 29, 30, 62, 63] (fun i T h' => (∃ (L : Heap), h' = h ++ ⟨2, 1, [.int .i64 P, .slice (some a) n.trans.length c]⟩ :: ⟨2, 1, bools (setAll kps (t.out.take i))⟩ :: ⟨2, 1, bools (kts.set k true)⟩ :: L) ∧ T 64 = .int .i64 i) t.out.length (k0 := 0) (Nat.zero_le _) ⟨⟨_, rfl⟩, rfl⟩ ?_
            clear hgk htk
            rintro i T h' hi hR ⟨⟨L, rfl⟩, h64⟩
            simp only [Z37, Z38, Z39, implies_true, and_true, stp, ev, ZB, reduceIte, Nat.reduceEqDiff, Z2x, Z13, Zy] at hR
            rcases Nat.lt_or_ge i t.out.length with hin | hin
            · have h1n : (i : Int) < t.out.length := by omega
              obtain ⟨ad, rfl, hgp0⟩ := sl_get (e := 1) yrow i hin
              rw [Nat.mul_one] at hgp0
              have hgp := fun L => (hI.app L).get hgp0
              have hmem : t.out.getD i 0 ∈ t.out := by rw [List.getD_eq_getElem?_getD, List.getElem?_eq_getElem hin]; exact List.getElem_mem _
              have hrp := hro _ hmem
              have hsn := setAll_snoc kps hin
              have hli : t.out[i] = t.out.getD i 0 := by rw [List.getD_eq_getElem?_getD, List.getElem?_eq_getElem hin]; rfl
              rw [hli] at hsn
              clear hmem hli
              generalize t.out.getD i 0 = p at *
              obtain ⟨p, rfl⟩ : ∃ p' : Nat, p = p' := ⟨p.toNat, by omega⟩
              have hp1 : p + 1 ≤ P := by omega
              have hp2 : (p : Int) < P := by omega
              have hpl := setAll_len (t.out.take i) kps
              rw [Zq] at hsn
              repeat' (first | ((with_reducible refine eq_go ?_); simp only [stp, ev, ZB, reduceIte, Nat.reduceEqDiff, Z2x, Z13, Zy, binV_bool_neq, binV_bool_eql, Ty.un4, ldv, stv, vcs, fldA, idxA, blt, lenV, Z10, ZH, Zg, Ze, Z14, Zw, Z33, Nat.reduceAdd, Nat.reduceMul, Nat.reduceLeDiff, splice, newB, Ty.t3, Ty.t4, Ty.t68, Ty.t70, Ty.t86, Ty.t95, Ty.t114, Nat.mul_one, bools_len, List.length_replicate, bools_set, *]; rfl) | (with_reducible first | refine aw_then ?_ | refine aw_skip ?_ | refine aw_ret ?_ | refine aw_exit ?_ | refine aw_block ?_ | refine xr_reg (by decide +kernel) ?_ | refine xr_nil ?_ | refine k_norm ?_ | refine k_ret ?_ | refine k_exit ?_ | refine b_norm ?_ | refine b_ret ?_ | refine b_exit ?_ | refine b_past (by decide) ?_) | (refine xr_do (v := ?_) (h' := ?_) (by exact rfl) ?_ ?_; rotate_left 2) | (refine xr_st (v := ?_) (h' := ?_) (by exact rfl) ?_ ?_; rotate_left 2) | (refine xr_g (b := ?_) (by exact rfl) ?_ ?_; rotate_left 1; (· simp only [ev, Zb, reduceIte, Nat.reduceEqDiff, Z8, Z5, *]; rfl)) | (with_reducible first | refine gw_tt ?_ | refine gw_ff ?_ | refine gw_tf ?_ | refine gw_ft ?_ | refine gw_un ?_) | refine gw_if (fun hb => ?_) (fun hb => ?_) | (refine aw_c (b := ?_) (by decide) ?_ ?_; rotate_left 1; (· simp only [ev, Zb, reduceIte, Nat.reduceEqDiff, *]; rfl)) | (with_reducible first | refine cw_t ?_ | refine cw_f ?_) | refine cw_if (fun hb => ?_) (fun hb => ?_) | (refine r_ret (vs := ?_) ?_ ?_; rotate_left 1; (· simp only [resV, ev, Zb, reduceIte, Nat.reduceEqDiff, Zj, *]; rfl)))
              refine ⟨by first | assumption | omega, ?_, ?_⟩
              · simp only [Z37, Z38, Z39, implies_true, and_true, ZB, stp, ev, reduceIte, Nat.reduceEqDiff, Z2x, Z13, Zy, *]
              refine ⟨⟨L, by rw [hsn]⟩, ?_⟩
              simp only [Zb, reduceIte, Nat.reduceEqDiff]
              rw [wrap_id (by omega)]; rfl
            · have h1n : ¬ (i : Int) < t.out.length := by omega
              rw [List.take_of_length_le hin]
              repeat' (first | ((with_reducible refine eq_go ?_); simp only [stp, ev, ZB, reduceIte, Nat.reduceEqDiff, Z2x, Z13, Zy, binV_bool_neq, binV_bool_eql, Ty.un4, ldv, stv, vcs, fldA, idxA, blt, lenV, Z10, ZH, Zg, Ze, Z14, Zw, Z33, Nat.reduceAdd, Nat.reduceMul, Nat.reduceLeDiff, splice, newB, Ty.t3, Ty.t4, Ty.t68, Ty.t70, Ty.t86, Ty.t95, Ty.t114, Nat.mul_one, bools_len, List.length_replicate, bools_set, *]; rfl) | (with_reducible first | refine aw_then ?_ | refine aw_skip ?_ | refine aw_ret ?_ | refine aw_exit ?_ | refine aw_block ?_ | refine xr_reg (by decide +kernel) ?_ | refine xr_nil ?_ | refine k_norm ?_ | refine k_ret ?_ | refine k_exit ?_ | refine b_norm ?_ | refine b_ret ?_ | refine b_exit ?_ | refine b_past (by decide) ?_) | (refine xr_do (v := ?_) (h' := ?_) (by exact rfl) ?_ ?_; rotate_left 2) | (refine xr_st (v := ?_) (h' := ?_) (by exact rfl) ?_ ?_; rotate_left 2) | (refine xr_g (b := ?_) (by exact rfl) ?_ ?_; rotate_left 1; (· simp only [ev, Zb, reduceIte, Nat.reduceEqDiff, Z8, Z5, *]; rfl)) | (with_reducible first | refine gw_tt ?_ | refine gw_ff ?_ | refine gw_tf ?_ | refine gw_ft ?_ | refine gw_un ?_) | refine gw_if (fun hb => ?_) (fun hb => ?_) | (refine aw_c (b := ?_) (by decide) ?_ ?_; rotate_left 1; (· simp only [ev, Zb, reduceIte, Nat.reduceEqDiff, *]; rfl)) | (with_reducible first | refine cw_t ?_ | refine cw_f ?_) | refine cw_if (fun hb => ?_) (fun hb => ?_) | (refine r_ret (vs := ?_) ?_ ?_; rotate_left 1; (· simp only [resV, ev, Zb, reduceIte, Nat.reduceEqDiff, Zj, *]; rfl)))
              refine ⟨by first | assumption | omega, ?_, ?_⟩
              · simp only [Z37, Z38, Z39, implies_true, and_true, ZB, stp, ev, reduceIte, Nat.reduceEqDiff, Z2x, Z13, Zy, *]
              refine ⟨_, rfl, ?_, ?_⟩
              · simp only [Zb, reduceIte, Nat.reduceEqDiff, hR, h8]
              · simp only [Zb, reduceIte, Nat.reduceEqDiff, hR, h8]
                rw [wrap_id (by omega)]; rfl
    · have h1 : ¬ (k : Int) < n.trans.length := by omega
      obtain rfl : k = n.trans.length := by omega
      repeat' (first | ((with_reducible refine eq_go ?_); simp only [stp, ev, ZB, reduceIte, Nat.reduceEqDiff, Z2x, Z13, Zy, binV_bool_neq, binV_bool_eql, Ty.un4, ldv, stv, vcs, fldA, idxA, blt, lenV, Z10, ZH, Zg, Ze, Z14, Zw, Z33, Nat.reduceAdd, Nat.reduceMul, Nat.reduceLeDiff, splice, newB, Ty.t3, Ty.t4, Ty.t68, Ty.t70, Ty.t86, Ty.t95, Ty.t114, *]; rfl) | (with_reducible first | refine aw_then ?_ | refine aw_skip ?_ | refine aw_ret ?_ | refine aw_exit ?_ | refine aw_block ?_ | refine xr_reg (by decide +kernel) ?_ | refine xr_nil ?_ | refine k_norm ?_ | refine k_ret ?_ | refine k_exit ?_ | refine b_norm ?_ | refine b_ret ?_ | refine b_exit ?_ | refine b_past (by decide) ?_) | (refine xr_do (v := ?_) (h' := ?_) (by exact rfl) ?_ ?_; rotate_left 2) | (refine xr_st (v := ?_) (h' := ?_) (by exact rfl) ?_ ?_; rotate_left 2) | (refine xr_g (b := ?_) (by exact rfl) ?_ ?_; rotate_left 1; (· simp only [ev, Zb, reduceIte, Nat.reduceEqDiff, Z8, Z5, *]; rfl)) | (with_reducible first | refine gw_tt ?_ | refine gw_ff ?_ | refine gw_tf ?_ | refine gw_ft ?_ | refine gw_un ?_) | refine gw_if (fun hb => ?_) (fun hb => ?_) | (refine aw_c (b := ?_) (by decide) ?_ ?_; rotate_left 1; (· simp only [ev, Zb, reduceIte, Nat.reduceEqDiff, *]; rfl)) | (with_reducible first | refine cw_t ?_ | refine cw_f ?_) | refine cw_if (fun hb => ?_) (fun hb => ?_) | (refine r_ret (vs := ?_) ?_ ?_; rotate_left 1; (· simp only [resV, ev, Zb, reduceIte, Nat.reduceEqDiff, Zj, *]; rfl)))
      rcases Bool.eq_false_or_eq_true (sweepK false n.trans ⟨ps, ts, false⟩ n.trans.length).ch with hch | hch
      · refine ⟨f + 1, by omega, sweepK false n.trans ⟨ps, ts, false⟩ n.trans.length, f, _, rfl, ?_, by simp only [Zb, reduceIte, Nat.reduceEqDiff, hR, h2, h6, h7], by simp only [Zb, reduceIte, Nat.reduceEqDiff, hR, h2, h6, h7], by simp only [Zb, reduceIte, Nat.reduceEqDiff, hR, h2, h6, h7], hsl.1.trans hps, hsl.2.trans hts, fun _ => ⟨?_, ?_, by omega⟩, fun q => by rw [hch] at q; cases q⟩
        · simp only [Zb, reduceIte, Nat.reduceEqDiff, h8]
        · rw [reachF, if_pos hch] at hf1; exact hf1
        · have := sweep_cnt false n.trans ⟨ps, ts, false⟩ rfl n.trans.length (by simp only [hts]; omega)
          rw [if_pos hch] at this
          simp only at this; omega
      · refine ⟨0, by omega, sweepK false n.trans ⟨ps, ts, false⟩ n.trans.length, 0, _, rfl, ?_, by simp only [Zb, reduceIte, Nat.reduceEqDiff, hR, h2, h6, h7], by simp only [Zb, reduceIte, Nat.reduceEqDiff, hR, h2, h6, h7], by simp only [Zb, reduceIte, Nat.reduceEqDiff, hR, h2, h6, h7], hsl.1.trans hps, hsl.2.trans hts, fun q => (by rw [hch] at q; cases q), fun _ => ?_⟩
        · simp only [Zb, reduceIte, Nat.reduceEqDiff, h8]
        · rw [reachF, if_neg (by rw [hch]; simp)] at hf1; exact hf1
theorem l3Back_ok (n : NetM) (vt : Value) (I h : Heap) (place : Int) (hI : Sub I h) (hs : RTrs I vt n.trans) (hsm : n.small) (hok : netOk n = true) (hp : 0 ≤ place ∧ place ≤ n.places - 1) :
    ACalls Try.prog 0 80 #[.agg #[.int .i64 n.places, vt], .int .i64 place] h
    fun v h' => v = .tuple #[.slice (some ⟨h.length, 0, some 0⟩) n.places.toNat n.places.toNat, .slice (some ⟨h.length + 1, 0, some 0⟩) n.trans.length n.trans.length] ∧
      h' = h ++ [⟨2, 1, bools (reach true n place).1⟩, ⟨2, 1, bools (reach true n place).2⟩] := by
  refine acalls_canon _ _ ?_
  have hfl := hs.flat
  obtain ⟨b, c, rfl, hc, hrow⟩ := hs.form
  have hlen := hsm.1
  simp only [netOk, Bool.and_eq_true, decide_eq_true_eq, List.all_eq_true] at hok
  obtain ⟨hpl, h24, hall⟩ := hok
  obtain ⟨P, hP⟩ : ∃ P : Nat, n.places = P := ⟨n.places.toNat, by omega⟩
  obtain ⟨q, rfl⟩ : ∃ q : Nat, place = q := ⟨place.toNat, by omega⟩
  have hqP : q + 1 ≤ P := by omega
  have hqP1 : (q : Int) < P := by omega
  have hmk : ∀ (H : Heap) (m : Nat), m ≤ 1048576 → mkS Try.prog 114 H (.int .i64 m) (.int .i64 m) = some (.slice (some ⟨H.length, 0, none⟩) m m, H ++ [⟨2, 1, bools (List.replicate m false)⟩]) := fun H m hm => by
    rw [mkS_eq Ty.sl114 Ty.zc4 Ty.by4 (by omega) (by omega), bools_zeros]; rfl
  have hmk1 := fun H => hmk H P (by omega)
  have hmk2 := fun H => hmk H n.trans.length (by omega)
  refine Z36 Try.func80 rfl Try.ntmps80 (by simp) (by dsimp only [Try.f80]) ?_
  repeat' (first | ((with_reducible refine eq_go ?_); simp only [stp, ev, ZB, reduceIte, Nat.reduceEqDiff, Z2x, Z13, Zy, binV_bool_neq, binV_bool_eql, Ty.un4, ldv, stv, vcs, fldA, idxA, blt, lenV, Z10, ZH, Zg, Ze, Z14, Zw, Z33, Nat.reduceAdd, Nat.reduceMul, Nat.reduceLeDiff, splice, newB, Ty.t3, Ty.t4, Ty.t68, Ty.t70, Ty.t86, Ty.t95, Ty.t114, Nat.mul_one, bools_len, List.length_replicate, bools_set, *]; rfl) | (with_reducible first | refine aw_then ?_ | refine aw_skip ?_ | refine aw_ret ?_ | refine aw_exit ?_ | refine aw_block ?_ | refine xr_reg (by decide +kernel) ?_ | refine xr_nil ?_ | refine k_norm ?_ | refine k_ret ?_ | refine k_exit ?_ | refine b_norm ?_ | refine b_ret ?_ | refine b_exit ?_ | refine b_past (by decide) ?_) | (refine xr_do (v := ?_) (h' := ?_) (by exact rfl) ?_ ?_; rotate_left 2) | (refine xr_st (v := ?_) (h' := ?_) (by exact rfl) ?_ ?_; rotate_left 2) | (refine xr_g (b := ?_) (by exact rfl) ?_ ?_; rotate_left 1; (· simp only [ev, Zb, reduceIte, Nat.reduceEqDiff, Z8, Z5, *]; rfl)) | (with_reducible first | refine gw_tt ?_ | refine gw_ff ?_ | refine gw_tf ?_ | refine gw_ft ?_ | refine gw_un ?_) | refine gw_if (fun hb => ?_) (fun hb => ?_) | (refine aw_c (b := ?_) (by decide) ?_ ?_; rotate_left 1; (· simp only [ev, Zb, reduceIte, Nat.reduceEqDiff, *]; rfl)) | (with_reducible first | refine cw_t ?_ | refine cw_f ?_) | refine cw_if (fun hb => ?_) (fun hb => ?_) | (refine r_ret (vs := ?_) ?_ ?_; rotate_left 1; (· simp only [resV, ev, Zb, reduceIte, Nat.reduceEqDiff, Zj, *]; rfl)))
  refine aw_loop (n := n.trans.length + 2) (fun m T h' => ∃ (s : St) (f : Nat) (L : Heap), h' = h ++ ⟨2, 1, [.int .i64 P, .slice b n.trans.length c]⟩ :: ⟨2, 1, bools s.ps⟩ :: ⟨2, 1, bools s.ts⟩ :: L ∧
      T 8 = .bool s.ch ∧ T 2 = .pointer (some ⟨h.length, 0, none⟩) ∧ T 6 = .slice (some ⟨h.length + 1, 0, none⟩) P P ∧ T 7 = .slice (some ⟨h.length + 2, 0, none⟩) n.trans.length n.trans.length ∧
      s.ps.length = P ∧ s.ts.length = n.trans.length ∧ (s.ch = true → reachF true n.trans f (s.ps, s.ts) = reach true n q ∧ cnt s.ts < f ∧ f + 1 ≤ m) ∧ (s.ch = false → (s.ps, s.ts) = reach true n q))
    ⟨⟨(List.replicate P false).set q true, List.replicate n.trans.length false, true⟩, n.trans.length + 1, [], rfl, rfl, rfl, rfl, rfl, by simp, by simp, fun _ => ⟨by simp only [reach, hP, Zq], Nat.lt_succ_of_le (by have := cnt_le (List.replicate n.trans.length false); rw [bsz] at this; exact this), by omega⟩, fun q => by cases q⟩ ?_
  clear hmk hmk1 hmk2
  rintro m T h' ⟨⟨ps, ts, ch⟩, f, L, rfl, h8, h2, h6, h7, hps, hts, hc1, hc2⟩
  simp only at h8 hps hts hc1 hc2 ⊢
  cases ch
  · have hR0 := hc2 rfl
    clear hc1 hc2
    repeat' (first | ((with_reducible refine eq_go ?_); simp only [stp, ev, ZB, reduceIte, Nat.reduceEqDiff, Z2x, Z13, Zy, binV_bool_neq, binV_bool_eql, Ty.un4, ldv, stv, vcs, fldA, idxA, blt, lenV, Z10, ZH, Zg, Ze, Z14, Zw, Z33, Nat.reduceAdd, Nat.reduceMul, Nat.reduceLeDiff, splice, newB, Ty.t3, Ty.t4, Ty.t68, Ty.t70, Ty.t86, Ty.t95, Ty.t114, *]; rfl) | (with_reducible first | refine aw_then ?_ | refine aw_skip ?_ | refine aw_ret ?_ | refine aw_exit ?_ | refine aw_block ?_ | refine xr_reg (by decide +kernel) ?_ | refine xr_nil ?_ | refine k_norm ?_ | refine k_ret ?_ | refine k_exit ?_ | refine b_norm ?_ | refine b_ret ?_ | refine b_exit ?_ | refine b_past (by decide) ?_) | (refine xr_do (v := ?_) (h' := ?_) (by exact rfl) ?_ ?_; rotate_left 2) | (refine xr_st (v := ?_) (h' := ?_) (by exact rfl) ?_ ?_; rotate_left 2) | (refine xr_g (b := ?_) (by exact rfl) ?_ ?_; rotate_left 1; (· simp only [ev, Zb, reduceIte, Nat.reduceEqDiff, Z8, Z5, *]; rfl)) | (with_reducible first | refine gw_tt ?_ | refine gw_ff ?_ | refine gw_tf ?_ | refine gw_ft ?_ | refine gw_un ?_) | refine gw_if (fun hb => ?_) (fun hb => ?_) | (refine aw_c (b := ?_) (by decide) ?_ ?_; rotate_left 1; (· simp only [ev, Zb, reduceIte, Nat.reduceEqDiff, *]; rfl)) | (with_reducible first | refine cw_t ?_ | refine cw_f ?_) | refine cw_if (fun hb => ?_) (fun hb => ?_) | (refine r_ret (vs := ?_) ?_ ?_; rotate_left 1; (· simp only [resV, ev, Zb, reduceIte, Nat.reduceEqDiff, Zj, *]; rfl)))
    rw [← hR0]
    exact ⟨_, [1, 2], rfl, Inj.two (by decide), rfl, BsOk.cons rfl (bools_af _) rfl (BsOk.cons rfl (bools_af _) rfl (BsOk.nil _ _)), RVl.tuple (l := [_, _]) (l' := [_, _]) ⟨by rw [hP, Zq]; exact .sl 0 1 _ _ 1 _ _ rfl rfl (by rw [bools_len, hps, Nat.mul_one]) (Z4 _) (.inl ⟨rfl, rfl⟩), .sl 1 2 _ _ 1 _ _ rfl rfl (by rw [bools_len, hts, Nat.mul_one]) (Z4 _) (.inl ⟨rfl, rfl⟩), trivial⟩⟩
  · obtain ⟨hf1, hf2, hf3⟩ := hc1 rfl
    clear hc1 hc2
    obtain ⟨f, rfl⟩ : ∃ g, f = g + 1 := ⟨f - 1, by omega⟩
    repeat' (first | ((with_reducible refine eq_go ?_); simp only [stp, ev, ZB, reduceIte, Nat.reduceEqDiff, Z2x, Z13, Zy, binV_bool_neq, binV_bool_eql, Ty.un4, ldv, stv, vcs, fldA, idxA, blt, lenV, Z10, ZH, Zg, Ze, Z14, Zw, Z33, Nat.reduceAdd, Nat.reduceMul, Nat.reduceLeDiff, splice, newB, Ty.t3, Ty.t4, Ty.t68, Ty.t70, Ty.t86, Ty.t95, Ty.t114, *]; rfl) | (with_reducible first | refine aw_then ?_ | refine aw_skip ?_ | refine aw_ret ?_ | refine aw_exit ?_ | refine aw_block ?_ | refine xr_reg (by decide +kernel) ?_ | refine xr_nil ?_ | refine k_norm ?_ | refine k_ret ?_ | refine k_exit ?_ | refine b_norm ?_ | refine b_ret ?_ | refine b_exit ?_ | refine b_past (by decide) ?_) | (refine xr_do (v := ?_) (h' := ?_) (by exact rfl) ?_ ?_; rotate_left 2) | (refine xr_st (v := ?_) (h' := ?_) (by exact rfl) ?_ ?_; rotate_left 2) | (refine xr_g (b := ?_) (by exact rfl) ?_ ?_; rotate_left 1; (· simp only [ev, Zb, reduceIte, Nat.reduceEqDiff, Z8, Z5, *]; rfl)) | (with_reducible first | refine gw_tt ?_ | refine gw_ff ?_ | refine gw_tf ?_ | refine gw_ft ?_ | refine gw_un ?_) | refine gw_if (fun hb => ?_) (fun hb => ?_) | (refine aw_c (b := ?_) (by decide) ?_ ?_; rotate_left 1; (· simp only [ev, Zb, reduceIte, Nat.reduceEqDiff, *]; rfl)) | (with_reducible first | refine cw_t ?_ | refine cw_f ?_) | refine cw_if (fun hb => ?_) (fun hb => ?_) | (refine r_ret (vs := ?_) ?_ ?_; rotate_left 1; (· simp only [resV, ev, Zb, reduceIte, Nat.reduceEqDiff, Zj, *]; rfl)))
    refine aw_for [2, 6, 7, 28, 29] (fun k T h' => ∃ (L : Heap), h' = h ++ ⟨2, 1, [.int .i64 P, .slice b n.trans.length c]⟩ :: ⟨2, 1, bools (sweepK true n.trans ⟨ps, ts, false⟩ k).ps⟩ :: ⟨2, 1, bools (sweepK true n.trans ⟨ps, ts, false⟩ k).ts⟩ :: L ∧
      T 8 = .bool (sweepK true n.trans ⟨ps, ts, false⟩ k).ch ∧ T 30 = .int .i64 k) n.trans.length (k0 := 0) (Nat.zero_le _) ⟨L, rfl, rfl, rfl⟩ ?_
    rintro k T h' hk hR ⟨L, rfl, h8, h30⟩
    simp only [Z37, Z38, Z39, implies_true, and_true, stp, ev, ZB, reduceIte, Nat.reduceEqDiff, Z2x, Z13, Zy] at hR
    have hsl := sweep_len true n.trans ⟨ps, ts, false⟩ k
    have hsn : sweepK true n.trans ⟨ps, ts, false⟩ (k + 1) = rStep true (n.trans.getD k Tr.nil) k (sweepK true n.trans ⟨ps, ts, false⟩ k) := rfl
    rcases Nat.lt_or_ge k n.trans.length with hkn | hkn
    · have h1 : (k : Int) < n.trans.length := by omega
      obtain ⟨a, row, rfl, hrl, hrt, hld0⟩ := hrow k hkn
      obtain ⟨x, y, z, rfl, q1, q2, q3⟩ := hrt
      obtain ⟨s1, s2, s3⟩ := hsm.2 n.trans[k] (List.getElem_mem hkn)
      have htok := hall _ (List.getElem_mem hkn)
      have hld := fun L => hld0 _ (hI.app L)
      have f3 := q3.flat
      obtain ⟨hri, hro⟩ := trOk_range htok
      rw [hP] at hri hro
      obtain ⟨x1, x2, rfl, x3, xrow⟩ := q1
      obtain ⟨y1, y2, rfl, y3, yrow⟩ := q2
      simp only [ints_length] at hld x3 y3
      clear hrow hld0 htok
      rw [show n.trans.getD k Tr.nil = n.trans[k] by rw [List.getD_eq_getElem?_getD, List.getElem?_eq_getElem hkn]; rfl] at hsn
      generalize n.trans[k] = t at *
      generalize sweepK true n.trans ⟨ps, ts, false⟩ k = sk at *
      generalize sweepK true n.trans ⟨ps, ts, false⟩ (k + 1) = sk1 at *
      obtain ⟨kps, kts, kch⟩ := sk
      simp only at hsl h8 hsn
      obtain ⟨hl1, hl2⟩ := hsl
      rw [hps] at hl1
      rw [hts] at hl2
      have hgk : (bools kts)[k]? = some (.bool (kts.getD k false)) := bools_get kts (by omega)
      have hkl : k + 1 ≤ n.trans.length := by omega
      simp only [rStep, Tr.src, Tr.dst, Bool.false_eq_true, if_false, Z2x] at hsn
      repeat' (first | ((with_reducible refine eq_go ?_); simp only [stp, ev, ZB, reduceIte, Nat.reduceEqDiff, Z2x, Z13, Zy, binV_bool_neq, binV_bool_eql, Ty.un4, ldv, stv, vcs, fldA, idxA, blt, lenV, Z10, ZH, Zg, Ze, Z14, Zw, Z33, Nat.reduceAdd, Nat.reduceMul, Nat.reduceLeDiff, splice, newB, Ty.t3, Ty.t4, Ty.t68, Ty.t70, Ty.t86, Ty.t95, Ty.t114, Nat.mul_one, bools_len, List.length_replicate, bools_set, *]; rfl) | (with_reducible first | refine aw_then ?_ | refine aw_skip ?_ | refine aw_ret ?_ | refine aw_exit ?_ | refine aw_block ?_ | refine xr_reg (by decide +kernel) ?_ | refine xr_nil ?_ | refine k_norm ?_ | refine k_ret ?_ | refine k_exit ?_ | refine b_norm ?_ | refine b_ret ?_ | refine b_exit ?_ | refine b_past (by decide) ?_) | (refine xr_do (v := ?_) (h' := ?_) (by exact rfl) ?_ ?_; rotate_left 2) | (refine xr_st (v := ?_) (h' := ?_) (by exact rfl) ?_ ?_; rotate_left 2) | (refine xr_g (b := ?_) (by exact rfl) ?_ ?_; rotate_left 1; (· simp only [ev, Zb, reduceIte, Nat.reduceEqDiff, Z8, Z5, *]; rfl)) | (with_reducible first | refine gw_tt ?_ | refine gw_ff ?_ | refine gw_tf ?_ | refine gw_ft ?_ | refine gw_un ?_) | refine gw_if (fun hb => ?_) (fun hb => ?_) | (refine aw_c (b := ?_) (by decide) ?_ ?_; rotate_left 1; (· simp only [ev, Zb, reduceIte, Nat.reduceEqDiff, *]; rfl)) | (with_reducible first | refine cw_t ?_ | refine cw_f ?_) | refine cw_if (fun hb => ?_) (fun hb => ?_) | (refine r_ret (vs := ?_) ?_ ?_; rotate_left 1; (· simp only [resV, ev, Zb, reduceIte, Nat.reduceEqDiff, Zj, *]; rfl)))
      refine aw_for [2, 6, 7, 8, 9, 28, 29, 30, 36, 37] (fun i T h' => (∃ L : Heap, h' = h ++ ⟨2, 1, [.int .i64 P, .slice (some a) n.trans.length c]⟩ :: ⟨2, 1, bools kps⟩ :: ⟨2, 1, bools kts⟩ :: (L ++ [⟨2, 1, [.slice x1 t.inn.length x2, .slice y1 t.out.length y2, z]⟩]) ∧ T 10 = .pointer (some ⟨h.length + (L.length + 3), 0, none⟩)) ∧ T 38 = .int .i64 i ∧ T 11 = .bool (anyAt kps (t.out.take i))) t.out.length (k0 := 0) (Nat.zero_le _) ⟨⟨L, rfl, rfl⟩, rfl, rfl⟩ ?_
      rintro i T h' hi hR ⟨⟨L, rfl, h10⟩, h38, h11⟩
      simp only [Z37, Z38, Z39, implies_true, and_true, stp, ev, ZB, reduceIte, Nat.reduceEqDiff, Z2x, Z13, Zy] at hR
      rcases Nat.lt_or_ge i t.out.length with hin | hin
      · have h1n : (i : Int) < t.out.length := by omega
        obtain ⟨ad, rfl, hgp0⟩ := sl_get (e := 1) yrow i hin
        rw [Nat.mul_one] at hgp0
        have hgp := fun L => (hI.app L).get hgp0
        have hli : t.out[i] = t.out.getD i 0 := by rw [List.getD_eq_getElem?_getD, List.getElem?_eq_getElem hin]; rfl
        have hmem : t.out.getD i 0 ∈ t.out := by rw [← hli]; exact List.getElem_mem _
        have hrp := hro _ hmem
        have hsn : anyAt kps (t.out.take (i + 1)) = (anyAt kps (t.out.take i) || kps.getD (t.out.getD i 0).toNat false) := by
          unfold anyAt
          rw [← List.take_append_getElem hin, List.any_append, hli]; simp
        clear hmem hli
        generalize t.out.getD i 0 = p at *
        obtain ⟨p, rfl⟩ : ∃ p' : Nat, p = p' := ⟨p.toNat, by omega⟩
        rw [Zq] at hsn
        have hp2 : (p : Int) < P := by omega
        have hgb : (bools kps)[p]? = some (.bool (kps.getD p false)) := bools_get kps (by omega)
        generalize kps.getD p false = pb at *
        generalize anyAt kps (t.out.take i) = an at *
        cases an
        all_goals
          simp only [Bool.false_or, Bool.true_or] at hsn
          repeat' (first | ((with_reducible refine eq_go ?_); simp only [stp, ev, ZB, reduceIte, Nat.reduceEqDiff, Z2x, Z13, Zy, binV_bool_neq, binV_bool_eql, Ty.un4, ldv, stv, vcs, fldA, idxA, blt, lenV, Z10, ZH, Zg, Ze, Z14, Zw, Z33, Nat.reduceAdd, Nat.reduceMul, Nat.reduceLeDiff, splice, newB, Ty.t3, Ty.t4, Ty.t68, Ty.t70, Ty.t86, Ty.t95, Ty.t114, Nat.mul_one, bools_len, List.length_replicate, bools_set, *]; rfl) | (with_reducible first | refine aw_then ?_ | refine aw_skip ?_ | refine aw_ret ?_ | refine aw_exit ?_ | refine aw_block ?_ | refine xr_reg (by decide +kernel) ?_ | refine xr_nil ?_ | refine k_norm ?_ | refine k_ret ?_ | refine k_exit ?_ | refine b_norm ?_ | refine b_ret ?_ | refine b_exit ?_ | refine b_past (by decide) ?_) | (refine xr_do (v := ?_) (h' := ?_) (by exact rfl) ?_ ?_; rotate_left 2) | (refine xr_st (v := ?_) (h' := ?_) (by exact rfl) ?_ ?_; rotate_left 2) | (refine xr_g (b := ?_) (by exact rfl) ?_ ?_; rotate_left 1; (· simp only [ev, Zb, reduceIte, Nat.reduceEqDiff, Z8, Z5, *]; rfl)) | (with_reducible first | refine gw_tt ?_ | refine gw_ff ?_ | refine gw_tf ?_ | refine gw_ft ?_ | refine gw_un ?_) | refine gw_if (fun hb => ?_) (fun hb => ?_) | (refine aw_c (b := ?_) (by decide) ?_ ?_; rotate_left 1; (· simp only [ev, Zb, reduceIte, Nat.reduceEqDiff, *]; rfl)) | (with_reducible first | refine cw_t ?_ | refine cw_f ?_) | refine cw_if (fun hb => ?_) (fun hb => ?_) | (refine r_ret (vs := ?_) ?_ ?_; rotate_left 1; (· simp only [resV, ev, Zb, reduceIte, Nat.reduceEqDiff, Zj, *]; rfl)))
          refine ⟨by first | assumption | omega, ?_, ?_⟩
          · simp only [Z37, Z38, Z39, implies_true, and_true, ZB, stp, ev, reduceIte, Nat.reduceEqDiff, Z2x, Z13, Zy, *]
          refine ⟨⟨L, rfl, ?_⟩, ?_, ?_⟩
          · simp only [Zb, reduceIte, Nat.reduceEqDiff, h10]
          · simp only [Zb, reduceIte, Nat.reduceEqDiff]
            rw [wrap_id (by omega)]; rfl
          · simp only [Zb, reduceIte, Nat.reduceEqDiff, hsn, h11]
      · have h1n : ¬ (i : Int) < t.out.length := by omega
        rw [List.take_of_length_le hin] at h11
        generalize hpan : anyAt kps t.out = an at *
        rcases Bool.eq_false_or_eq_true (kts.getD k false) with htk | htk
        · rw [htk] at hgk hsn
          simp only [Bool.true_or, Z2x] at hsn
          subst hsn
          cases an
          all_goals
            repeat' (first | ((with_reducible refine eq_go ?_); simp only [stp, ev, ZB, reduceIte, Nat.reduceEqDiff, Z2x, Z13, Zy, binV_bool_neq, binV_bool_eql, Ty.un4, ldv, stv, vcs, fldA, idxA, blt, lenV, Z10, ZH, Zg, Ze, Z14, Zw, Z33, Nat.reduceAdd, Nat.reduceMul, Nat.reduceLeDiff, splice, newB, Ty.t3, Ty.t4, Ty.t68, Ty.t70, Ty.t86, Ty.t95, Ty.t114, Nat.mul_one, bools_len, List.length_replicate, bools_set, *]; rfl) | (with_reducible first | refine aw_then ?_ | refine aw_skip ?_ | refine aw_ret ?_ | refine aw_exit ?_ | refine aw_block ?_ | refine xr_reg (by decide +kernel) ?_ | refine xr_nil ?_ | refine k_norm ?_ | refine k_ret ?_ | refine k_exit ?_ | refine b_norm ?_ | refine b_ret ?_ | refine b_exit ?_ | refine b_past (by decide) ?_) | (refine xr_do (v := ?_) (h' := ?_) (by exact rfl) ?_ ?_; rotate_left 2) | (refine xr_st (v := ?_) (h' := ?_) (by exact rfl) ?_ ?_; rotate_left 2) | (refine xr_g (b := ?_) (by exact rfl) ?_ ?_; rotate_left 1; (· simp only [ev, Zb, reduceIte, Nat.reduceEqDiff, Z8, Z5, *]; rfl)) | (with_reducible first | refine gw_tt ?_ | refine gw_ff ?_ | refine gw_tf ?_ | refine gw_ft ?_ | refine gw_un ?_) | refine gw_if (fun hb => ?_) (fun hb => ?_) | (refine aw_c (b := ?_) (by decide) ?_ ?_; rotate_left 1; (· simp only [ev, Zb, reduceIte, Nat.reduceEqDiff, *]; rfl)) | (with_reducible first | refine cw_t ?_ | refine cw_f ?_) | refine cw_if (fun hb => ?_) (fun hb => ?_) | (refine r_ret (vs := ?_) ?_ ?_; rotate_left 1; (· simp only [resV, ev, Zb, reduceIte, Nat.reduceEqDiff, Zj, *]; rfl)))
            refine ⟨by first | assumption | omega, ?_, ?_⟩
            · simp only [Z37, Z38, Z39, implies_true, and_true, ZB, stp, ev, reduceIte, Nat.reduceEqDiff, Z2x, Z13, Zy, *]
            refine ⟨_, rfl, ?_, ?_⟩
            · simp only [Zb, reduceIte, Nat.reduceEqDiff, hR, h8]
            · simp only [Zb, reduceIte, Nat.reduceEqDiff, hR, h8]
              rw [wrap_id (by omega)]; rfl
        · rw [htk] at hgk hsn
          cases an
          · simp only [Bool.false_or, Z5, Z2x] at hsn
            subst hsn
            repeat' (first | ((with_reducible refine eq_go ?_); simp only [stp, ev, ZB, reduceIte, Nat.reduceEqDiff, Z2x, Z13, Zy, binV_bool_neq, binV_bool_eql, Ty.un4, ldv, stv, vcs, fldA, idxA, blt, lenV, Z10, ZH, Zg, Ze, Z14, Zw, Z33, Nat.reduceAdd, Nat.reduceMul, Nat.reduceLeDiff, splice, newB, Ty.t3, Ty.t4, Ty.t68, Ty.t70, Ty.t86, Ty.t95, Ty.t114, Nat.mul_one, bools_len, List.length_replicate, bools_set, *]; rfl) | (with_reducible first | refine aw_then ?_ | refine aw_skip ?_ | refine aw_ret ?_ | refine aw_exit ?_ | refine aw_block ?_ | refine xr_reg (by decide +kernel) ?_ | refine xr_nil ?_ | refine k_norm ?_ | refine k_ret ?_ | refine k_exit ?_ | refine b_norm ?_ | refine b_ret ?_ | refine b_exit ?_ | refine b_past (by decide) ?_) | (refine xr_do (v := ?_) (h' := ?_) (by exact rfl) ?_ ?_; rotate_left 2) | (refine xr_st (v := ?_) (h' := ?_) (by exact rfl) ?_ ?_; rotate_left 2) | (refine xr_g (b := ?_) (by exact rfl) ?_ ?_; rotate_left 1; (· simp only [ev, Zb, reduceIte, Nat.reduceEqDiff, Z8, Z5, *]; rfl)) | (with_reducible first | refine gw_tt ?_ | refine gw_ff ?_ | refine gw_tf ?_ | refine gw_ft ?_ | refine gw_un ?_) | refine gw_if (fun hb => ?_) (fun hb => ?_) | (refine aw_c (b := ?_) (by decide) ?_ ?_; rotate_left 1; (· simp only [ev, Zb, reduceIte, Nat.reduceEqDiff, *]; rfl)) | (with_reducible first | refine cw_t ?_ | refine cw_f ?_) | refine cw_if (fun hb => ?_) (fun hb => ?_) | (refine r_ret (vs := ?_) ?_ ?_; rotate_left 1; (· simp only [resV, ev, Zb, reduceIte, Nat.reduceEqDiff, Zj, *]; rfl)))
            refine ⟨by first | assumption | omega, ?_, ?_⟩
            · simp only [Z37, Z38, Z39, implies_true, and_true, ZB, stp, ev, reduceIte, Nat.reduceEqDiff, Z2x, Z13, Zy, *]
            refine ⟨_, rfl, ?_, ?_⟩
            · simp only [Zb, reduceIte, Nat.reduceEqDiff, hR, h8]
            · simp only [Zb, reduceIte, Nat.reduceEqDiff, hR, h8]
              rw [wrap_id (by omega)]; rfl
          · simp only [Bool.false_or, Z8, Bool.false_eq_true, if_false] at hsn
            subst hsn
            repeat' (first | ((with_reducible refine eq_go ?_); simp only [stp, ev, ZB, reduceIte, Nat.reduceEqDiff, Z2x, Z13, Zy, binV_bool_neq, binV_bool_eql, Ty.un4, ldv, stv, vcs, fldA, idxA, blt, lenV, Z10, ZH, Zg, Ze, Z14, Zw, Z33, Nat.reduceAdd, Nat.reduceMul, Nat.reduceLeDiff, splice, newB, Ty.t3, Ty.t4, Ty.t68, Ty.t70, Ty.t86, Ty.t95, Ty.t114, Nat.mul_one, bools_len, List.length_replicate, bools_set, *]; rfl) | (with_reducible first | refine aw_then ?_ | refine aw_skip ?_ | refine aw_ret ?_ | refine aw_exit ?_ | refine aw_block ?_ | refine xr_reg (by decide +kernel) ?_ | refine xr_nil ?_ | refine k_norm ?_ | refine k_ret ?_ | refine k_exit ?_ | refine b_norm ?_ | refine b_ret ?_ | refine b_exit ?_ | refine b_past (by decide) ?_) | (refine xr_do (v := ?_) (h' := ?_) (by exact rfl) ?_ ?_; rotate_left 2) | (refine xr_st (v := ?_) (h' := ?_) (by exact rfl) ?_ ?_; rotate_left 2) | (refine xr_g (b := ?_) (by exact rfl) ?_ ?_; rotate_left 1; (· simp only [ev, Zb, reduceIte, Nat.reduceEqDiff, Z8, Z5, *]; rfl)) | (with_reducible first | refine gw_tt ?_ | refine gw_ff ?_ | refine gw_tf ?_ | refine gw_ft ?_ | refine gw_un ?_) | refine gw_if (fun hb => ?_) (fun hb => ?_) | (refine aw_c (b := ?_) (by decide) ?_ ?_; rotate_left 1; (· simp only [ev, Zb, reduceIte, Nat.reduceEqDiff, *]; rfl)) | (with_reducible first | refine cw_t ?_ | refine cw_f ?_) | refine cw_if (fun hb => ?_) (fun hb => ?_) | (refine r_ret (vs := ?_) ?_ ?_; rotate_left 1; (· simp only [resV, ev, Zb, reduceIte, Nat.reduceEqDiff, Zj, *]; rfl)))
            refine aw_for [2, 6, 7, 8, 28, 29, 30, 62, 63] (fun i T h' => (∃ (L : Heap), h' = h ++ ⟨2, 1, [.int .i64 P, .slice (some a) n.trans.length c]⟩ :: ⟨2, 1, bools (setAll kps (t.inn.take i))⟩ :: ⟨2, 1, bools (kts.set k true)⟩ :: L) ∧ T 64 = .int .i64 i) t.inn.length (k0 := 0) (Nat.zero_le _) ⟨⟨_, rfl⟩, rfl⟩ ?_
            clear hgk htk
            rintro i T h' hi hR ⟨⟨L, rfl⟩, h64⟩
            simp only [Z37, Z38, Z39, implies_true, and_true, stp, ev, ZB, reduceIte, Nat.reduceEqDiff, Z2x, Z13, Zy] at hR
            rcases Nat.lt_or_ge i t.inn.length with hin | hin
            · have h1n : (i : Int) < t.inn.length := by omega
              obtain ⟨ad, rfl, hgp0⟩ := sl_get (e := 1) xrow i hin
              rw [Nat.mul_one] at hgp0
              have hgp := fun L => (hI.app L).get hgp0
              have hmem : t.inn.getD i 0 ∈ t.inn := by rw [List.getD_eq_getElem?_getD, List.getElem?_eq_getElem hin]; exact List.getElem_mem _
              have hrp := hri _ hmem
              have hsn := setAll_snoc kps hin
              have hli : t.inn[i] = t.inn.getD i 0 := by rw [List.getD_eq_getElem?_getD, List.getElem?_eq_getElem hin]; rfl
              rw [hli] at hsn
              clear hmem hli
              generalize t.inn.getD i 0 = p at *
              obtain ⟨p, rfl⟩ : ∃ p' : Nat, p = p' := ⟨p.toNat, by omega⟩
              have hp1 : p + 1 ≤ P := by omega
              have hp2 : (p : Int) < P := by omega
              have hpl := setAll_len (t.inn.take i) kps
              rw [Zq] at hsn
              repeat' (first | ((with_reducible refine eq_go ?_); simp only [stp, ev, ZB, reduceIte, Nat.reduceEqDiff, Z2x, Z13, Zy, binV_bool_neq, binV_bool_eql, Ty.un4, ldv, stv, vcs, fldA, idxA, blt, lenV, Z10, ZH, Zg, Ze, Z14, Zw, Z33, Nat.reduceAdd, Nat.reduceMul, Nat.reduceLeDiff, splice, newB, Ty.t3, Ty.t4, Ty.t68, Ty.t70, Ty.t86, Ty.t95, Ty.t114, Nat.mul_one, bools_len, List.length_replicate, bools_set, *]; rfl) | (with_reducible first | refine aw_then ?_ | refine aw_skip ?_ | refine aw_ret ?_ | refine aw_exit ?_ | refine aw_block ?_ | refine xr_reg (by decide +kernel) ?_ | refine xr_nil ?_ | refine k_norm ?_ | refine k_ret ?_ | refine k_exit ?_ | refine b_norm ?_ | refine b_ret ?_ | refine b_exit ?_ | refine b_past (by decide) ?_) | (refine xr_do (v := ?_) (h' := ?_) (by exact rfl) ?_ ?_; rotate_left 2) | (refine xr_st (v := ?_) (h' := ?_) (by exact rfl) ?_ ?_; rotate_left 2) | (refine xr_g (b := ?_) (by exact rfl) ?_ ?_; rotate_left 1; (· simp only [ev, Zb, reduceIte, Nat.reduceEqDiff, Z8, Z5, *]; rfl)) | (with_reducible first | refine gw_tt ?_ | refine gw_ff ?_ | refine gw_tf ?_ | refine gw_ft ?_ | refine gw_un ?_) | refine gw_if (fun hb => ?_) (fun hb => ?_) | (refine aw_c (b := ?_) (by decide) ?_ ?_; rotate_left 1; (· simp only [ev, Zb, reduceIte, Nat.reduceEqDiff, *]; rfl)) | (with_reducible first | refine cw_t ?_ | refine cw_f ?_) | refine cw_if (fun hb => ?_) (fun hb => ?_) | (refine r_ret (vs := ?_) ?_ ?_; rotate_left 1; (· simp only [resV, ev, Zb, reduceIte, Nat.reduceEqDiff, Zj, *]; rfl)))
              refine ⟨by first | assumption | omega, ?_, ?_⟩
              · simp only [Z37, Z38, Z39, implies_true, and_true, ZB, stp, ev, reduceIte, Nat.reduceEqDiff, Z2x, Z13, Zy, *]
              refine ⟨⟨L, by rw [hsn]⟩, ?_⟩
              simp only [Zb, reduceIte, Nat.reduceEqDiff]
              rw [wrap_id (by omega)]; rfl
            · have h1n : ¬ (i : Int) < t.inn.length := by omega
              rw [List.take_of_length_le hin]
              repeat' (first | ((with_reducible refine eq_go ?_); simp only [stp, ev, ZB, reduceIte, Nat.reduceEqDiff, Z2x, Z13, Zy, binV_bool_neq, binV_bool_eql, Ty.un4, ldv, stv, vcs, fldA, idxA, blt, lenV, Z10, ZH, Zg, Ze, Z14, Zw, Z33, Nat.reduceAdd, Nat.reduceMul, Nat.reduceLeDiff, splice, newB, Ty.t3, Ty.t4, Ty.t68, Ty.t70, Ty.t86, Ty.t95, Ty.t114, Nat.mul_one, bools_len, List.length_replicate, bools_set, *]; rfl) | (with_reducible first | refine aw_then ?_ | refine aw_skip ?_ | refine aw_ret ?_ | refine aw_exit ?_ | refine aw_block ?_ | refine xr_reg (by decide +kernel) ?_ | refine xr_nil ?_ | refine k_norm ?_ | refine k_ret ?_ | refine k_exit ?_ | refine b_norm ?_ | refine b_ret ?_ | refine b_exit ?_ | refine b_past (by decide) ?_) | (refine xr_do (v := ?_) (h' := ?_) (by exact rfl) ?_ ?_; rotate_left 2) | (refine xr_st (v := ?_) (h' := ?_) (by exact rfl) ?_ ?_; rotate_left 2) | (refine xr_g (b := ?_) (by exact rfl) ?_ ?_; rotate_left 1; (· simp only [ev, Zb, reduceIte, Nat.reduceEqDiff, Z8, Z5, *]; rfl)) | (with_reducible first | refine gw_tt ?_ | refine gw_ff ?_ | refine gw_tf ?_ | refine gw_ft ?_ | refine gw_un ?_) | refine gw_if (fun hb => ?_) (fun hb => ?_) | (refine aw_c (b := ?_) (by decide) ?_ ?_; rotate_left 1; (· simp only [ev, Zb, reduceIte, Nat.reduceEqDiff, *]; rfl)) | (with_reducible first | refine cw_t ?_ | refine cw_f ?_) | refine cw_if (fun hb => ?_) (fun hb => ?_) | (refine r_ret (vs := ?_) ?_ ?_; rotate_left 1; (· simp only [resV, ev, Zb, reduceIte, Nat.reduceEqDiff, Zj, *]; rfl)))
              refine ⟨by first | assumption | omega, ?_, ?_⟩
              · simp only [Z37, Z38, Z39, implies_true, and_true, ZB, stp, ev, reduceIte, Nat.reduceEqDiff, Z2x, Z13, Zy, *]
              refine ⟨_, rfl, ?_, ?_⟩
              · simp only [Zb, reduceIte, Nat.reduceEqDiff, hR, h8]
              · simp only [Zb, reduceIte, Nat.reduceEqDiff, hR, h8]
                rw [wrap_id (by omega)]; rfl
    · have h1 : ¬ (k : Int) < n.trans.length := by omega
      obtain rfl : k = n.trans.length := by omega
      repeat' (first | ((with_reducible refine eq_go ?_); simp only [stp, ev, ZB, reduceIte, Nat.reduceEqDiff, Z2x, Z13, Zy, binV_bool_neq, binV_bool_eql, Ty.un4, ldv, stv, vcs, fldA, idxA, blt, lenV, Z10, ZH, Zg, Ze, Z14, Zw, Z33, Nat.reduceAdd, Nat.reduceMul, Nat.reduceLeDiff, splice, newB, Ty.t3, Ty.t4, Ty.t68, Ty.t70, Ty.t86, Ty.t95, Ty.t114, *]; rfl) | (with_reducible first | refine aw_then ?_ | refine aw_skip ?_ | refine aw_ret ?_ | refine aw_exit ?_ | refine aw_block ?_ | refine xr_reg (by decide +kernel) ?_ | refine xr_nil ?_ | refine k_norm ?_ | refine k_ret ?_ | refine k_exit ?_ | refine b_norm ?_ | refine b_ret ?_ | refine b_exit ?_ | refine b_past (by decide) ?_) | (refine xr_do (v := ?_) (h' := ?_) (by exact rfl) ?_ ?_; rotate_left 2) | (refine xr_st (v := ?_) (h' := ?_) (by exact rfl) ?_ ?_; rotate_left 2) | (refine xr_g (b := ?_) (by exact rfl) ?_ ?_; rotate_left 1; (· simp only [ev, Zb, reduceIte, Nat.reduceEqDiff, Z8, Z5, *]; rfl)) | (with_reducible first | refine gw_tt ?_ | refine gw_ff ?_ | refine gw_tf ?_ | refine gw_ft ?_ | refine gw_un ?_) | refine gw_if (fun hb => ?_) (fun hb => ?_) | (refine aw_c (b := ?_) (by decide) ?_ ?_; rotate_left 1; (· simp only [ev, Zb, reduceIte, Nat.reduceEqDiff, *]; rfl)) | (with_reducible first | refine cw_t ?_ | refine cw_f ?_) | refine cw_if (fun hb => ?_) (fun hb => ?_) | (refine r_ret (vs := ?_) ?_ ?_; rotate_left 1; (· simp only [resV, ev, Zb, reduceIte, Nat.reduceEqDiff, Zj, *]; rfl)))
      rcases Bool.eq_false_or_eq_true (sweepK true n.trans ⟨ps, ts, false⟩ n.trans.length).ch with hch | hch
      · refine ⟨f + 1, by omega, sweepK true n.trans ⟨ps, ts, false⟩ n.trans.length, f, _, rfl, ?_, by simp only [Zb, reduceIte, Nat.reduceEqDiff, hR, h2, h6, h7], by simp only [Zb, reduceIte, Nat.reduceEqDiff, hR, h2, h6, h7], by simp only [Zb, reduceIte, Nat.reduceEqDiff, hR, h2, h6, h7], hsl.1.trans hps, hsl.2.trans hts, fun _ => ⟨?_, ?_, by omega⟩, fun q => by rw [hch] at q; cases q⟩
        · simp only [Zb, reduceIte, Nat.reduceEqDiff, h8]
        · rw [reachF, if_pos hch] at hf1; exact hf1
        · have := sweep_cnt true n.trans ⟨ps, ts, false⟩ rfl n.trans.length (by simp only [hts]; omega)
          rw [if_pos hch] at this
          simp only at this; omega
      · refine ⟨0, by omega, sweepK true n.trans ⟨ps, ts, false⟩ n.trans.length, 0, _, rfl, ?_, by simp only [Zb, reduceIte, Nat.reduceEqDiff, hR, h2, h6, h7], by simp only [Zb, reduceIte, Nat.reduceEqDiff, hR, h2, h6, h7], by simp only [Zb, reduceIte, Nat.reduceEqDiff, hR, h2, h6, h7], hsl.1.trans hps, hsl.2.trans hts, fun q => (by rw [hch] at q; cases q), fun _ => ?_⟩
        · simp only [Zb, reduceIte, Nat.reduceEqDiff, h8]
        · rw [reachF, if_neg (by rw [hch]; simp)] at hf1; exact hf1
end Go.Proofs.Ytmjhfklmlcnofaa.Am
namespace Go.Proofs.Ytmjhfklmlcnofaa.Am
open Go Go.Proofs
set_option linter.unusedVariables false
set_option linter.unusedSimpArgs false
set_option maxRecDepth 100000
set_option maxHeartbeats 8000000
theorem ints_len (l : List Int) : ∀ r ∈ ints l, r.length = 1 := by
  intro r hr; obtain ⟨n, _, rfl⟩ := List.mem_map.1 hr; rfl
theorem ints_flen (l : List Int) : (ints l).flatten.length = l.length * 1 := by rw [length_flatten_rows _ (ints_len l), ints_length]
theorem ints_af (l : List Int) : ∀ x ∈ (ints l).flatten, af1 x = true := by
  intro x hx
  obtain ⟨r, hr, hx⟩ := List.mem_flatten.1 hx
  obtain ⟨n, _, rfl⟩ := List.mem_map.1 hr
  simp only [List.mem_cons, Z38, or_false] at hx
  subst hx; rfl
def listV (n : Nat) (l : List Int) : Value := if l = [] then .slice none 0 0 else .slice (some ⟨n, 0, some 0⟩) l.length l.length
def listL (l : List Int) : Heap := if l = [] then [] else [⟨2, 1, (ints l).flatten⟩]
theorem list_canon1 {h L : Heap} {v : Value} {l : List Int} (ha : App h.length L v 1 (ints l).flatten l.length) :
    ∃ (L' : Heap) (ks : List Nat), h ++ L = h ++ L' ∧ Inj ks ∧ ks.length = (listL l).length ∧ BsOk (listL l) L' ks ∧ RV h.length L' ks (listV h.length l) v := by
  rcases ha with ⟨rfl, h1, h2⟩ | ⟨h1, h2, k, rfl, h4⟩
  · obtain rfl := List.length_eq_zero_iff.1 h1
    exact ⟨L, [], rfl, Inj.nil, rfl, BsOk.nil _ _, .plain _ rfl⟩
  · have hne : l ≠ [] := fun q => h1 (by rw [q]; rfl)
    simp only [listL, listV, if_neg hne]
    exact ⟨L, [k], rfl, Inj.one k, rfl, BsOk.cons rfl (ints_af l) h4 (BsOk.nil _ _), .sl 0 k _ _ 1 _ _ rfl h4 h2 (Z4 _) (.inr rfl)⟩
theorem listV_form (n : Nat) (l : List Int) : ∃ b, listV n l = .slice b l.length l.length := by
  unfold listV
  split
  · rename_i h; subst h; exact ⟨_, rfl⟩
  · exact ⟨_, rfl⟩
theorem listV_sl (h : Heap) (l : List Int) (X : Heap) : Sl (h ++ (listL l ++ X)) (listV h.length l) 1 (ints l) := by
  unfold listV listL
  split
  · rename_i q; subst q; exact Sl.nil _ _
  · have := sl_at (h := h) (e := 1) (n := l.length) (k := 0) (c := l.length) (sp := some 0) (rows := ints l) (L := [⟨2, 1, (ints l).flatten⟩] ++ X) rfl (ints_len l) (ints_length l).symm (Z4 _)
    exact this
def blR (l : List Bool) : List (List Value) := l.map fun b => [.bool b]
theorem blR_flat (l : List Bool) : (blR l).flatten = bools l := by
  induction l with
  | nil => rfl
  | cons b l ih => simp only [blR, Z16, List.flatten_cons] at *; rw [ih]; rfl
theorem blR_len (l : List Bool) : ∀ r ∈ blR l, r.length = 1 := by intro r hr; obtain ⟨b, _, rfl⟩ := List.mem_map.1 hr; rfl
theorem bl_get {h : Heap} {b : Option Addr} {l : List Bool} (hrow : ∀ i r, (blR l)[i]? = some r → ∃ a, b = some a ∧ loadCs h a.block (a.off + i * 1) 1 = some r) (k : Nat) (hk : k < l.length) :
    ∃ a, b = some a ∧ getC h a.block (a.off + k * 1) = some (.bool (l.getD k false)) := by
  obtain ⟨a, rfl, hl⟩ := Sl.row hrow (k := k) (by simpa [blR] using hk)
  refine ⟨a, rfl, ?_⟩
  simp only [blR, List.getElem_map] at hl
  rw [List.getD_eq_getElem?_getD, List.getElem?_eq_getElem hk]
  exact getC_of_load hl
theorem sl_bools {h : Heap} {k n : Nat} {sp : Option Nat} {l : List Bool} {L : Heap} (hb : L[k]? = some ⟨2, 1, bools l⟩) (hn : n = l.length) : Sl (h ++ L) (.slice (some ⟨h.length + k, 0, sp⟩) n n) 1 (blR l) :=
  sl_at (by rw [blR_flat]; exact hb) (blR_len l) (by rw [hn]; exact (Zv _).symm) (Z4 _)
theorem sl_bools0 {h : Heap} {n : Nat} {sp : Option Nat} {l : List Bool} {L : Heap} (hb : L[0]? = some ⟨2, 1, bools l⟩) (hn : n = l.length) : Sl (h ++ L) (.slice (some ⟨h.length, 0, sp⟩) n n) 1 (blR l) := sl_bools (k := 0) hb hn
/-- The places at which both lists are true. -/
def bothK (a b : List Bool) (k : Nat) : List Int := ((List.range k).filter fun i => a.getD i false && b.getD i false).map Int.ofNat
def bothL (a b : List Bool) : List Int := bothK a b a.length
theorem bothK_succ (a b : List Bool) (k : Nat) : bothK a b (k + 1) = bothK a b k ++ (if (a.getD k false && b.getD k false) = true then [(k : Int)] else []) := by
  unfold bothK
  rw [List.range_succ, List.filter_append, List.map_append]
  congr 1
  simp only [List.filter_cons, List.filter_nil]
  split <;> rfl
theorem bothK_len (a b : List Bool) (k : Nat) : (bothK a b k).length ≤ k := by
  unfold bothK; rw [Zv]; exact Nat.le_trans (List.length_filter_le _ _) (by simp)
theorem bothOf_ok (a b : List Bool) (v1 v2 : Value) (h : Heap) (hs1 : Sl h v1 1 (blR a)) (hs2 : Sl h v2 1 (blR b)) (hab : a.length = b.length) (hl : a.length ≤ 1048576) :
    ACalls Try.prog 0 98 #[v1, v2] h fun v h' => v = listV h.length (bothL a b) ∧ h' = h ++ listL (bothL a b) := by
  refine acalls_canon _ _ ?_
  have hf1 := hs1.flat
  have hf2 := hs2.flat
  obtain ⟨b1, c1, rfl, hc1, hrow1⟩ := hs1
  obtain ⟨b2, c2, rfl, hc2, hrow2⟩ := hs2
  rw [show (blR a).length = a.length from Zv _] at *
  rw [show (blR b).length = b.length from Zv _] at *
  refine Z36 Try.func98 rfl Try.ntmps98 (by simp) (by dsimp only [Try.f98]) ?_
  repeat' (first | ((with_reducible refine eq_go ?_); simp only [stp, ev, ZB, reduceIte, Nat.reduceEqDiff, Z2x, Z13, Zy, binV_bool_neq, binV_bool_eql, Ty.un4, ldv, idxA, blt, lenV, Z10, ZH, Zg, Ze, Z14, Zw, Z33, Nat.reduceAdd, Nat.reduceMul, Nat.reduceLeDiff, splice, newB, vcs, Ty.t3, Ty.t4, Ty.t86, Ty.t114, *]; rfl) | (with_reducible first | refine aw_then ?_ | refine aw_skip ?_ | refine aw_ret ?_ | refine aw_exit ?_ | refine aw_block ?_ | refine xr_reg (by decide +kernel) ?_ | refine xr_nil ?_ | refine k_norm ?_ | refine k_ret ?_ | refine k_exit ?_ | refine b_norm ?_ | refine b_ret ?_ | refine b_exit ?_ | refine b_past (by decide) ?_) | (refine xr_do (v := ?_) (h' := ?_) (by exact rfl) ?_ ?_; rotate_left 2) | (refine xr_st (v := ?_) (h' := ?_) (by exact rfl) ?_ ?_; rotate_left 2) | (refine xr_g (b := ?_) (by exact rfl) ?_ ?_; rotate_left 1; (· simp only [ev, Zb, reduceIte, Nat.reduceEqDiff, Z8, Z5, *]; rfl)) | (with_reducible first | refine gw_tt ?_ | refine gw_ff ?_ | refine gw_tf ?_ | refine gw_ft ?_ | refine gw_un ?_) | refine gw_if (fun hb => ?_) (fun hb => ?_) | (refine aw_c (b := ?_) (by decide) ?_ ?_; rotate_left 1; (· simp only [ev, Zb, reduceIte, Nat.reduceEqDiff, *]; rfl)) | (with_reducible first | refine cw_t ?_ | refine cw_f ?_) | refine cw_if (fun hb => ?_) (fun hb => ?_) | (refine r_ret (vs := ?_) ?_ ?_; rotate_left 1; (· simp only [resV, ev, Zb, reduceIte, Nat.reduceEqDiff, Zj, *]; rfl)))
  refine aw_for [1, 8, 9] (fun k T h' => ∃ L, h' = h ++ L ∧ T 10 = .int .i64 k ∧ App h.length L (T 5) 1 (ints (bothK a b k)).flatten (bothK a b k).length) a.length (k0 := 0) (Nat.zero_le _) ⟨[], by rw [Zx], rfl, App.nil _ _ _⟩ ?_
  rintro k T h' hk hR ⟨L, rfl, hix, hap⟩
  simp only [Z37, Z38, Z39, implies_true, and_true, stp, ev, ZB, reduceIte, Nat.reduceEqDiff, Z2x, Z13, Zy] at hR
  have hsn := bothK_succ a b k
  have hkl := bothK_len a b k
  rcases Nat.lt_or_ge k a.length with hkn | hkn
  · have h1 : (k : Int) < a.length := by omega
    have h1b : (k : Int) < b.length := by omega
    obtain ⟨ad, rfl, hg0⟩ := bl_get hrow1 k hkn
    obtain ⟨bd, rfl, hg1⟩ := bl_get hrow2 k (by omega)
    have hg0 := getC_old hg0
    have hg1 := getC_old hg1
    clear hrow1 hrow2
    generalize a.getD k false = x at *
    generalize b.getD k false = y at *
    cases x
    · simp only [Bool.false_and, Bool.false_eq_true, if_false, Zx] at hsn
      repeat' (first | ((with_reducible refine eq_go ?_); simp only [stp, ev, ZB, reduceIte, Nat.reduceEqDiff, Z2x, Z13, Zy, binV_bool_neq, binV_bool_eql, Ty.un4, ldv, idxA, blt, lenV, Z10, ZH, Zg, Ze, Z14, Zw, Z33, Nat.reduceAdd, Nat.reduceMul, Nat.reduceLeDiff, splice, newB, vcs, Ty.t3, Ty.t4, Ty.t86, Ty.t114, *]; rfl) | (with_reducible first | refine aw_then ?_ | refine aw_skip ?_ | refine aw_ret ?_ | refine aw_exit ?_ | refine aw_block ?_ | refine xr_reg (by decide +kernel) ?_ | refine xr_nil ?_ | refine k_norm ?_ | refine k_ret ?_ | refine k_exit ?_ | refine b_norm ?_ | refine b_ret ?_ | refine b_exit ?_ | refine b_past (by decide) ?_) | (refine xr_do (v := ?_) (h' := ?_) (by exact rfl) ?_ ?_; rotate_left 2) | (refine xr_st (v := ?_) (h' := ?_) (by exact rfl) ?_ ?_; rotate_left 2) | (refine xr_g (b := ?_) (by exact rfl) ?_ ?_; rotate_left 1; (· simp only [ev, Zb, reduceIte, Nat.reduceEqDiff, Z8, Z5, *]; rfl)) | (with_reducible first | refine gw_tt ?_ | refine gw_ff ?_ | refine gw_tf ?_ | refine gw_ft ?_ | refine gw_un ?_) | refine gw_if (fun hb => ?_) (fun hb => ?_) | (refine aw_c (b := ?_) (by decide) ?_ ?_; rotate_left 1; (· simp only [ev, Zb, reduceIte, Nat.reduceEqDiff, *]; rfl)) | (with_reducible first | refine cw_t ?_ | refine cw_f ?_) | refine cw_if (fun hb => ?_) (fun hb => ?_) | (refine r_ret (vs := ?_) ?_ ?_; rotate_left 1; (· simp only [resV, ev, Zb, reduceIte, Nat.reduceEqDiff, Zj, *]; rfl)))
      refine ⟨by first | assumption | omega, ?_, ?_⟩
      · simp only [Z37, Z38, Z39, implies_true, and_true, ZB, stp, ev, reduceIte, Nat.reduceEqDiff, Z2x, Z13, Zy, *]
      refine ⟨_, rfl, ?_, ?_⟩
      · simp only [Zb, reduceIte, Nat.reduceEqDiff]
        rw [wrap_id (by omega)]; rfl
      · simp only [Zb, reduceIte, Nat.reduceEqDiff]
        rw [hsn]; exact hap
    · cases y
      · simp only [Bool.and_false, Bool.false_eq_true, if_false, Zx] at hsn
        repeat' (first | ((with_reducible refine eq_go ?_); simp only [stp, ev, ZB, reduceIte, Nat.reduceEqDiff, Z2x, Z13, Zy, binV_bool_neq, binV_bool_eql, Ty.un4, ldv, idxA, blt, lenV, Z10, ZH, Zg, Ze, Z14, Zw, Z33, Nat.reduceAdd, Nat.reduceMul, Nat.reduceLeDiff, splice, newB, vcs, Ty.t3, Ty.t4, Ty.t86, Ty.t114, *]; rfl) | (with_reducible first | refine aw_then ?_ | refine aw_skip ?_ | refine aw_ret ?_ | refine aw_exit ?_ | refine aw_block ?_ | refine xr_reg (by decide +kernel) ?_ | refine xr_nil ?_ | refine k_norm ?_ | refine k_ret ?_ | refine k_exit ?_ | refine b_norm ?_ | refine b_ret ?_ | refine b_exit ?_ | refine b_past (by decide) ?_) | (refine xr_do (v := ?_) (h' := ?_) (by exact rfl) ?_ ?_; rotate_left 2) | (refine xr_st (v := ?_) (h' := ?_) (by exact rfl) ?_ ?_; rotate_left 2) | (refine xr_g (b := ?_) (by exact rfl) ?_ ?_; rotate_left 1; (· simp only [ev, Zb, reduceIte, Nat.reduceEqDiff, Z8, Z5, *]; rfl)) | (with_reducible first | refine gw_tt ?_ | refine gw_ff ?_ | refine gw_tf ?_ | refine gw_ft ?_ | refine gw_un ?_) | refine gw_if (fun hb => ?_) (fun hb => ?_) | (refine aw_c (b := ?_) (by decide) ?_ ?_; rotate_left 1; (· simp only [ev, Zb, reduceIte, Nat.reduceEqDiff, *]; rfl)) | (with_reducible first | refine cw_t ?_ | refine cw_f ?_) | refine cw_if (fun hb => ?_) (fun hb => ?_) | (refine r_ret (vs := ?_) ?_ ?_; rotate_left 1; (· simp only [resV, ev, Zb, reduceIte, Nat.reduceEqDiff, Zj, *]; rfl)))
        refine ⟨by first | assumption | omega, ?_, ?_⟩
        · simp only [Z37, Z38, Z39, implies_true, and_true, ZB, stp, ev, reduceIte, Nat.reduceEqDiff, Z2x, Z13, Zy, *]
        refine ⟨_, rfl, ?_, ?_⟩
        · simp only [Zb, reduceIte, Nat.reduceEqDiff]
          rw [wrap_id (by omega)]; rfl
        · simp only [Zb, reduceIte, Nat.reduceEqDiff]
          rw [hsn]; exact hap
      · simp only [Z1e, Z2x] at hsn
        have hbs := bsl_one (h := h ++ L) (x := .int .i64 k) Ty.sl86 Ty.zc3 rfl rfl
        obtain ⟨v', L', hap', happ⟩ := app_step (h2 := h) (L := L) (E := [⟨2, 1, [.int .i64 k]⟩]) (j := 0) (ix := h.length + L.length) Ty.sl86 Ty.zc3 Ty.by3 hap rfl rfl (by simp) (by omega) (by omega)
        simp only [Z7, Zc, Zd, Z6, Z3, Z2, Zf, Zh, Nat.reduceAdd] at hbs hap' happ
        repeat' (first | ((with_reducible refine eq_go ?_); simp only [stp, ev, ZB, reduceIte, Nat.reduceEqDiff, Z2x, Z13, Zy, binV_bool_neq, binV_bool_eql, Ty.un4, ldv, idxA, blt, lenV, Z10, ZH, Zg, Ze, Z14, Zw, Z33, Nat.reduceAdd, Nat.reduceMul, Nat.reduceLeDiff, splice, newB, vcs, Ty.t3, Ty.t4, Ty.t86, Ty.t114, *]; rfl) | (with_reducible first | refine aw_then ?_ | refine aw_skip ?_ | refine aw_ret ?_ | refine aw_exit ?_ | refine aw_block ?_ | refine xr_reg (by decide +kernel) ?_ | refine xr_nil ?_ | refine k_norm ?_ | refine k_ret ?_ | refine k_exit ?_ | refine b_norm ?_ | refine b_ret ?_ | refine b_exit ?_ | refine b_past (by decide) ?_) | (refine xr_do (v := ?_) (h' := ?_) (by exact rfl) ?_ ?_; rotate_left 2) | (refine xr_st (v := ?_) (h' := ?_) (by exact rfl) ?_ ?_; rotate_left 2) | (refine xr_g (b := ?_) (by exact rfl) ?_ ?_; rotate_left 1; (· simp only [ev, Zb, reduceIte, Nat.reduceEqDiff, Z8, Z5, *]; rfl)) | (with_reducible first | refine gw_tt ?_ | refine gw_ff ?_ | refine gw_tf ?_ | refine gw_ft ?_ | refine gw_un ?_) | refine gw_if (fun hb => ?_) (fun hb => ?_) | (refine aw_c (b := ?_) (by decide) ?_ ?_; rotate_left 1; (· simp only [ev, Zb, reduceIte, Nat.reduceEqDiff, *]; rfl)) | (with_reducible first | refine cw_t ?_ | refine cw_f ?_) | refine cw_if (fun hb => ?_) (fun hb => ?_) | (refine r_ret (vs := ?_) ?_ ?_; rotate_left 1; (· simp only [resV, ev, Zb, reduceIte, Nat.reduceEqDiff, Zj, *]; rfl)))
        refine ⟨by first | assumption | omega, ?_, ?_⟩
        · simp only [Z37, Z38, Z39, implies_true, and_true, ZB, stp, ev, reduceIte, Nat.reduceEqDiff, Z2x, Z13, Zy, *]
        refine ⟨_, rfl, ?_, ?_⟩
        · simp only [Zb, reduceIte, Nat.reduceEqDiff]
          rw [wrap_id (by omega)]; rfl
        · simp only [Zb, reduceIte, Nat.reduceEqDiff]
          rw [hsn]
          refine happ.cast rfl rfl rfl ?_ ?_
          · simp [ints]
          · simp
  · have h1 : ¬ (k : Int) < a.length := by omega
    have h1b : ¬ (k : Int) < b.length := by omega
    clear hrow1 hrow2
    repeat' (first | ((with_reducible refine eq_go ?_); simp only [stp, ev, ZB, reduceIte, Nat.reduceEqDiff, Z2x, Z13, Zy, binV_bool_neq, binV_bool_eql, Ty.un4, ldv, idxA, blt, lenV, Z10, ZH, Zg, Ze, Z14, Zw, Z33, Nat.reduceAdd, Nat.reduceMul, Nat.reduceLeDiff, splice, newB, vcs, Ty.t3, Ty.t4, Ty.t86, Ty.t114, *]; rfl) | (with_reducible first | refine aw_then ?_ | refine aw_skip ?_ | refine aw_ret ?_ | refine aw_exit ?_ | refine aw_block ?_ | refine xr_reg (by decide +kernel) ?_ | refine xr_nil ?_ | refine k_norm ?_ | refine k_ret ?_ | refine k_exit ?_ | refine b_norm ?_ | refine b_ret ?_ | refine b_exit ?_ | refine b_past (by decide) ?_) | (refine xr_do (v := ?_) (h' := ?_) (by exact rfl) ?_ ?_; rotate_left 2) | (refine xr_st (v := ?_) (h' := ?_) (by exact rfl) ?_ ?_; rotate_left 2) | (refine xr_g (b := ?_) (by exact rfl) ?_ ?_; rotate_left 1; (· simp only [ev, Zb, reduceIte, Nat.reduceEqDiff, Z8, Z5, *]; rfl)) | (with_reducible first | refine gw_tt ?_ | refine gw_ff ?_ | refine gw_tf ?_ | refine gw_ft ?_ | refine gw_un ?_) | refine gw_if (fun hb => ?_) (fun hb => ?_) | (refine aw_c (b := ?_) (by decide) ?_ ?_; rotate_left 1; (· simp only [ev, Zb, reduceIte, Nat.reduceEqDiff, *]; rfl)) | (with_reducible first | refine cw_t ?_ | refine cw_f ?_) | refine cw_if (fun hb => ?_) (fun hb => ?_) | (refine r_ret (vs := ?_) ?_ ?_; rotate_left 1; (· simp only [resV, ev, Zb, reduceIte, Nat.reduceEqDiff, Zj, *]; rfl)))
    obtain rfl : k = a.length := by omega
    exact list_canon1 hap
theorem l3Both_ok (a b : List Bool) (v1 v2 : Value) (h : Heap) (hs1 : Sl h v1 1 (blR a)) (hs2 : Sl h v2 1 (blR b)) (hab : a.length = b.length) (hl : a.length ≤ 1048576) :
    ACalls Try.prog 0 81 #[v1, v2] h fun v h' => v = listV h.length (bothL a b) ∧ h' = h ++ listL (bothL a b) := by
  refine acalls_canon _ _ ?_
  have hf1 := hs1.flat
  have hf2 := hs2.flat
  obtain ⟨b1, c1, rfl, hc1, hrow1⟩ := hs1
  obtain ⟨b2, c2, rfl, hc2, hrow2⟩ := hs2
  rw [show (blR a).length = a.length from Zv _] at *
  rw [show (blR b).length = b.length from Zv _] at *
  refine Z36 Try.func81 rfl Try.ntmps81 (by simp) (by dsimp only [Try.f81]) ?_
  repeat' (first | ((with_reducible refine eq_go ?_); simp only [stp, ev, ZB, reduceIte, Nat.reduceEqDiff, Z2x, Z13, Zy, binV_bool_neq, binV_bool_eql, Ty.un4, ldv, idxA, blt, lenV, Z10, ZH, Zg, Ze, Z14, Zw, Z33, Nat.reduceAdd, Nat.reduceMul, Nat.reduceLeDiff, splice, newB, vcs, Ty.t3, Ty.t4, Ty.t86, Ty.t114, *]; rfl) | (with_reducible first | refine aw_then ?_ | refine aw_skip ?_ | refine aw_ret ?_ | refine aw_exit ?_ | refine aw_block ?_ | refine xr_reg (by decide +kernel) ?_ | refine xr_nil ?_ | refine k_norm ?_ | refine k_ret ?_ | refine k_exit ?_ | refine b_norm ?_ | refine b_ret ?_ | refine b_exit ?_ | refine b_past (by decide) ?_) | (refine xr_do (v := ?_) (h' := ?_) (by exact rfl) ?_ ?_; rotate_left 2) | (refine xr_st (v := ?_) (h' := ?_) (by exact rfl) ?_ ?_; rotate_left 2) | (refine xr_g (b := ?_) (by exact rfl) ?_ ?_; rotate_left 1; (· simp only [ev, Zb, reduceIte, Nat.reduceEqDiff, Z8, Z5, *]; rfl)) | (with_reducible first | refine gw_tt ?_ | refine gw_ff ?_ | refine gw_tf ?_ | refine gw_ft ?_ | refine gw_un ?_) | refine gw_if (fun hb => ?_) (fun hb => ?_) | (refine aw_c (b := ?_) (by decide) ?_ ?_; rotate_left 1; (· simp only [ev, Zb, reduceIte, Nat.reduceEqDiff, *]; rfl)) | (with_reducible first | refine cw_t ?_ | refine cw_f ?_) | refine cw_if (fun hb => ?_) (fun hb => ?_) | (refine r_ret (vs := ?_) ?_ ?_; rotate_left 1; (· simp only [resV, ev, Zb, reduceIte, Nat.reduceEqDiff, Zj, *]; rfl)))
  refine aw_for [0, 1, 8] (fun k T h' => ∃ L, h' = h ++ L ∧ T 9 = .int .i64 k ∧ App h.length L (T 5) 1 (ints (bothK a b k)).flatten (bothK a b k).length) a.length (k0 := 0) (Nat.zero_le _) ⟨[], by rw [Zx], rfl, App.nil _ _ _⟩ ?_
  rintro k T h' hk hR ⟨L, rfl, hix, hap⟩
  simp only [Z37, Z38, Z39, implies_true, and_true, stp, ev, ZB, reduceIte, Nat.reduceEqDiff, Z2x, Z13, Zy] at hR
  have hsn := bothK_succ a b k
  have hkl := bothK_len a b k
  rcases Nat.lt_or_ge k a.length with hkn | hkn
  · have h1 : (k : Int) < a.length := by omega
    have h1b : (k : Int) < b.length := by omega
    obtain ⟨ad, rfl, hg0⟩ := bl_get hrow1 k hkn
    obtain ⟨bd, rfl, hg1⟩ := bl_get hrow2 k (by omega)
    have hg0 := getC_old hg0
    have hg1 := getC_old hg1
    clear hrow1 hrow2
    generalize a.getD k false = x at *
    generalize b.getD k false = y at *
    cases x
    · simp only [Bool.false_and, Bool.false_eq_true, if_false, Zx] at hsn
      repeat' (first | ((with_reducible refine eq_go ?_); simp only [stp, ev, ZB, reduceIte, Nat.reduceEqDiff, Z2x, Z13, Zy, binV_bool_neq, binV_bool_eql, Ty.un4, ldv, idxA, blt, lenV, Z10, ZH, Zg, Ze, Z14, Zw, Z33, Nat.reduceAdd, Nat.reduceMul, Nat.reduceLeDiff, splice, newB, vcs, Ty.t3, Ty.t4, Ty.t86, Ty.t114, *]; rfl) | (with_reducible first | refine aw_then ?_ | refine aw_skip ?_ | refine aw_ret ?_ | refine aw_exit ?_ | refine aw_block ?_ | refine xr_reg (by decide +kernel) ?_ | refine xr_nil ?_ | refine k_norm ?_ | refine k_ret ?_ | refine k_exit ?_ | refine b_norm ?_ | refine b_ret ?_ | refine b_exit ?_ | refine b_past (by decide) ?_) | (refine xr_do (v := ?_) (h' := ?_) (by exact rfl) ?_ ?_; rotate_left 2) | (refine xr_st (v := ?_) (h' := ?_) (by exact rfl) ?_ ?_; rotate_left 2) | (refine xr_g (b := ?_) (by exact rfl) ?_ ?_; rotate_left 1; (· simp only [ev, Zb, reduceIte, Nat.reduceEqDiff, Z8, Z5, *]; rfl)) | (with_reducible first | refine gw_tt ?_ | refine gw_ff ?_ | refine gw_tf ?_ | refine gw_ft ?_ | refine gw_un ?_) | refine gw_if (fun hb => ?_) (fun hb => ?_) | (refine aw_c (b := ?_) (by decide) ?_ ?_; rotate_left 1; (· simp only [ev, Zb, reduceIte, Nat.reduceEqDiff, *]; rfl)) | (with_reducible first | refine cw_t ?_ | refine cw_f ?_) | refine cw_if (fun hb => ?_) (fun hb => ?_) | (refine r_ret (vs := ?_) ?_ ?_; rotate_left 1; (· simp only [resV, ev, Zb, reduceIte, Nat.reduceEqDiff, Zj, *]; rfl)))
      refine ⟨by first | assumption | omega, ?_, ?_⟩
      · simp only [Z37, Z38, Z39, implies_true, and_true, ZB, stp, ev, reduceIte, Nat.reduceEqDiff, Z2x, Z13, Zy, *]
      refine ⟨_, rfl, ?_, ?_⟩
      · simp only [Zb, reduceIte, Nat.reduceEqDiff]
        rw [wrap_id (by omega)]; rfl
      · simp only [Zb, reduceIte, Nat.reduceEqDiff]
        rw [hsn]; exact hap
    · cases y
      · simp only [Bool.and_false, Bool.false_eq_true, if_false, Zx] at hsn
        repeat' (first | ((with_reducible refine eq_go ?_); simp only [stp, ev, ZB, reduceIte, Nat.reduceEqDiff, Z2x, Z13, Zy, binV_bool_neq, binV_bool_eql, Ty.un4, ldv, idxA, blt, lenV, Z10, ZH, Zg, Ze, Z14, Zw, Z33, Nat.reduceAdd, Nat.reduceMul, Nat.reduceLeDiff, splice, newB, vcs, Ty.t3, Ty.t4, Ty.t86, Ty.t114, *]; rfl) | (with_reducible first | refine aw_then ?_ | refine aw_skip ?_ | refine aw_ret ?_ | refine aw_exit ?_ | refine aw_block ?_ | refine xr_reg (by decide +kernel) ?_ | refine xr_nil ?_ | refine k_norm ?_ | refine k_ret ?_ | refine k_exit ?_ | refine b_norm ?_ | refine b_ret ?_ | refine b_exit ?_ | refine b_past (by decide) ?_) | (refine xr_do (v := ?_) (h' := ?_) (by exact rfl) ?_ ?_; rotate_left 2) | (refine xr_st (v := ?_) (h' := ?_) (by exact rfl) ?_ ?_; rotate_left 2) | (refine xr_g (b := ?_) (by exact rfl) ?_ ?_; rotate_left 1; (· simp only [ev, Zb, reduceIte, Nat.reduceEqDiff, Z8, Z5, *]; rfl)) | (with_reducible first | refine gw_tt ?_ | refine gw_ff ?_ | refine gw_tf ?_ | refine gw_ft ?_ | refine gw_un ?_) | refine gw_if (fun hb => ?_) (fun hb => ?_) | (refine aw_c (b := ?_) (by decide) ?_ ?_; rotate_left 1; (· simp only [ev, Zb, reduceIte, Nat.reduceEqDiff, *]; rfl)) | (with_reducible first | refine cw_t ?_ | refine cw_f ?_) | refine cw_if (fun hb => ?_) (fun hb => ?_) | (refine r_ret (vs := ?_) ?_ ?_; rotate_left 1; (· simp only [resV, ev, Zb, reduceIte, Nat.reduceEqDiff, Zj, *]; rfl)))
        refine ⟨by first | assumption | omega, ?_, ?_⟩
        · simp only [Z37, Z38, Z39, implies_true, and_true, ZB, stp, ev, reduceIte, Nat.reduceEqDiff, Z2x, Z13, Zy, *]
        refine ⟨_, rfl, ?_, ?_⟩
        · simp only [Zb, reduceIte, Nat.reduceEqDiff]
          rw [wrap_id (by omega)]; rfl
        · simp only [Zb, reduceIte, Nat.reduceEqDiff]
          rw [hsn]; exact hap
      · simp only [Z1e, Z2x] at hsn
        have hbs := bsl_one (h := h ++ L) (x := .int .i64 k) Ty.sl86 Ty.zc3 rfl rfl
        obtain ⟨v', L', hap', happ⟩ := app_step (h2 := h) (L := L) (E := [⟨2, 1, [.int .i64 k]⟩]) (j := 0) (ix := h.length + L.length) Ty.sl86 Ty.zc3 Ty.by3 hap rfl rfl (by simp) (by omega) (by omega)
        simp only [Z7, Zc, Zd, Z6, Z3, Z2, Zf, Zh, Nat.reduceAdd] at hbs hap' happ
        repeat' (first | ((with_reducible refine eq_go ?_); simp only [stp, ev, ZB, reduceIte, Nat.reduceEqDiff, Z2x, Z13, Zy, binV_bool_neq, binV_bool_eql, Ty.un4, ldv, idxA, blt, lenV, Z10, ZH, Zg, Ze, Z14, Zw, Z33, Nat.reduceAdd, Nat.reduceMul, Nat.reduceLeDiff, splice, newB, vcs, Ty.t3, Ty.t4, Ty.t86, Ty.t114, *]; rfl) | (with_reducible first | refine aw_then ?_ | refine aw_skip ?_ | refine aw_ret ?_ | refine aw_exit ?_ | refine aw_block ?_ | refine xr_reg (by decide +kernel) ?_ | refine xr_nil ?_ | refine k_norm ?_ | refine k_ret ?_ | refine k_exit ?_ | refine b_norm ?_ | refine b_ret ?_ | refine b_exit ?_ | refine b_past (by decide) ?_) | (refine xr_do (v := ?_) (h' := ?_) (by exact rfl) ?_ ?_; rotate_left 2) | (refine xr_st (v := ?_) (h' := ?_) (by exact rfl) ?_ ?_; rotate_left 2) | (refine xr_g (b := ?_) (by exact rfl) ?_ ?_; rotate_left 1; (· simp only [ev, Zb, reduceIte, Nat.reduceEqDiff, Z8, Z5, *]; rfl)) | (with_reducible first | refine gw_tt ?_ | refine gw_ff ?_ | refine gw_tf ?_ | refine gw_ft ?_ | refine gw_un ?_) | refine gw_if (fun hb => ?_) (fun hb => ?_) | (refine aw_c (b := ?_) (by decide) ?_ ?_; rotate_left 1; (· simp only [ev, Zb, reduceIte, Nat.reduceEqDiff, *]; rfl)) | (with_reducible first | refine cw_t ?_ | refine cw_f ?_) | refine cw_if (fun hb => ?_) (fun hb => ?_) | (refine r_ret (vs := ?_) ?_ ?_; rotate_left 1; (· simp only [resV, ev, Zb, reduceIte, Nat.reduceEqDiff, Zj, *]; rfl)))
        refine ⟨by first | assumption | omega, ?_, ?_⟩
        · simp only [Z37, Z38, Z39, implies_true, and_true, ZB, stp, ev, reduceIte, Nat.reduceEqDiff, Z2x, Z13, Zy, *]
        refine ⟨_, rfl, ?_, ?_⟩
        · simp only [Zb, reduceIte, Nat.reduceEqDiff]
          rw [wrap_id (by omega)]; rfl
        · simp only [Zb, reduceIte, Nat.reduceEqDiff]
          rw [hsn]
          refine happ.cast rfl rfl rfl ?_ ?_
          · simp [ints]
          · simp
  · have h1 : ¬ (k : Int) < a.length := by omega
    have h1b : ¬ (k : Int) < b.length := by omega
    clear hrow1 hrow2
    repeat' (first | ((with_reducible refine eq_go ?_); simp only [stp, ev, ZB, reduceIte, Nat.reduceEqDiff, Z2x, Z13, Zy, binV_bool_neq, binV_bool_eql, Ty.un4, ldv, idxA, blt, lenV, Z10, ZH, Zg, Ze, Z14, Zw, Z33, Nat.reduceAdd, Nat.reduceMul, Nat.reduceLeDiff, splice, newB, vcs, Ty.t3, Ty.t4, Ty.t86, Ty.t114, *]; rfl) | (with_reducible first | refine aw_then ?_ | refine aw_skip ?_ | refine aw_ret ?_ | refine aw_exit ?_ | refine aw_block ?_ | refine xr_reg (by decide +kernel) ?_ | refine xr_nil ?_ | refine k_norm ?_ | refine k_ret ?_ | refine k_exit ?_ | refine b_norm ?_ | refine b_ret ?_ | refine b_exit ?_ | refine b_past (by decide) ?_) | (refine xr_do (v := ?_) (h' := ?_) (by exact rfl) ?_ ?_; rotate_left 2) | (refine xr_st (v := ?_) (h' := ?_) (by exact rfl) ?_ ?_; rotate_left 2) | (refine xr_g (b := ?_) (by exact rfl) ?_ ?_; rotate_left 1; (· simp only [ev, Zb, reduceIte, Nat.reduceEqDiff, Z8, Z5, *]; rfl)) | (with_reducible first | refine gw_tt ?_ | refine gw_ff ?_ | refine gw_tf ?_ | refine gw_ft ?_ | refine gw_un ?_) | refine gw_if (fun hb => ?_) (fun hb => ?_) | (refine aw_c (b := ?_) (by decide) ?_ ?_; rotate_left 1; (· simp only [ev, Zb, reduceIte, Nat.reduceEqDiff, *]; rfl)) | (with_reducible first | refine cw_t ?_ | refine cw_f ?_) | refine cw_if (fun hb => ?_) (fun hb => ?_) | (refine r_ret (vs := ?_) ?_ ?_; rotate_left 1; (· simp only [resV, ev, Zb, reduceIte, Nat.reduceEqDiff, Zj, *]; rfl)))
    obtain rfl : k = a.length := by omega
    exact list_canon1 hap
theorem reach_len (b : Bool) (n : NetM) (z : Int) : (reach b n z).1.length = n.places.toNat ∧ (reach b n z).2.length = n.trans.length := by
  have := reachF_len b n.trans (n.trans.length + 1) ((List.replicate n.places.toNat false).set z.toNat true, List.replicate n.trans.length false)
  simp only [List.length_set, List.length_replicate] at this
  exact this
theorem netOk_places {n : NetM} (h : netOk n = true) : 1 ≤ n.places ∧ n.places ≤ 16 := by
  simp only [netOk, Bool.and_eq_true, decide_eq_true_eq] at h; exact h.1
def wayP (n : NetM) (x y : Int) : List Int := bothL (reach false n x).1 (reach true n y).1
def wayT (n : NetM) (x y : Int) : List Int := bothL (reach false n x).2 (reach true n y).2
theorem implOnWay_ok (n : NetM) (vt : Value) (I h : Heap) (x y : Int) (hI : Sub I h) (hs : RTrs I vt n.trans) (hsm : n.small) (hok : netOk n = true) (hx : 0 ≤ x ∧ x ≤ n.places - 1) (hy : 0 ≤ y ∧ y ≤ n.places - 1) :
    ACalls Try.prog 0 88 #[.agg #[.int .i64 n.places, vt], .int .i64 x, .int .i64 y] h
    fun v h' => ∃ (b1 b2 : Option Addr) (E : Heap), v = .tuple #[.slice b1 (wayP n x y).length (wayP n x y).length, .slice b2 (wayT n x y).length (wayT n x y).length] ∧ h' = h ++ E := by
  have hfl := hs.flat
  have hrl : ∀ (b : Bool) (z : Int), n.places.toNat = (reach b n z).1.length := fun b z => (reach_len b n z).1.symm
  have hrt : ∀ (b : Bool) (z : Int), n.trans.length = (reach b n z).2.length := fun b z => (reach_len b n z).2.symm
  have hpl := netOk_places hok
  have htl := hsm.1
  refine Z36 Try.func88 rfl Try.ntmps88 (by simp) (by dsimp only [Try.f88]) ?_
  repeat' (first | ((with_reducible refine eq_go ?_); simp only [stp, ev, ZB, reduceIte, Nat.reduceEqDiff, Z2x, Z13, Zy, Ze, ZH, ldv, blt, lenV, Z10, Zg, Z14, Zw, Z33, Nat.reduceAdd, Nat.reduceMul, Nat.reduceLeDiff, splice, newB, vcs, Ty.t3, Ty.t4, Ty.t68, Ty.t70, Ty.t86, Ty.t95, Ty.t114, *]; rfl) | (with_reducible first | refine aw_then ?_ | refine aw_skip ?_ | refine aw_ret ?_ | refine aw_exit ?_ | refine aw_block ?_ | refine xr_reg (by decide +kernel) ?_ | refine xr_nil ?_ | refine k_norm ?_ | refine k_ret ?_ | refine k_exit ?_ | refine b_norm ?_ | refine b_ret ?_ | refine b_exit ?_ | refine b_past (by decide) ?_) | (refine Ty.c97 (args := ?_) (K := ?_) ?_ ?_ ?_; rotate_left 2) | (refine Ty.c98 (args := ?_) (K := ?_) ?_ ?_ ?_; rotate_left 2) | (refine xr_do (v := ?_) (h' := ?_) (by exact rfl) ?_ ?_; rotate_left 2) | (refine xr_st (v := ?_) (h' := ?_) (by exact rfl) ?_ ?_; rotate_left 2) | (refine aw_c (b := ?_) (by decide) ?_ ?_; rotate_left 1; (· simp only [ev, Zb, reduceIte, Nat.reduceEqDiff, *]; rfl)) | (with_reducible first | refine cw_t ?_ | refine cw_f ?_) | refine cw_if (fun hb => ?_) (fun hb => ?_) | (refine r_ret (vs := ?_) ?_ ?_; rotate_left 1; (· simp only [resV, ev, Zb, reduceIte, Nat.reduceEqDiff, Zj, *]; rfl)) | ((with_reducible refine implReached_ok n _ I _ _ _ ?_ ?_ ?_ ?_ ?_); (· first | assumption | exact Sub.refl _ | exact Sub.app ‹_› _ | exact Sub.app (Sub.refl _) _); (· assumption); (· assumption); (· assumption); (· first | omega | (simp only [Z2]; omega))) | ((with_reducible refine bothOf_ok ?_ ?_ _ _ _ ?_ ?_ ?_ ?_); rotate_left 2; (· first | assumption | ((try simp only [Z7, Zc, Zd, Z6, Z3, Z2, Zf, Zh, Nat.reduceAdd]); first | (refine sl_bools ?_ ?_; (exact rfl); first | rfl | assumption | omega | exact hrl _ _ | exact hrt _ _) | (refine sl_bools0 ?_ ?_; (exact rfl); first | rfl | assumption | omega | exact hrl _ _ | exact hrt _ _))); (· first | assumption | ((try simp only [Z7, Zc, Zd, Z6, Z3, Z2, Zf, Zh, Nat.reduceAdd]); first | (refine sl_bools ?_ ?_; (exact rfl); first | rfl | assumption | omega | exact hrl _ _ | exact hrt _ _) | (refine sl_bools0 ?_ ?_; (exact rfl); first | rfl | assumption | omega | exact hrl _ _ | exact hrt _ _))); (· first | assumption | exact (hrl _ _).symm.trans (hrl _ _) | exact (hrt _ _).symm.trans (hrt _ _)); (· first | omega | (rw [← hrl]; omega) | (rw [← hrt]; omega))) | ((with_reducible refine Z2w ?_); rintro _ _ ⟨rfl, hh⟩; replace hh := hh.symm; subst hh))
  obtain ⟨b1, e1⟩ := listV_form (h.length + 5) (bothL (reach false n x).1 (reach true n y).1)
  obtain ⟨b2, e2⟩ := listV_form (h.length + (List.length (listL (bothL (reach false n x).1 (reach true n y).1)) + 5)) (bothL (reach false n x).2 (reach true n y).2)
  exact ⟨b1, b2, _, by simp only [oneOf, e1, e2, wayP, wayT], rfl⟩
def wayOk (n : NetM) (x y : Int) : Bool := netOk n && (decide (0 ≤ x ∧ x ≤ n.places - 1) && decide (0 ≤ y ∧ y ≤ n.places - 1))
theorem specOnWay_ok (n : NetM) (vt : Value) (I h : Heap) (x y : Int) (hI : Sub I h) (hs : RTrs I vt n.trans) (hsm : n.small) :
    ACalls Try.prog 0 62 #[.agg #[.int .i64 n.places, vt], .int .i64 x, .int .i64 y] h
    fun v h' => ∃ (b1 b2 : Option Addr) (l1 l2 : Nat) (E : Heap), v = .tuple #[.slice b1 l1 l1, .slice b2 l2 l2, .bool (wayOk n x y)] ∧ h' = h ++ E ∧ (wayOk n x y = true → l1 = (wayP n x y).length ∧ l2 = (wayT n x y).length) := by
  have hfl := hs.flat
  rcases Bool.eq_false_or_eq_true (netOk n) with hok | hok
  · have hrl : ∀ (b : Bool) (z : Int), n.places.toNat = (reach b n z).1.length := fun b z => (reach_len b n z).1.symm
    have hrt : ∀ (b : Bool) (z : Int), n.trans.length = (reach b n z).2.length := fun b z => (reach_len b n z).2.symm
    have hpl := netOk_places hok
    have htl := hsm.1
    have hw : IntKind.i64.wrap (n.places - 1) = n.places - 1 := wrap_id (by omega)
    rcases Bool.eq_false_or_eq_true (decide (0 ≤ x ∧ x ≤ n.places - 1)) with hx | hx
    · rcases Bool.eq_false_or_eq_true (decide (0 ≤ y ∧ y ≤ n.places - 1)) with hy | hy
      · have hwo : wayOk n x y = true := by simp only [wayOk, hok, hx, hy, Z1e]
        have hx' := of_decide_eq_true hx
        have hy' := of_decide_eq_true hy
        refine Z36 Try.func62 rfl Try.ntmps62 (by simp) (by dsimp only [Try.f62]) ?_
        repeat' (first | ((with_reducible refine eq_go ?_); simp only [stp, ev, ZB, reduceIte, Nat.reduceEqDiff, Z2x, Z13, Zy, Ze, ZH, ldv, fldA, blt, lenV, Z10, Zg, Z14, Zw, Z33, Nat.reduceAdd, Nat.reduceMul, Nat.reduceLeDiff, splice, newB, vcs, Ty.t3, Ty.t4, Ty.t68, Ty.t70, Ty.t86, Ty.t95, Ty.t114, *]; rfl) | (with_reducible first | refine aw_then ?_ | refine aw_skip ?_ | refine aw_ret ?_ | refine aw_exit ?_ | refine aw_block ?_ | refine xr_reg (by decide +kernel) ?_ | refine xr_nil ?_ | refine k_norm ?_ | refine k_ret ?_ | refine k_exit ?_ | refine b_norm ?_ | refine b_ret ?_ | refine b_exit ?_ | refine b_past (by decide) ?_) | (refine Ty.c40 (args := ?_) (K := ?_) ?_ ?_ ?_; rotate_left 2) | (refine Ty.c78 (args := ?_) (K := ?_) ?_ ?_ ?_; rotate_left 2) | (refine Ty.c79 (args := ?_) (K := ?_) ?_ ?_ ?_; rotate_left 2) | (refine Ty.c80 (args := ?_) (K := ?_) ?_ ?_ ?_; rotate_left 2) | (refine Ty.c81 (args := ?_) (K := ?_) ?_ ?_ ?_; rotate_left 2) | (refine xr_do (v := ?_) (h' := ?_) (by exact rfl) ?_ ?_; rotate_left 2) | (refine xr_st (v := ?_) (h' := ?_) (by exact rfl) ?_ ?_; rotate_left 2) | (refine xr_g (b := ?_) (by exact rfl) ?_ ?_; rotate_left 1; (· simp only [ev, Zb, reduceIte, Nat.reduceEqDiff, Z8, Z5, *]; rfl)) | (with_reducible first | refine gw_tt ?_ | refine gw_ff ?_ | refine gw_tf ?_ | refine gw_ft ?_ | refine gw_un ?_) | refine gw_if (fun hb => ?_) (fun hb => ?_) | (refine aw_c (b := ?_) (by decide) ?_ ?_; rotate_left 1; (· simp only [ev, Zb, reduceIte, Nat.reduceEqDiff, *]; rfl)) | (with_reducible first | refine cw_t ?_ | refine cw_f ?_) | refine cw_if (fun hb => ?_) (fun hb => ?_) | (refine r_ret (vs := ?_) ?_ ?_; rotate_left 1; (· simp only [resV, ev, Zb, reduceIte, Nat.reduceEqDiff, Zj, *]; rfl)) | (with_reducible exact l1In_ok _ _ _ _) | ((with_reducible refine specGoodNet_ok n _ I _ ?_ ?_ ?_); (· first | assumption | exact Sub.refl _ | exact Sub.app ‹_› _ | exact Sub.app (Sub.refl _) _); (· assumption); (· assumption)) | ((with_reducible refine l3Forward_ok n _ I _ _ ?_ ?_ ?_ ?_ ?_); (· first | assumption | exact Sub.refl _ | exact Sub.app ‹_› _ | exact Sub.app (Sub.refl _) _); (· assumption); (· assumption); (· assumption); (· first | omega | (simp only [Z2]; omega))) | ((with_reducible refine l3Back_ok n _ I _ _ ?_ ?_ ?_ ?_ ?_); (· first | assumption | exact Sub.refl _ | exact Sub.app ‹_› _ | exact Sub.app (Sub.refl _) _); (· assumption); (· assumption); (· assumption); (· first | omega | (simp only [Z2]; omega))) | ((with_reducible refine l3Both_ok ?_ ?_ _ _ _ ?_ ?_ ?_ ?_); rotate_left 2; (· first | assumption | ((try simp only [Z7, Zc, Zd, Z6, Z3, Z2, Zf, Zh, Nat.reduceAdd]); first | (refine sl_bools ?_ ?_; (exact rfl); first | rfl | assumption | omega | exact hrl _ _ | exact hrt _ _) | (refine sl_bools0 ?_ ?_; (exact rfl); first | rfl | assumption | omega | exact hrl _ _ | exact hrt _ _))); (· first | assumption | ((try simp only [Z7, Zc, Zd, Z6, Z3, Z2, Zf, Zh, Nat.reduceAdd]); first | (refine sl_bools ?_ ?_; (exact rfl); first | rfl | assumption | omega | exact hrl _ _ | exact hrt _ _) | (refine sl_bools0 ?_ ?_; (exact rfl); first | rfl | assumption | omega | exact hrl _ _ | exact hrt _ _))); (· first | assumption | exact (hrl _ _).symm.trans (hrl _ _) | exact (hrt _ _).symm.trans (hrt _ _)); (· first | omega | (rw [← hrl]; omega) | (rw [← hrt]; omega))) | ((with_reducible refine Z2w ?_); rintro _ _ ⟨rfl, hh⟩; replace hh := hh.symm; subst hh))
        obtain ⟨b1, e1⟩ := listV_form (h.length + 5) (bothL (reach false n x).1 (reach true n y).1)
        obtain ⟨b2, e2⟩ := listV_form (h.length + (List.length (listL (bothL (reach false n x).1 (reach true n y).1)) + 5)) (bothL (reach false n x).2 (reach true n y).2)
        exact ⟨b1, b2, _, _, _, by simp only [oneOf, e1, e2, hwo, wayP, wayT], rfl, fun _ => ⟨rfl, rfl⟩⟩
      · have hwo : wayOk n x y = false := by simp only [wayOk, hok, hx, hy, Bool.and_false]
        refine Z36 Try.func62 rfl Try.ntmps62 (by simp) (by dsimp only [Try.f62]) ?_
        repeat' (first | ((with_reducible refine eq_go ?_); simp only [stp, ev, ZB, reduceIte, Nat.reduceEqDiff, Z2x, Z13, Zy, Ze, ZH, ldv, fldA, blt, lenV, Z10, Zg, Z14, Zw, Z33, Nat.reduceAdd, Nat.reduceMul, Nat.reduceLeDiff, splice, newB, vcs, Ty.t3, Ty.t4, Ty.t68, Ty.t70, Ty.t86, Ty.t95, Ty.t114, *]; rfl) | (with_reducible first | refine aw_then ?_ | refine aw_skip ?_ | refine aw_ret ?_ | refine aw_exit ?_ | refine aw_block ?_ | refine xr_reg (by decide +kernel) ?_ | refine xr_nil ?_ | refine k_norm ?_ | refine k_ret ?_ | refine k_exit ?_ | refine b_norm ?_ | refine b_ret ?_ | refine b_exit ?_ | refine b_past (by decide) ?_) | (refine Ty.c40 (args := ?_) (K := ?_) ?_ ?_ ?_; rotate_left 2) | (refine Ty.c78 (args := ?_) (K := ?_) ?_ ?_ ?_; rotate_left 2) | (refine Ty.c79 (args := ?_) (K := ?_) ?_ ?_ ?_; rotate_left 2) | (refine Ty.c80 (args := ?_) (K := ?_) ?_ ?_ ?_; rotate_left 2) | (refine Ty.c81 (args := ?_) (K := ?_) ?_ ?_ ?_; rotate_left 2) | (refine xr_do (v := ?_) (h' := ?_) (by exact rfl) ?_ ?_; rotate_left 2) | (refine xr_st (v := ?_) (h' := ?_) (by exact rfl) ?_ ?_; rotate_left 2) | (refine xr_g (b := ?_) (by exact rfl) ?_ ?_; rotate_left 1; (· simp only [ev, Zb, reduceIte, Nat.reduceEqDiff, Z8, Z5, *]; rfl)) | (with_reducible first | refine gw_tt ?_ | refine gw_ff ?_ | refine gw_tf ?_ | refine gw_ft ?_ | refine gw_un ?_) | refine gw_if (fun hb => ?_) (fun hb => ?_) | (refine aw_c (b := ?_) (by decide) ?_ ?_; rotate_left 1; (· simp only [ev, Zb, reduceIte, Nat.reduceEqDiff, *]; rfl)) | (with_reducible first | refine cw_t ?_ | refine cw_f ?_) | refine cw_if (fun hb => ?_) (fun hb => ?_) | (refine r_ret (vs := ?_) ?_ ?_; rotate_left 1; (· simp only [resV, ev, Zb, reduceIte, Nat.reduceEqDiff, Zj, *]; rfl)) | (with_reducible exact l1In_ok _ _ _ _) | ((with_reducible refine specGoodNet_ok n _ I _ ?_ ?_ ?_); (· first | assumption | exact Sub.refl _ | exact Sub.app ‹_› _ | exact Sub.app (Sub.refl _) _); (· assumption); (· assumption)) | ((with_reducible refine l3Forward_ok n _ I _ _ ?_ ?_ ?_ ?_ ?_); (· first | assumption | exact Sub.refl _ | exact Sub.app ‹_› _ | exact Sub.app (Sub.refl _) _); (· assumption); (· assumption); (· assumption); (· first | omega | (simp only [Z2]; omega))) | ((with_reducible refine l3Back_ok n _ I _ _ ?_ ?_ ?_ ?_ ?_); (· first | assumption | exact Sub.refl _ | exact Sub.app ‹_› _ | exact Sub.app (Sub.refl _) _); (· assumption); (· assumption); (· assumption); (· first | omega | (simp only [Z2]; omega))) | ((with_reducible refine l3Both_ok ?_ ?_ _ _ _ ?_ ?_ ?_ ?_); rotate_left 2; (· first | assumption | ((try simp only [Z7, Zc, Zd, Z6, Z3, Z2, Zf, Zh, Nat.reduceAdd]); first | (refine sl_bools ?_ ?_; (exact rfl); first | rfl | assumption | omega | exact hrl _ _ | exact hrt _ _) | (refine sl_bools0 ?_ ?_; (exact rfl); first | rfl | assumption | omega | exact hrl _ _ | exact hrt _ _))); (· first | assumption | ((try simp only [Z7, Zc, Zd, Z6, Z3, Z2, Zf, Zh, Nat.reduceAdd]); first | (refine sl_bools ?_ ?_; (exact rfl); first | rfl | assumption | omega | exact hrl _ _ | exact hrt _ _) | (refine sl_bools0 ?_ ?_; (exact rfl); first | rfl | assumption | omega | exact hrl _ _ | exact hrt _ _))); (· first | assumption | exact (hrl _ _).symm.trans (hrl _ _) | exact (hrt _ _).symm.trans (hrt _ _)); (· first | omega | (rw [← hrl]; omega) | (rw [← hrt]; omega))) | ((with_reducible refine Z2w ?_); rintro _ _ ⟨rfl, hh⟩; replace hh := hh.symm; subst hh))
        exact ⟨none, none, 0, 0, _, by simp only [oneOf, hwo], rfl, fun q => by rw [hwo] at q; cases q⟩
    · have hwo : wayOk n x y = false := by simp only [wayOk, hok, hx, Bool.false_and, Bool.and_false]
      refine Z36 Try.func62 rfl Try.ntmps62 (by simp) (by dsimp only [Try.f62]) ?_
      repeat' (first | ((with_reducible refine eq_go ?_); simp only [stp, ev, ZB, reduceIte, Nat.reduceEqDiff, Z2x, Z13, Zy, Ze, ZH, ldv, fldA, blt, lenV, Z10, Zg, Z14, Zw, Z33, Nat.reduceAdd, Nat.reduceMul, Nat.reduceLeDiff, splice, newB, vcs, Ty.t3, Ty.t4, Ty.t68, Ty.t70, Ty.t86, Ty.t95, Ty.t114, *]; rfl) | (with_reducible first | refine aw_then ?_ | refine aw_skip ?_ | refine aw_ret ?_ | refine aw_exit ?_ | refine aw_block ?_ | refine xr_reg (by decide +kernel) ?_ | refine xr_nil ?_ | refine k_norm ?_ | refine k_ret ?_ | refine k_exit ?_ | refine b_norm ?_ | refine b_ret ?_ | refine b_exit ?_ | refine b_past (by decide) ?_) | (refine Ty.c40 (args := ?_) (K := ?_) ?_ ?_ ?_; rotate_left 2) | (refine Ty.c78 (args := ?_) (K := ?_) ?_ ?_ ?_; rotate_left 2) | (refine Ty.c79 (args := ?_) (K := ?_) ?_ ?_ ?_; rotate_left 2) | (refine Ty.c80 (args := ?_) (K := ?_) ?_ ?_ ?_; rotate_left 2) | (refine Ty.c81 (args := ?_) (K := ?_) ?_ ?_ ?_; rotate_left 2) | (refine xr_do (v := ?_) (h' := ?_) (by exact rfl) ?_ ?_; rotate_left 2) | (refine xr_st (v := ?_) (h' := ?_) (by exact rfl) ?_ ?_; rotate_left 2) | (refine xr_g (b := ?_) (by exact rfl) ?_ ?_; rotate_left 1; (· simp only [ev, Zb, reduceIte, Nat.reduceEqDiff, Z8, Z5, *]; rfl)) | (with_reducible first | refine gw_tt ?_ | refine gw_ff ?_ | refine gw_tf ?_ | refine gw_ft ?_ | refine gw_un ?_) | refine gw_if (fun hb => ?_) (fun hb => ?_) | (refine aw_c (b := ?_) (by decide) ?_ ?_; rotate_left 1; (· simp only [ev, Zb, reduceIte, Nat.reduceEqDiff, *]; rfl)) | (with_reducible first | refine cw_t ?_ | refine cw_f ?_) | refine cw_if (fun hb => ?_) (fun hb => ?_) | (refine r_ret (vs := ?_) ?_ ?_; rotate_left 1; (· simp only [resV, ev, Zb, reduceIte, Nat.reduceEqDiff, Zj, *]; rfl)) | (with_reducible exact l1In_ok _ _ _ _) | ((with_reducible refine specGoodNet_ok n _ I _ ?_ ?_ ?_); (· first | assumption | exact Sub.refl _ | exact Sub.app ‹_› _ | exact Sub.app (Sub.refl _) _); (· assumption); (· assumption)) | ((with_reducible refine l3Forward_ok n _ I _ _ ?_ ?_ ?_ ?_ ?_); (· first | assumption | exact Sub.refl _ | exact Sub.app ‹_› _ | exact Sub.app (Sub.refl _) _); (· assumption); (· assumption); (· assumption); (· first | omega | (simp only [Z2]; omega))) | ((with_reducible refine l3Back_ok n _ I _ _ ?_ ?_ ?_ ?_ ?_); (· first | assumption | exact Sub.refl _ | exact Sub.app ‹_› _ | exact Sub.app (Sub.refl _) _); (· assumption); (· assumption); (· assumption); (· first | omega | (simp only [Z2]; omega))) | ((with_reducible refine l3Both_ok ?_ ?_ _ _ _ ?_ ?_ ?_ ?_); rotate_left 2; (· first | assumption | ((try simp only [Z7, Zc, Zd, Z6, Z3, Z2, Zf, Zh, Nat.reduceAdd]); first | (refine sl_bools ?_ ?_; (exact rfl); first | rfl | assumption | omega | exact hrl _ _ | exact hrt _ _) | (refine sl_bools0 ?_ ?_; (exact rfl); first | rfl | assumption | omega | exact hrl _ _ | exact hrt _ _))); (· first | assumption | ((try simp only [Z7, Zc, Zd, Z6, Z3, Z2, Zf, Zh, Nat.reduceAdd]); first | (refine sl_bools ?_ ?_; (exact rfl); first | rfl | assumption | omega | exact hrl _ _ | exact hrt _ _) | (refine sl_bools0 ?_ ?_; (exact rfl); first | rfl | assumption | omega | exact hrl _ _ | exact hrt _ _))); (· first | assumption | exact (hrl _ _).symm.trans (hrl _ _) | exact (hrt _ _).symm.trans (hrt _ _)); (· first | omega | (rw [← hrl]; omega) | (rw [← hrt]; omega))) | ((with_reducible refine Z2w ?_); rintro _ _ ⟨rfl, hh⟩; replace hh := hh.symm; subst hh))
      exact ⟨none, none, 0, 0, _, by simp only [oneOf, hwo], rfl, fun q => by rw [hwo] at q; cases q⟩
  · have hwo : wayOk n x y = false := by simp only [wayOk, hok, Bool.false_and]
    refine Z36 Try.func62 rfl Try.ntmps62 (by simp) (by dsimp only [Try.f62]) ?_
    repeat' (first | ((with_reducible refine eq_go ?_); simp only [stp, ev, ZB, reduceIte, Nat.reduceEqDiff, Z2x, Z13, Zy, Ze, ZH, ldv, fldA, blt, lenV, Z10, Zg, Z14, Zw, Z33, Nat.reduceAdd, Nat.reduceMul, Nat.reduceLeDiff, splice, newB, vcs, Ty.t3, Ty.t4, Ty.t68, Ty.t70, Ty.t86, Ty.t95, Ty.t114, *]; rfl) | (with_reducible first | refine aw_then ?_ | refine aw_skip ?_ | refine aw_ret ?_ | refine aw_exit ?_ | refine aw_block ?_ | refine xr_reg (by decide +kernel) ?_ | refine xr_nil ?_ | refine k_norm ?_ | refine k_ret ?_ | refine k_exit ?_ | refine b_norm ?_ | refine b_ret ?_ | refine b_exit ?_ | refine b_past (by decide) ?_) | (refine Ty.c40 (args := ?_) (K := ?_) ?_ ?_ ?_; rotate_left 2) | (refine Ty.c78 (args := ?_) (K := ?_) ?_ ?_ ?_; rotate_left 2) | (refine Ty.c79 (args := ?_) (K := ?_) ?_ ?_ ?_; rotate_left 2) | (refine Ty.c80 (args := ?_) (K := ?_) ?_ ?_ ?_; rotate_left 2) | (refine Ty.c81 (args := ?_) (K := ?_) ?_ ?_ ?_; rotate_left 2) | (refine xr_do (v := ?_) (h' := ?_) (by exact rfl) ?_ ?_; rotate_left 2) | (refine xr_st (v := ?_) (h' := ?_) (by exact rfl) ?_ ?_; rotate_left 2) | (refine xr_g (b := ?_) (by exact rfl) ?_ ?_; rotate_left 1; (· simp only [ev, Zb, reduceIte, Nat.reduceEqDiff, Z8, Z5, *]; rfl)) | (with_reducible first | refine gw_tt ?_ | refine gw_ff ?_ | refine gw_tf ?_ | refine gw_ft ?_ | refine gw_un ?_) | refine gw_if (fun hb => ?_) (fun hb => ?_) | (refine aw_c (b := ?_) (by decide) ?_ ?_; rotate_left 1; (· simp only [ev, Zb, reduceIte, Nat.reduceEqDiff, *]; rfl)) | (with_reducible first | refine cw_t ?_ | refine cw_f ?_) | refine cw_if (fun hb => ?_) (fun hb => ?_) | (refine r_ret (vs := ?_) ?_ ?_; rotate_left 1; (· simp only [resV, ev, Zb, reduceIte, Nat.reduceEqDiff, Zj, *]; rfl)) | (with_reducible exact l1In_ok _ _ _ _) | ((with_reducible refine specGoodNet_ok n _ I _ ?_ ?_ ?_); (· first | assumption | exact Sub.refl _ | exact Sub.app ‹_› _ | exact Sub.app (Sub.refl _) _); (· assumption); (· assumption)) | ((with_reducible refine l3Forward_ok n _ I _ _ ?_ ?_ ?_ ?_ ?_); (· first | assumption | exact Sub.refl _ | exact Sub.app ‹_› _ | exact Sub.app (Sub.refl _) _); (· assumption); (· assumption); (· assumption); (· first | omega | (simp only [Z2]; omega))) | ((with_reducible refine l3Back_ok n _ I _ _ ?_ ?_ ?_ ?_ ?_); (· first | assumption | exact Sub.refl _ | exact Sub.app ‹_› _ | exact Sub.app (Sub.refl _) _); (· assumption); (· assumption); (· assumption); (· first | omega | (simp only [Z2]; omega))) | ((with_reducible refine l3Both_ok ?_ ?_ _ _ _ ?_ ?_ ?_ ?_); rotate_left 2; (· first | assumption | ((try simp only [Z7, Zc, Zd, Z6, Z3, Z2, Zf, Zh, Nat.reduceAdd]); first | (refine sl_bools ?_ ?_; (exact rfl); first | rfl | assumption | omega | exact hrl _ _ | exact hrt _ _) | (refine sl_bools0 ?_ ?_; (exact rfl); first | rfl | assumption | omega | exact hrl _ _ | exact hrt _ _))); (· first | assumption | ((try simp only [Z7, Zc, Zd, Z6, Z3, Z2, Zf, Zh, Nat.reduceAdd]); first | (refine sl_bools ?_ ?_; (exact rfl); first | rfl | assumption | omega | exact hrl _ _ | exact hrt _ _) | (refine sl_bools0 ?_ ?_; (exact rfl); first | rfl | assumption | omega | exact hrl _ _ | exact hrt _ _))); (· first | assumption | exact (hrl _ _).symm.trans (hrl _ _) | exact (hrt _ _).symm.trans (hrt _ _)); (· first | omega | (rw [← hrl]; omega) | (rw [← hrt]; omega))) | ((with_reducible refine Z2w ?_); rintro _ _ ⟨rfl, hh⟩; replace hh := hh.symm; subst hh))
    exact ⟨none, none, 0, 0, _, by simp only [oneOf, hwo], rfl, fun q => by rw [hwo] at q; cases q⟩
end Go.Proofs.Ytmjhfklmlcnofaa.Am
namespace Go.Proofs.Ytmjhfklmlcnofaa.Am
open Go Go.Proofs
set_option linter.unusedVariables false
set_option linter.unusedSimpArgs false
set_option maxRecDepth 100000
set_option maxHeartbeats 8000000
structure FlowM where
  net : NetM
  x : Int
  y : Int
def trFlow (x y : Int) (t : Tr) : Bool := !hasI t.out x && (!hasI t.inn y && (!hasI t.res x && !hasI t.res y))
def flowOk (f : FlowM) : Bool := wayOk f.net f.x f.y && ((!decide (f.x = f.y)) && (f.net.trans.all (trFlow f.x f.y) &&
  (decide (((wayP f.net f.x f.y).length : Int) = f.net.places) && decide (((wayT f.net f.x f.y).length : Int) = f.net.trans.length))))
theorem all_step {α : Type} {p : α → Bool} {l : List α} {k : Nat} (hk : k < l.length) (h : (l.take k).all p = true) (hp : p l[k] = true) : (l.take (k + 1)).all p = true := by
  rw [← List.take_append_getElem hk, List.all_append, h]; simp [hp]
theorem all_bad {α : Type} {p : α → Bool} {l : List α} {k : Nat} (hk : k < l.length) (hp : p l[k] = false) : l.all p = false :=
  List.all_eq_false.2 ⟨l[k], List.getElem_mem _, by simp [hp]⟩
theorem implGoodFlow_ok (n : NetM) (x y : Int) (vt : Value) (I h : Heap) (hI : Sub I h) (hs : RTrs I vt n.trans) (hsm : n.small) :
    ACalls Try.prog 0 65 #[.agg #[.int .i64 n.places, vt, .int .i64 x, .int .i64 y]] h
    fun v h' => v = .bool (flowOk ⟨n, x, y⟩) ∧ h' = h := by
  refine acalls_pure (.inl rfl) ?_
  have hfl := hs.flat
  obtain ⟨b, c, rfl, hc, hrow⟩ := hs.form
  have hlen := hsm.1
  rcases Bool.eq_false_or_eq_true (netOk n) with hok | hok
  · have hpl := netOk_places hok
    have hw : IntKind.i64.wrap (n.places - 1) = n.places - 1 := wrap_id (by omega)
    rcases Bool.eq_false_or_eq_true (decide (0 ≤ x ∧ x ≤ n.places - 1)) with hx | hx
    · rcases Bool.eq_false_or_eq_true (decide (0 ≤ y ∧ y ≤ n.places - 1)) with hy | hy
      · have hwo : wayOk n x y = true := by simp only [wayOk, hok, hx, hy, Z1e]
        have hx' := of_decide_eq_true hx
        have hy' := of_decide_eq_true hy
        refine Z36 Try.func65 rfl Try.ntmps65 (by simp) (by dsimp only [Try.f65]) ?_
        repeat' (first | ((with_reducible refine eq_go ?_); simp only [stp, ev, ZB, reduceIte, Nat.reduceEqDiff, Z2x, Z13, Zy, Ze, ZH, ldv, stv, vcs, fldA, idxA, blt, lenV, Z10, Zg, Z14, Zw, Z33, Nat.reduceAdd, Nat.reduceMul, Nat.reduceLeDiff, splice, newB, Ty.t3, Ty.t68, Ty.t70, Ty.t72, Ty.t86, Ty.t95, *]; rfl) | (with_reducible first | refine aw_then ?_ | refine aw_skip ?_ | refine aw_ret ?_ | refine aw_exit ?_ | refine aw_block ?_ | refine xr_reg (by decide +kernel) ?_ | refine xr_nil ?_ | refine k_norm ?_ | refine k_ret ?_ | refine k_exit ?_ | refine b_norm ?_ | refine b_ret ?_ | refine b_exit ?_ | refine b_past (by decide) ?_) | (refine Ty.c53 (args := ?_) (K := ?_) ?_ ?_ ?_; rotate_left 2) | (refine Ty.c86 (args := ?_) (K := ?_) ?_ ?_ ?_; rotate_left 2) | (refine Ty.c87 (args := ?_) (K := ?_) ?_ ?_ ?_; rotate_left 2) | (refine Ty.c88 (args := ?_) (K := ?_) ?_ ?_ ?_; rotate_left 2) | (refine xr_do (v := ?_) (h' := ?_) (by exact rfl) ?_ ?_; rotate_left 2) | (refine xr_st (v := ?_) (h' := ?_) (by exact rfl) ?_ ?_; rotate_left 2) | (refine xr_g (b := ?_) (by exact rfl) ?_ ?_; rotate_left 1; (· simp only [ev, Zb, reduceIte, Nat.reduceEqDiff, Z8, Z5, *]; rfl)) | (with_reducible first | refine gw_tt ?_ | refine gw_ff ?_ | refine gw_tf ?_ | refine gw_ft ?_ | refine gw_un ?_) | refine gw_if (fun hb => ?_) (fun hb => ?_) | (refine aw_c (b := ?_) (by decide) ?_ ?_; rotate_left 1; (· simp only [ev, Zb, reduceIte, Nat.reduceEqDiff, *]; rfl)) | (with_reducible first | refine cw_t ?_ | refine cw_f ?_) | refine cw_if (fun hb => ?_) (fun hb => ?_) | (refine r_ret (vs := ?_) ?_ ?_; rotate_left 1; (· simp only [resV, ev, Zb, reduceIte, Nat.reduceEqDiff, Zj, *]; rfl)) | (with_reducible exact within_ok _ _ _ _) | ((with_reducible refine containsInt_ok ?_ _ _ _ ?_ ?_); rotate_left 1; (· first | assumption | exact Sl.sub ‹_› (by first | assumption | exact Sub.refl _ | exact Sub.app ‹_› _ | exact Sub.app (Sub.refl _) _)); (· first | omega | (simp only [Z2]; omega))) | ((with_reducible refine goodNet_ok n _ I _ ?_ ?_ ?_); (· first | assumption | exact Sub.refl _ | exact Sub.app ‹_› _ | exact Sub.app (Sub.refl _) _); (· assumption); (· assumption)) | ((with_reducible refine implOnWay_ok n _ I _ _ _ ?_ ?_ ?_ ?_ ?_ ?_); (· first | assumption | exact Sub.refl _ | exact Sub.app ‹_› _ | exact Sub.app (Sub.refl _) _); (· assumption); (· assumption); (· assumption); (· first | omega | (simp only [Z2]; omega)); (· first | omega | (simp only [Z2]; omega))) | ((with_reducible refine Z2w (n := 88) ?_); rintro _ _ ⟨w1, w2, E1, rfl, rfl⟩) | ((with_reducible refine Z2w ?_); rintro _ _ ⟨rfl, hh⟩; replace hh := hh.symm; subst hh))
        · exact ⟨by simp only [oneOf, flowOk, hb, Z8, Bool.false_and, Bool.and_false], _, rfl⟩
        have hne := hb
        refine aw_for [1, 3, 39, 40] (fun k T h' => (∃ L, h' = h ++ ⟨2, 1, [.int .i64 n.places, .slice b n.trans.length c, .int .i64 x, .int .i64 y]⟩ :: ⟨2, 1, [.int .i64 n.places, .slice b n.trans.length c]⟩ :: L) ∧ T 41 = .int .i64 k ∧ (n.trans.take k).all (trFlow x y) = true) n.trans.length (k0 := 0) (Nat.zero_le _) ⟨⟨[], rfl⟩, rfl, rfl⟩ ?_
        rintro k T h' hk hR ⟨⟨L, rfl⟩, h41, hall⟩
        simp only [Z37, Z38, Z39, implies_true, and_true, stp, ev, ZB, reduceIte, Nat.reduceEqDiff, Z2x, Z13, Zy] at hR
        clear hb
        rcases Nat.lt_or_ge k n.trans.length with hkn | hkn
        · have h1 : (k : Int) < n.trans.length := by omega
          obtain ⟨a, row, rfl, hrl, hrt, hld0⟩ := hrow k hkn
          obtain ⟨u, v, w, rfl, q1, q2, q3⟩ := hrt
          obtain ⟨s1, s2, s3⟩ := hsm.2 n.trans[k] (List.getElem_mem hkn)
          have hld := fun L => hld0 _ (hI.app L)
          have f1 := q1.flat
          have f2 := q2.flat
          have f3 := q3.flat
          have hgood := all_step (p := trFlow x y) hkn hall
          have hbad := all_bad (p := trFlow x y) hkn
          clear hrow hld0
          generalize n.trans[k] = t at *
          repeat' (first | ((with_reducible refine eq_go ?_); simp only [stp, ev, ZB, reduceIte, Nat.reduceEqDiff, Z2x, Z13, Zy, Ze, ZH, ldv, stv, vcs, fldA, idxA, blt, lenV, Z10, Zg, Z14, Zw, Z33, Nat.reduceAdd, Nat.reduceMul, Nat.reduceLeDiff, splice, newB, Ty.t3, Ty.t68, Ty.t70, Ty.t72, Ty.t86, Ty.t95, *]; rfl) | (with_reducible first | refine aw_then ?_ | refine aw_skip ?_ | refine aw_ret ?_ | refine aw_exit ?_ | refine aw_block ?_ | refine xr_reg (by decide +kernel) ?_ | refine xr_nil ?_ | refine k_norm ?_ | refine k_ret ?_ | refine k_exit ?_ | refine b_norm ?_ | refine b_ret ?_ | refine b_exit ?_ | refine b_past (by decide) ?_) | (refine Ty.c53 (args := ?_) (K := ?_) ?_ ?_ ?_; rotate_left 2) | (refine Ty.c86 (args := ?_) (K := ?_) ?_ ?_ ?_; rotate_left 2) | (refine Ty.c87 (args := ?_) (K := ?_) ?_ ?_ ?_; rotate_left 2) | (refine Ty.c88 (args := ?_) (K := ?_) ?_ ?_ ?_; rotate_left 2) | (refine xr_do (v := ?_) (h' := ?_) (by exact rfl) ?_ ?_; rotate_left 2) | (refine xr_st (v := ?_) (h' := ?_) (by exact rfl) ?_ ?_; rotate_left 2) | (refine xr_g (b := ?_) (by exact rfl) ?_ ?_; rotate_left 1; (· simp only [ev, Zb, reduceIte, Nat.reduceEqDiff, Z8, Z5, *]; rfl)) | (with_reducible first | refine gw_tt ?_ | refine gw_ff ?_ | refine gw_tf ?_ | refine gw_ft ?_ | refine gw_un ?_) | refine gw_if (fun hb => ?_) (fun hb => ?_) | (refine aw_c (b := ?_) (by decide) ?_ ?_; rotate_left 1; (· simp only [ev, Zb, reduceIte, Nat.reduceEqDiff, *]; rfl)) | (with_reducible first | refine cw_t ?_ | refine cw_f ?_) | refine cw_if (fun hb => ?_) (fun hb => ?_) | (refine r_ret (vs := ?_) ?_ ?_; rotate_left 1; (· simp only [resV, ev, Zb, reduceIte, Nat.reduceEqDiff, Zj, *]; rfl)) | (with_reducible exact within_ok _ _ _ _) | ((with_reducible refine containsInt_ok ?_ _ _ _ ?_ ?_); rotate_left 1; (· first | assumption | exact Sl.sub ‹_› (by first | assumption | exact Sub.refl _ | exact Sub.app ‹_› _ | exact Sub.app (Sub.refl _) _)); (· first | omega | (simp only [Z2]; omega))) | ((with_reducible refine goodNet_ok n _ I _ ?_ ?_ ?_); (· first | assumption | exact Sub.refl _ | exact Sub.app ‹_› _ | exact Sub.app (Sub.refl _) _); (· assumption); (· assumption)) | ((with_reducible refine implOnWay_ok n _ I _ _ _ ?_ ?_ ?_ ?_ ?_ ?_); (· first | assumption | exact Sub.refl _ | exact Sub.app ‹_› _ | exact Sub.app (Sub.refl _) _); (· assumption); (· assumption); (· assumption); (· first | omega | (simp only [Z2]; omega)); (· first | omega | (simp only [Z2]; omega))) | ((with_reducible refine Z2w (n := 88) ?_); rintro _ _ ⟨w1, w2, E1, rfl, rfl⟩) | ((with_reducible refine Z2w ?_); rintro _ _ ⟨rfl, hh⟩; replace hh := hh.symm; subst hh))
          iterate 4
            · refine ⟨?_, _, rfl⟩
              rw [show flowOk ⟨n, x, y⟩ = false from ?_]; rfl
              simp only [flowOk]
              rw [hbad (by simp_all [trFlow])]
              simp only [Bool.false_and, Bool.and_false]
          refine ⟨by first | assumption | omega, ?_, ?_⟩
          · simp only [Z37, Z38, Z39, implies_true, and_true, ZB, stp, ev, reduceIte, Nat.reduceEqDiff, Z2x, Z13, Zy, *]
          refine ⟨⟨_, rfl⟩, ?_, ?_⟩
          · simp only [Zb, reduceIte, Nat.reduceEqDiff]
            rw [wrap_id (by omega)]; rfl
          · exact hgood (by simp_all [trFlow])
        · have h1 : ¬ (k : Int) < n.trans.length := by omega
          rw [List.take_of_length_le hkn] at hall
          clear hrow
          repeat' (first | ((with_reducible refine eq_go ?_); simp only [stp, ev, ZB, reduceIte, Nat.reduceEqDiff, Z2x, Z13, Zy, Ze, ZH, ldv, stv, vcs, fldA, idxA, blt, lenV, Z10, Zg, Z14, Zw, Z33, Nat.reduceAdd, Nat.reduceMul, Nat.reduceLeDiff, splice, newB, Ty.t3, Ty.t68, Ty.t70, Ty.t72, Ty.t86, Ty.t95, *]; rfl) | (with_reducible first | refine aw_then ?_ | refine aw_skip ?_ | refine aw_ret ?_ | refine aw_exit ?_ | refine aw_block ?_ | refine xr_reg (by decide +kernel) ?_ | refine xr_nil ?_ | refine k_norm ?_ | refine k_ret ?_ | refine k_exit ?_ | refine b_norm ?_ | refine b_ret ?_ | refine b_exit ?_ | refine b_past (by decide) ?_) | (refine Ty.c53 (args := ?_) (K := ?_) ?_ ?_ ?_; rotate_left 2) | (refine Ty.c86 (args := ?_) (K := ?_) ?_ ?_ ?_; rotate_left 2) | (refine Ty.c87 (args := ?_) (K := ?_) ?_ ?_ ?_; rotate_left 2) | (refine Ty.c88 (args := ?_) (K := ?_) ?_ ?_ ?_; rotate_left 2) | (refine xr_do (v := ?_) (h' := ?_) (by exact rfl) ?_ ?_; rotate_left 2) | (refine xr_st (v := ?_) (h' := ?_) (by exact rfl) ?_ ?_; rotate_left 2) | (refine xr_g (b := ?_) (by exact rfl) ?_ ?_; rotate_left 1; (· simp only [ev, Zb, reduceIte, Nat.reduceEqDiff, Z8, Z5, *]; rfl)) | (with_reducible first | refine gw_tt ?_ | refine gw_ff ?_ | refine gw_tf ?_ | refine gw_ft ?_ | refine gw_un ?_) | refine gw_if (fun hb => ?_) (fun hb => ?_) | (refine aw_c (b := ?_) (by decide) ?_ ?_; rotate_left 1; (· simp only [ev, Zb, reduceIte, Nat.reduceEqDiff, *]; rfl)) | (with_reducible first | refine cw_t ?_ | refine cw_f ?_) | refine cw_if (fun hb => ?_) (fun hb => ?_) | (refine r_ret (vs := ?_) ?_ ?_; rotate_left 1; (· simp only [resV, ev, Zb, reduceIte, Nat.reduceEqDiff, Zj, *]; rfl)) | (with_reducible exact within_ok _ _ _ _) | ((with_reducible refine containsInt_ok ?_ _ _ _ ?_ ?_); rotate_left 1; (· first | assumption | exact Sl.sub ‹_› (by first | assumption | exact Sub.refl _ | exact Sub.app ‹_› _ | exact Sub.app (Sub.refl _) _)); (· first | omega | (simp only [Z2]; omega))) | ((with_reducible refine goodNet_ok n _ I _ ?_ ?_ ?_); (· first | assumption | exact Sub.refl _ | exact Sub.app ‹_› _ | exact Sub.app (Sub.refl _) _); (· assumption); (· assumption)) | ((with_reducible refine implOnWay_ok n _ I _ _ _ ?_ ?_ ?_ ?_ ?_ ?_); (· first | assumption | exact Sub.refl _ | exact Sub.app ‹_› _ | exact Sub.app (Sub.refl _) _); (· assumption); (· assumption); (· assumption); (· first | omega | (simp only [Z2]; omega)); (· first | omega | (simp only [Z2]; omega))) | ((with_reducible refine Z2w (n := 88) ?_); rintro _ _ ⟨w1, w2, E1, rfl, rfl⟩) | ((with_reducible refine Z2w ?_); rintro _ _ ⟨rfl, hh⟩; replace hh := hh.symm; subst hh))
          · exact ⟨by simp only [oneOf, flowOk, hwo, hne, hall, hb, Z5, Bool.true_and], _, rfl⟩
          · exact ⟨by simp only [oneOf, flowOk, hb, Bool.false_and, Bool.and_false], _, rfl⟩
      · have hwo : wayOk n x y = false := by simp only [wayOk, hok, hx, hy, Bool.and_false]
        refine Z36 Try.func65 rfl Try.ntmps65 (by simp) (by dsimp only [Try.f65]) ?_
        repeat' (first | ((with_reducible refine eq_go ?_); simp only [stp, ev, ZB, reduceIte, Nat.reduceEqDiff, Z2x, Z13, Zy, Ze, ZH, ldv, stv, vcs, fldA, idxA, blt, lenV, Z10, Zg, Z14, Zw, Z33, Nat.reduceAdd, Nat.reduceMul, Nat.reduceLeDiff, splice, newB, Ty.t3, Ty.t68, Ty.t70, Ty.t72, Ty.t86, Ty.t95, *]; rfl) | (with_reducible first | refine aw_then ?_ | refine aw_skip ?_ | refine aw_ret ?_ | refine aw_exit ?_ | refine aw_block ?_ | refine xr_reg (by decide +kernel) ?_ | refine xr_nil ?_ | refine k_norm ?_ | refine k_ret ?_ | refine k_exit ?_ | refine b_norm ?_ | refine b_ret ?_ | refine b_exit ?_ | refine b_past (by decide) ?_) | (refine Ty.c53 (args := ?_) (K := ?_) ?_ ?_ ?_; rotate_left 2) | (refine Ty.c86 (args := ?_) (K := ?_) ?_ ?_ ?_; rotate_left 2) | (refine Ty.c87 (args := ?_) (K := ?_) ?_ ?_ ?_; rotate_left 2) | (refine Ty.c88 (args := ?_) (K := ?_) ?_ ?_ ?_; rotate_left 2) | (refine xr_do (v := ?_) (h' := ?_) (by exact rfl) ?_ ?_; rotate_left 2) | (refine xr_st (v := ?_) (h' := ?_) (by exact rfl) ?_ ?_; rotate_left 2) | (refine xr_g (b := ?_) (by exact rfl) ?_ ?_; rotate_left 1; (· simp only [ev, Zb, reduceIte, Nat.reduceEqDiff, Z8, Z5, *]; rfl)) | (with_reducible first | refine gw_tt ?_ | refine gw_ff ?_ | refine gw_tf ?_ | refine gw_ft ?_ | refine gw_un ?_) | refine gw_if (fun hb => ?_) (fun hb => ?_) | (refine aw_c (b := ?_) (by decide) ?_ ?_; rotate_left 1; (· simp only [ev, Zb, reduceIte, Nat.reduceEqDiff, *]; rfl)) | (with_reducible first | refine cw_t ?_ | refine cw_f ?_) | refine cw_if (fun hb => ?_) (fun hb => ?_) | (refine r_ret (vs := ?_) ?_ ?_; rotate_left 1; (· simp only [resV, ev, Zb, reduceIte, Nat.reduceEqDiff, Zj, *]; rfl)) | (with_reducible exact within_ok _ _ _ _) | ((with_reducible refine containsInt_ok ?_ _ _ _ ?_ ?_); rotate_left 1; (· first | assumption | exact Sl.sub ‹_› (by first | assumption | exact Sub.refl _ | exact Sub.app ‹_› _ | exact Sub.app (Sub.refl _) _)); (· first | omega | (simp only [Z2]; omega))) | ((with_reducible refine goodNet_ok n _ I _ ?_ ?_ ?_); (· first | assumption | exact Sub.refl _ | exact Sub.app ‹_› _ | exact Sub.app (Sub.refl _) _); (· assumption); (· assumption)) | ((with_reducible refine implOnWay_ok n _ I _ _ _ ?_ ?_ ?_ ?_ ?_ ?_); (· first | assumption | exact Sub.refl _ | exact Sub.app ‹_› _ | exact Sub.app (Sub.refl _) _); (· assumption); (· assumption); (· assumption); (· first | omega | (simp only [Z2]; omega)); (· first | omega | (simp only [Z2]; omega))) | ((with_reducible refine Z2w (n := 88) ?_); rintro _ _ ⟨w1, w2, E1, rfl, rfl⟩) | ((with_reducible refine Z2w ?_); rintro _ _ ⟨rfl, hh⟩; replace hh := hh.symm; subst hh))
        exact ⟨by simp only [oneOf, flowOk, hwo, Bool.false_and], _, rfl⟩
    · have hwo : wayOk n x y = false := by simp only [wayOk, hok, hx, Bool.false_and, Bool.and_false]
      refine Z36 Try.func65 rfl Try.ntmps65 (by simp) (by dsimp only [Try.f65]) ?_
      repeat' (first | ((with_reducible refine eq_go ?_); simp only [stp, ev, ZB, reduceIte, Nat.reduceEqDiff, Z2x, Z13, Zy, Ze, ZH, ldv, stv, vcs, fldA, idxA, blt, lenV, Z10, Zg, Z14, Zw, Z33, Nat.reduceAdd, Nat.reduceMul, Nat.reduceLeDiff, splice, newB, Ty.t3, Ty.t68, Ty.t70, Ty.t72, Ty.t86, Ty.t95, *]; rfl) | (with_reducible first | refine aw_then ?_ | refine aw_skip ?_ | refine aw_ret ?_ | refine aw_exit ?_ | refine aw_block ?_ | refine xr_reg (by decide +kernel) ?_ | refine xr_nil ?_ | refine k_norm ?_ | refine k_ret ?_ | refine k_exit ?_ | refine b_norm ?_ | refine b_ret ?_ | refine b_exit ?_ | refine b_past (by decide) ?_) | (refine Ty.c53 (args := ?_) (K := ?_) ?_ ?_ ?_; rotate_left 2) | (refine Ty.c86 (args := ?_) (K := ?_) ?_ ?_ ?_; rotate_left 2) | (refine Ty.c87 (args := ?_) (K := ?_) ?_ ?_ ?_; rotate_left 2) | (refine Ty.c88 (args := ?_) (K := ?_) ?_ ?_ ?_; rotate_left 2) | (refine xr_do (v := ?_) (h' := ?_) (by exact rfl) ?_ ?_; rotate_left 2) | (refine xr_st (v := ?_) (h' := ?_) (by exact rfl) ?_ ?_; rotate_left 2) | (refine xr_g (b := ?_) (by exact rfl) ?_ ?_; rotate_left 1; (· simp only [ev, Zb, reduceIte, Nat.reduceEqDiff, Z8, Z5, *]; rfl)) | (with_reducible first | refine gw_tt ?_ | refine gw_ff ?_ | refine gw_tf ?_ | refine gw_ft ?_ | refine gw_un ?_) | refine gw_if (fun hb => ?_) (fun hb => ?_) | (refine aw_c (b := ?_) (by decide) ?_ ?_; rotate_left 1; (· simp only [ev, Zb, reduceIte, Nat.reduceEqDiff, *]; rfl)) | (with_reducible first | refine cw_t ?_ | refine cw_f ?_) | refine cw_if (fun hb => ?_) (fun hb => ?_) | (refine r_ret (vs := ?_) ?_ ?_; rotate_left 1; (· simp only [resV, ev, Zb, reduceIte, Nat.reduceEqDiff, Zj, *]; rfl)) | (with_reducible exact within_ok _ _ _ _) | ((with_reducible refine containsInt_ok ?_ _ _ _ ?_ ?_); rotate_left 1; (· first | assumption | exact Sl.sub ‹_› (by first | assumption | exact Sub.refl _ | exact Sub.app ‹_› _ | exact Sub.app (Sub.refl _) _)); (· first | omega | (simp only [Z2]; omega))) | ((with_reducible refine goodNet_ok n _ I _ ?_ ?_ ?_); (· first | assumption | exact Sub.refl _ | exact Sub.app ‹_› _ | exact Sub.app (Sub.refl _) _); (· assumption); (· assumption)) | ((with_reducible refine implOnWay_ok n _ I _ _ _ ?_ ?_ ?_ ?_ ?_ ?_); (· first | assumption | exact Sub.refl _ | exact Sub.app ‹_› _ | exact Sub.app (Sub.refl _) _); (· assumption); (· assumption); (· assumption); (· first | omega | (simp only [Z2]; omega)); (· first | omega | (simp only [Z2]; omega))) | ((with_reducible refine Z2w (n := 88) ?_); rintro _ _ ⟨w1, w2, E1, rfl, rfl⟩) | ((with_reducible refine Z2w ?_); rintro _ _ ⟨rfl, hh⟩; replace hh := hh.symm; subst hh))
      exact ⟨by simp only [oneOf, flowOk, hwo, Bool.false_and], _, rfl⟩
  · have hwo : wayOk n x y = false := by simp only [wayOk, hok, Bool.false_and]
    refine Z36 Try.func65 rfl Try.ntmps65 (by simp) (by dsimp only [Try.f65]) ?_
    repeat' (first | ((with_reducible refine eq_go ?_); simp only [stp, ev, ZB, reduceIte, Nat.reduceEqDiff, Z2x, Z13, Zy, Ze, ZH, ldv, stv, vcs, fldA, idxA, blt, lenV, Z10, Zg, Z14, Zw, Z33, Nat.reduceAdd, Nat.reduceMul, Nat.reduceLeDiff, splice, newB, Ty.t3, Ty.t68, Ty.t70, Ty.t72, Ty.t86, Ty.t95, *]; rfl) | (with_reducible first | refine aw_then ?_ | refine aw_skip ?_ | refine aw_ret ?_ | refine aw_exit ?_ | refine aw_block ?_ | refine xr_reg (by decide +kernel) ?_ | refine xr_nil ?_ | refine k_norm ?_ | refine k_ret ?_ | refine k_exit ?_ | refine b_norm ?_ | refine b_ret ?_ | refine b_exit ?_ | refine b_past (by decide) ?_) | (refine Ty.c53 (args := ?_) (K := ?_) ?_ ?_ ?_; rotate_left 2) | (refine Ty.c86 (args := ?_) (K := ?_) ?_ ?_ ?_; rotate_left 2) | (refine Ty.c87 (args := ?_) (K := ?_) ?_ ?_ ?_; rotate_left 2) | (refine Ty.c88 (args := ?_) (K := ?_) ?_ ?_ ?_; rotate_left 2) | (refine xr_do (v := ?_) (h' := ?_) (by exact rfl) ?_ ?_; rotate_left 2) | (refine xr_st (v := ?_) (h' := ?_) (by exact rfl) ?_ ?_; rotate_left 2) | (refine xr_g (b := ?_) (by exact rfl) ?_ ?_; rotate_left 1; (· simp only [ev, Zb, reduceIte, Nat.reduceEqDiff, Z8, Z5, *]; rfl)) | (with_reducible first | refine gw_tt ?_ | refine gw_ff ?_ | refine gw_tf ?_ | refine gw_ft ?_ | refine gw_un ?_) | refine gw_if (fun hb => ?_) (fun hb => ?_) | (refine aw_c (b := ?_) (by decide) ?_ ?_; rotate_left 1; (· simp only [ev, Zb, reduceIte, Nat.reduceEqDiff, *]; rfl)) | (with_reducible first | refine cw_t ?_ | refine cw_f ?_) | refine cw_if (fun hb => ?_) (fun hb => ?_) | (refine r_ret (vs := ?_) ?_ ?_; rotate_left 1; (· simp only [resV, ev, Zb, reduceIte, Nat.reduceEqDiff, Zj, *]; rfl)) | (with_reducible exact within_ok _ _ _ _) | ((with_reducible refine containsInt_ok ?_ _ _ _ ?_ ?_); rotate_left 1; (· first | assumption | exact Sl.sub ‹_› (by first | assumption | exact Sub.refl _ | exact Sub.app ‹_› _ | exact Sub.app (Sub.refl _) _)); (· first | omega | (simp only [Z2]; omega))) | ((with_reducible refine goodNet_ok n _ I _ ?_ ?_ ?_); (· first | assumption | exact Sub.refl _ | exact Sub.app ‹_› _ | exact Sub.app (Sub.refl _) _); (· assumption); (· assumption)) | ((with_reducible refine implOnWay_ok n _ I _ _ _ ?_ ?_ ?_ ?_ ?_ ?_); (· first | assumption | exact Sub.refl _ | exact Sub.app ‹_› _ | exact Sub.app (Sub.refl _) _); (· assumption); (· assumption); (· assumption); (· first | omega | (simp only [Z2]; omega)); (· first | omega | (simp only [Z2]; omega))) | ((with_reducible refine Z2w (n := 88) ?_); rintro _ _ ⟨w1, w2, E1, rfl, rfl⟩) | ((with_reducible refine Z2w ?_); rintro _ _ ⟨rfl, hh⟩; replace hh := hh.symm; subst hh))
    exact ⟨by simp only [oneOf, flowOk, hwo, Bool.false_and], _, rfl⟩
theorem specGoodFlow_ok (n : NetM) (x y : Int) (vt : Value) (I h : Heap) (hI : Sub I h) (hs : RTrs I vt n.trans) (hsm : n.small) :
    ACalls Try.prog 0 44 #[.agg #[.int .i64 n.places, vt, .int .i64 x, .int .i64 y]] h
    fun v h' => v = .bool (flowOk ⟨n, x, y⟩) ∧ h' = h := by
  refine acalls_pure (.inl rfl) ?_
  have hfl := hs.flat
  obtain ⟨b, c, rfl, hc, hrow⟩ := hs.form
  have hlen := hsm.1
  rcases Bool.eq_false_or_eq_true (wayOk n x y) with hwo | hwo
  · refine Z36 Try.func44 rfl Try.ntmps44 (by simp) (by dsimp only [Try.f44]) ?_
    repeat' (first | ((with_reducible refine eq_go ?_); simp only [stp, ev, ZB, reduceIte, Nat.reduceEqDiff, Z2x, Z13, Zy, Ze, ZH, ldv, stv, vcs, fldA, idxA, blt, lenV, Z10, Zg, Z14, Zw, Z33, Nat.reduceAdd, Nat.reduceMul, Nat.reduceLeDiff, splice, newB, Ty.t3, Ty.t68, Ty.t70, Ty.t72, Ty.t86, Ty.t95, *]; rfl) | (with_reducible first | refine aw_then ?_ | refine aw_skip ?_ | refine aw_ret ?_ | refine aw_exit ?_ | refine aw_block ?_ | refine xr_reg (by decide +kernel) ?_ | refine xr_nil ?_ | refine k_norm ?_ | refine k_ret ?_ | refine k_exit ?_ | refine b_norm ?_ | refine b_ret ?_ | refine b_exit ?_ | refine b_past (by decide) ?_) | (refine Ty.c57 (args := ?_) (K := ?_) ?_ ?_ ?_; rotate_left 2) | (refine Ty.c62 (args := ?_) (K := ?_) ?_ ?_ ?_; rotate_left 2) | (refine xr_do (v := ?_) (h' := ?_) (by exact rfl) ?_ ?_; rotate_left 2) | (refine xr_st (v := ?_) (h' := ?_) (by exact rfl) ?_ ?_; rotate_left 2) | (refine xr_g (b := ?_) (by exact rfl) ?_ ?_; rotate_left 1; (· simp only [ev, Zb, reduceIte, Nat.reduceEqDiff, Z8, Z5, *]; rfl)) | (with_reducible first | refine gw_tt ?_ | refine gw_ff ?_ | refine gw_tf ?_ | refine gw_ft ?_ | refine gw_un ?_) | refine gw_if (fun hb => ?_) (fun hb => ?_) | (refine aw_c (b := ?_) (by decide) ?_ ?_; rotate_left 1; (· simp only [ev, Zb, reduceIte, Nat.reduceEqDiff, *]; rfl)) | (with_reducible first | refine cw_t ?_ | refine cw_f ?_) | refine cw_if (fun hb => ?_) (fun hb => ?_) | (refine r_ret (vs := ?_) ?_ ?_; rotate_left 1; (· simp only [resV, ev, Zb, reduceIte, Nat.reduceEqDiff, Zj, *]; rfl)) | ((with_reducible refine l1Has_ok ?_ _ _ _ ?_ ?_); rotate_left 1; (· first | assumption | exact Sl.sub ‹_› (by first | assumption | exact Sub.refl _ | exact Sub.app ‹_› _ | exact Sub.app (Sub.refl _) _)); (· first | omega | (simp only [Z2]; omega))) | ((with_reducible refine specOnWay_ok n _ I _ _ _ ?_ ?_ ?_); (· first | assumption | exact Sub.refl _ | exact Sub.app ‹_› _ | exact Sub.app (Sub.refl _) _); (· assumption); (· assumption)) | ((with_reducible refine Z2w (n := 62) ?_); rintro _ _ ⟨w1, w2, n1, n2, E1, rfl, rfl, hway⟩) | ((with_reducible refine Z2w ?_); rintro _ _ ⟨rfl, hh⟩; replace hh := hh.symm; subst hh))
    iterate 3
      · obtain ⟨rfl, rfl⟩ := hway hwo
        refine ⟨?_, _, rfl⟩
        rw [show flowOk ⟨n, x, y⟩ = false from ?_]; rfl
        simp only [flowOk]
        simp_all
    obtain ⟨rfl, rfl⟩ := hway hwo
    clear hway
    have hhead : (!decide (x = y)) = true ∧ decide (((wayP n x y).length : Int) = n.places) = true ∧ decide (((wayT n x y).length : Int) = n.trans.length) = true := by simp_all
    obtain ⟨g1, g2, g3⟩ := hhead
    refine aw_for [1, 47, 48] (fun k T h' => (∃ L, h' = h ++ ⟨2, 1, [.int .i64 n.places, .slice b n.trans.length c, .int .i64 x, .int .i64 y]⟩ :: L) ∧ T 49 = .int .i64 k ∧ (n.trans.take k).all (trFlow x y) = true) n.trans.length (k0 := 0) (Nat.zero_le _) ⟨⟨_, rfl⟩, rfl, rfl⟩ ?_
    rintro k T h' hk hR ⟨⟨L, rfl⟩, h49, hall⟩
    simp only [Z37, Z38, Z39, implies_true, and_true, stp, ev, ZB, reduceIte, Nat.reduceEqDiff, Z2x, Z13, Zy] at hR
    clear hb
    rcases Nat.lt_or_ge k n.trans.length with hkn | hkn
    · have h1 : (k : Int) < n.trans.length := by omega
      obtain ⟨a, row, rfl, hrl, hrt, hld0⟩ := hrow k hkn
      obtain ⟨u, v, w, rfl, q1, q2, q3⟩ := hrt
      obtain ⟨s1, s2, s3⟩ := hsm.2 n.trans[k] (List.getElem_mem hkn)
      have hld := fun L => hld0 _ (hI.app L)
      have f1 := q1.flat
      have f2 := q2.flat
      have f3 := q3.flat
      have hgood := all_step (p := trFlow x y) hkn hall
      have hbad := all_bad (p := trFlow x y) hkn
      clear hrow hld0
      generalize n.trans[k] = t at *
      clear g1 g2 g3
      repeat' (first | ((with_reducible refine eq_go ?_); simp only [stp, ev, ZB, reduceIte, Nat.reduceEqDiff, Z2x, Z13, Zy, Ze, ZH, ldv, stv, vcs, fldA, idxA, blt, lenV, Z10, Zg, Z14, Zw, Z33, Nat.reduceAdd, Nat.reduceMul, Nat.reduceLeDiff, splice, newB, Ty.t3, Ty.t68, Ty.t70, Ty.t72, Ty.t86, Ty.t95, *]; rfl) | (with_reducible first | refine aw_then ?_ | refine aw_skip ?_ | refine aw_ret ?_ | refine aw_exit ?_ | refine aw_block ?_ | refine xr_reg (by decide +kernel) ?_ | refine xr_nil ?_ | refine k_norm ?_ | refine k_ret ?_ | refine k_exit ?_ | refine b_norm ?_ | refine b_ret ?_ | refine b_exit ?_ | refine b_past (by decide) ?_) | (refine Ty.c57 (args := ?_) (K := ?_) ?_ ?_ ?_; rotate_left 2) | (refine Ty.c62 (args := ?_) (K := ?_) ?_ ?_ ?_; rotate_left 2) | (refine xr_do (v := ?_) (h' := ?_) (by exact rfl) ?_ ?_; rotate_left 2) | (refine xr_st (v := ?_) (h' := ?_) (by exact rfl) ?_ ?_; rotate_left 2) | (refine xr_g (b := ?_) (by exact rfl) ?_ ?_; rotate_left 1; (· simp only [ev, Zb, reduceIte, Nat.reduceEqDiff, Z8, Z5, *]; rfl)) | (with_reducible first | refine gw_tt ?_ | refine gw_ff ?_ | refine gw_tf ?_ | refine gw_ft ?_ | refine gw_un ?_) | refine gw_if (fun hb => ?_) (fun hb => ?_) | (refine aw_c (b := ?_) (by decide) ?_ ?_; rotate_left 1; (· simp only [ev, Zb, reduceIte, Nat.reduceEqDiff, *]; rfl)) | (with_reducible first | refine cw_t ?_ | refine cw_f ?_) | refine cw_if (fun hb => ?_) (fun hb => ?_) | (refine r_ret (vs := ?_) ?_ ?_; rotate_left 1; (· simp only [resV, ev, Zb, reduceIte, Nat.reduceEqDiff, Zj, *]; rfl)) | ((with_reducible refine l1Has_ok ?_ _ _ _ ?_ ?_); rotate_left 1; (· first | assumption | exact Sl.sub ‹_› (by first | assumption | exact Sub.refl _ | exact Sub.app ‹_› _ | exact Sub.app (Sub.refl _) _)); (· first | omega | (simp only [Z2]; omega))) | ((with_reducible refine specOnWay_ok n _ I _ _ _ ?_ ?_ ?_); (· first | assumption | exact Sub.refl _ | exact Sub.app ‹_› _ | exact Sub.app (Sub.refl _) _); (· assumption); (· assumption)) | ((with_reducible refine Z2w (n := 62) ?_); rintro _ _ ⟨w1, w2, n1, n2, E1, rfl, rfl, hway⟩) | ((with_reducible refine Z2w ?_); rintro _ _ ⟨rfl, hh⟩; replace hh := hh.symm; subst hh))
      iterate 4
        · refine ⟨?_, _, rfl⟩
          rw [show flowOk ⟨n, x, y⟩ = false from ?_]; rfl
          simp only [flowOk]
          rw [hbad (by simp_all [trFlow])]
          simp only [Bool.false_and, Bool.and_false]
      refine ⟨by first | assumption | omega, ?_, ?_⟩
      · simp only [Z37, Z38, Z39, implies_true, and_true, ZB, stp, ev, reduceIte, Nat.reduceEqDiff, Z2x, Z13, Zy, *]
      refine ⟨⟨_, rfl⟩, ?_, ?_⟩
      · simp only [Zb, reduceIte, Nat.reduceEqDiff]
        rw [wrap_id (by omega)]; rfl
      · exact hgood (by simp_all [trFlow])
    · have h1 : ¬ (k : Int) < n.trans.length := by omega
      rw [List.take_of_length_le hkn] at hall
      clear hrow
      repeat' (first | ((with_reducible refine eq_go ?_); simp only [stp, ev, ZB, reduceIte, Nat.reduceEqDiff, Z2x, Z13, Zy, Ze, ZH, ldv, stv, vcs, fldA, idxA, blt, lenV, Z10, Zg, Z14, Zw, Z33, Nat.reduceAdd, Nat.reduceMul, Nat.reduceLeDiff, splice, newB, Ty.t3, Ty.t68, Ty.t70, Ty.t72, Ty.t86, Ty.t95, *]; rfl) | (with_reducible first | refine aw_then ?_ | refine aw_skip ?_ | refine aw_ret ?_ | refine aw_exit ?_ | refine aw_block ?_ | refine xr_reg (by decide +kernel) ?_ | refine xr_nil ?_ | refine k_norm ?_ | refine k_ret ?_ | refine k_exit ?_ | refine b_norm ?_ | refine b_ret ?_ | refine b_exit ?_ | refine b_past (by decide) ?_) | (refine Ty.c57 (args := ?_) (K := ?_) ?_ ?_ ?_; rotate_left 2) | (refine Ty.c62 (args := ?_) (K := ?_) ?_ ?_ ?_; rotate_left 2) | (refine xr_do (v := ?_) (h' := ?_) (by exact rfl) ?_ ?_; rotate_left 2) | (refine xr_st (v := ?_) (h' := ?_) (by exact rfl) ?_ ?_; rotate_left 2) | (refine xr_g (b := ?_) (by exact rfl) ?_ ?_; rotate_left 1; (· simp only [ev, Zb, reduceIte, Nat.reduceEqDiff, Z8, Z5, *]; rfl)) | (with_reducible first | refine gw_tt ?_ | refine gw_ff ?_ | refine gw_tf ?_ | refine gw_ft ?_ | refine gw_un ?_) | refine gw_if (fun hb => ?_) (fun hb => ?_) | (refine aw_c (b := ?_) (by decide) ?_ ?_; rotate_left 1; (· simp only [ev, Zb, reduceIte, Nat.reduceEqDiff, *]; rfl)) | (with_reducible first | refine cw_t ?_ | refine cw_f ?_) | refine cw_if (fun hb => ?_) (fun hb => ?_) | (refine r_ret (vs := ?_) ?_ ?_; rotate_left 1; (· simp only [resV, ev, Zb, reduceIte, Nat.reduceEqDiff, Zj, *]; rfl)) | ((with_reducible refine l1Has_ok ?_ _ _ _ ?_ ?_); rotate_left 1; (· first | assumption | exact Sl.sub ‹_› (by first | assumption | exact Sub.refl _ | exact Sub.app ‹_› _ | exact Sub.app (Sub.refl _) _)); (· first | omega | (simp only [Z2]; omega))) | ((with_reducible refine specOnWay_ok n _ I _ _ _ ?_ ?_ ?_); (· first | assumption | exact Sub.refl _ | exact Sub.app ‹_› _ | exact Sub.app (Sub.refl _) _); (· assumption); (· assumption)) | ((with_reducible refine Z2w (n := 62) ?_); rintro _ _ ⟨w1, w2, n1, n2, E1, rfl, rfl, hway⟩) | ((with_reducible refine Z2w ?_); rintro _ _ ⟨rfl, hh⟩; replace hh := hh.symm; subst hh))
      exact ⟨by simp only [oneOf, flowOk, hwo, hall, g1, g2, g3, Z1e], _, rfl⟩
  · refine Z36 Try.func44 rfl Try.ntmps44 (by simp) (by dsimp only [Try.f44]) ?_
    repeat' (first | ((with_reducible refine eq_go ?_); simp only [stp, ev, ZB, reduceIte, Nat.reduceEqDiff, Z2x, Z13, Zy, Ze, ZH, ldv, stv, vcs, fldA, idxA, blt, lenV, Z10, Zg, Z14, Zw, Z33, Nat.reduceAdd, Nat.reduceMul, Nat.reduceLeDiff, splice, newB, Ty.t3, Ty.t68, Ty.t70, Ty.t72, Ty.t86, Ty.t95, *]; rfl) | (with_reducible first | refine aw_then ?_ | refine aw_skip ?_ | refine aw_ret ?_ | refine aw_exit ?_ | refine aw_block ?_ | refine xr_reg (by decide +kernel) ?_ | refine xr_nil ?_ | refine k_norm ?_ | refine k_ret ?_ | refine k_exit ?_ | refine b_norm ?_ | refine b_ret ?_ | refine b_exit ?_ | refine b_past (by decide) ?_) | (refine Ty.c57 (args := ?_) (K := ?_) ?_ ?_ ?_; rotate_left 2) | (refine Ty.c62 (args := ?_) (K := ?_) ?_ ?_ ?_; rotate_left 2) | (refine xr_do (v := ?_) (h' := ?_) (by exact rfl) ?_ ?_; rotate_left 2) | (refine xr_st (v := ?_) (h' := ?_) (by exact rfl) ?_ ?_; rotate_left 2) | (refine xr_g (b := ?_) (by exact rfl) ?_ ?_; rotate_left 1; (· simp only [ev, Zb, reduceIte, Nat.reduceEqDiff, Z8, Z5, *]; rfl)) | (with_reducible first | refine gw_tt ?_ | refine gw_ff ?_ | refine gw_tf ?_ | refine gw_ft ?_ | refine gw_un ?_) | refine gw_if (fun hb => ?_) (fun hb => ?_) | (refine aw_c (b := ?_) (by decide) ?_ ?_; rotate_left 1; (· simp only [ev, Zb, reduceIte, Nat.reduceEqDiff, *]; rfl)) | (with_reducible first | refine cw_t ?_ | refine cw_f ?_) | refine cw_if (fun hb => ?_) (fun hb => ?_) | (refine r_ret (vs := ?_) ?_ ?_; rotate_left 1; (· simp only [resV, ev, Zb, reduceIte, Nat.reduceEqDiff, Zj, *]; rfl)) | ((with_reducible refine l1Has_ok ?_ _ _ _ ?_ ?_); rotate_left 1; (· first | assumption | exact Sl.sub ‹_› (by first | assumption | exact Sub.refl _ | exact Sub.app ‹_› _ | exact Sub.app (Sub.refl _) _)); (· first | omega | (simp only [Z2]; omega))) | ((with_reducible refine specOnWay_ok n _ I _ _ _ ?_ ?_ ?_); (· first | assumption | exact Sub.refl _ | exact Sub.app ‹_› _ | exact Sub.app (Sub.refl _) _); (· assumption); (· assumption)) | ((with_reducible refine Z2w (n := 62) ?_); rintro _ _ ⟨w1, w2, n1, n2, E1, rfl, rfl, hway⟩) | ((with_reducible refine Z2w ?_); rintro _ _ ⟨rfl, hh⟩; replace hh := hh.symm; subst hh))
    exact ⟨by simp only [oneOf, flowOk, hwo, Bool.false_and], _, rfl⟩
end Go.Proofs.Ytmjhfklmlcnofaa.Am
namespace Go.Proofs.Ytmjhfklmlcnofaa.Am
open Go Go.Proofs
set_option linter.unusedVariables false
set_option linter.unusedSimpArgs false
set_option maxRecDepth 100000
set_option maxHeartbeats 8000000
/-- Tasks and specifications. -/
structure TaskM where
  join : Int
  split : Int
  inn : List Int
  out : List Int
  cuts : List Int
  stops : List Int
  role : Int
  cn : Bool
structure SpecM where
  conds : Int
  tasks : List TaskM
def TaskM.nil : TaskM := ⟨0, 0, [], [], [], [], 0, false⟩
def nilB : Value → Bool
  | .slice none _ _ => true
  | _ => false
def RTask (h : Heap) (r : List Value) (t : TaskM) : Prop := ∃ a b c d, r = [.int .i64 t.join, .int .i64 t.split, a, b, c, d, .int .i64 t.role] ∧ Sl h a 1 (ints t.inn) ∧ Sl h b 1 (ints t.out) ∧ Sl h c 1 (ints t.cuts) ∧ Sl h d 1 (ints t.stops) ∧ nilB c = t.cn
theorem RTask.sub {I h : Heap} {r : List Value} {t : TaskM} (q : RTask I r t) (s : Sub I h) : RTask h r t := by
  obtain ⟨a, b, c, d, rfl, h1, h2, h3, h4, h5⟩ := q
  exact ⟨a, b, c, d, rfl, h1.sub s, h2.sub s, h3.sub s, h4.sub s, h5⟩
abbrev RTasks := RS RTask 7
theorem RTasks.sub {I h : Heap} {v : Value} {l : List TaskM} (q : RTasks I v l) (s : Sub I h) : RTasks h v l := RS.mono q s fun r x hr => hr.sub s
def TaskM.small (t : TaskM) : Prop := t.inn.length ≤ 1048576 ∧ t.out.length ≤ 1048576 ∧ t.cuts.length ≤ 1048576 ∧ t.stops.length ≤ 1048576
def SpecM.small (s : SpecM) : Prop := s.tasks.length ≤ 1048576 ∧ ∀ t ∈ s.tasks, t.small
def taskOk (c : Int) (n : Nat) (k : Nat) (t : TaskM) : Bool :=
  decide (1 ≤ t.join ∧ t.join ≤ 2) && (decide (1 ≤ t.split ∧ t.split ≤ 3) && (decide (0 ≤ t.role ∧ t.role ≤ 3) &&
  (decide (1 ≤ (t.inn.length : Int) ∧ (t.inn.length : Int) ≤ 3) && (rise t.inn 0 (c - 1) && (decide (1 ≤ (t.out.length : Int) ∧ (t.out.length : Int) ≤ 3) && (rise t.out 0 (c - 1) &&
  (rise t.cuts 2 (c - 1) && (rise t.stops 0 ((n : Int) - 1) && !hasI t.stops k))))))))
theorem areConds_ok (c : Int) (vt : Value) (l : List Int) (first : Int) (h : Heap) (v : Value) (hs : Sl h v 1 (ints l)) (hb : l.length ≤ 1048576) (hc : 0 ≤ c ∧ c ≤ 100) (hf : flat vt = true) :
    ACalls Try.prog 0 83 #[.agg #[.int .i64 c, vt], v, .int .i64 first] h
    fun v h' => v = .bool (rise l first (c - 1)) ∧ h' = h := by
  refine acalls_pure (.inl rfl) ?_
  have hw : IntKind.i64.wrap (c - 1) = c - 1 := wrap_id (by omega)
  refine Z36 Try.func83 rfl Try.ntmps83 (by simp) (by dsimp only [Try.f83]) ?_
  repeat' (first | ((with_reducible refine eq_go ?_); simp only [stp, ev, ZB, reduceIte, Nat.reduceEqDiff, Z2x, Z13, Zy, ldv, fldA, blt, lenV, Z10, ZH, Zg, Ze, Z14, Zw, Z33, Nat.reduceAdd, Nat.reduceMul, Nat.reduceLeDiff, splice, newB, vcs, Ty.t3, Ty.t30, Ty.t32, Ty.t86, Ty.t89, *]; rfl) | (with_reducible first | refine aw_then ?_ | refine aw_skip ?_ | refine aw_ret ?_ | refine aw_exit ?_ | refine aw_block ?_ | refine xr_reg (by decide +kernel) ?_ | refine xr_nil ?_ | refine k_norm ?_ | refine k_ret ?_ | refine k_exit ?_ | refine b_norm ?_ | refine b_ret ?_ | refine b_exit ?_ | refine b_past (by decide) ?_) | (refine Ty.c84 (args := ?_) (K := ?_) ?_ ?_ ?_; rotate_left 2) | (refine Ty.c85 (args := ?_) (K := ?_) ?_ ?_ ?_; rotate_left 2) | (refine xr_do (v := ?_) (h' := ?_) (by exact rfl) ?_ ?_; rotate_left 2) | (refine xr_st (v := ?_) (h' := ?_) (by exact rfl) ?_ ?_; rotate_left 2) | (refine xr_g (b := ?_) (by exact rfl) ?_ ?_; rotate_left 1; (· simp only [ev, Zb, reduceIte, Nat.reduceEqDiff, Z8, Z5, *]; rfl)) | (with_reducible first | refine gw_tt ?_ | refine gw_ff ?_ | refine gw_tf ?_ | refine gw_ft ?_ | refine gw_un ?_) | refine gw_if (fun hb => ?_) (fun hb => ?_) | (refine aw_c (b := ?_) (by decide) ?_ ?_; rotate_left 1; (· simp only [ev, Zb, reduceIte, Nat.reduceEqDiff, *]; rfl)) | (with_reducible first | refine cw_t ?_ | refine cw_f ?_) | refine cw_if (fun hb => ?_) (fun hb => ?_) | (refine r_ret (vs := ?_) ?_ ?_; rotate_left 1; (· simp only [resV, ev, Zb, reduceIte, Nat.reduceEqDiff, Zj, *]; rfl)) | ((with_reducible refine increasing_ok ?_ _ _ ?_ ?_); rotate_left 1; (· first | assumption | exact Sl.sub ‹_› (by first | assumption | exact Sub.refl _ | exact Sub.app ‹_› _ | exact Sub.app (Sub.refl _) _)); (· first | omega | (simp only [Z2]; omega))) | ((with_reducible refine allWithin_ok ?_ _ _ _ _ ?_ ?_); rotate_left 1; (· first | assumption | exact Sl.sub ‹_› (by first | assumption | exact Sub.refl _ | exact Sub.app ‹_› _ | exact Sub.app (Sub.refl _) _)); (· first | omega | (simp only [Z2]; omega))) | ((with_reducible refine Z2w ?_); rintro _ _ ⟨rfl, hh⟩; replace hh := hh.symm; subst hh))
  all_goals refine ⟨?_, _, rfl⟩
  all_goals simp only [oneOf, rise, *, Bool.true_and, Bool.false_and]
theorem isTask_ok (s : SpecM) (k : Nat) (vt : Value) (I h : Heap) (hI : Sub I h) (hs : RTasks I vt s.tasks) (hsm : s.small) (hc : 2 ≤ s.conds ∧ s.conds ≤ 8) (hk : k < s.tasks.length) :
    ACalls Try.prog 0 64 #[.agg #[.int .i64 s.conds, vt], .int .i64 k] h
    fun v h' => v = .bool (taskOk s.conds s.tasks.length k (s.tasks.getD k TaskM.nil)) ∧ h' = h := by
  refine acalls_pure (.inl rfl) ?_
  have hfl := hs.flat
  obtain ⟨b, c, rfl, hcc, hrow⟩ := hs.form
  have hlen := hsm.1
  have h1 : (k : Int) < s.tasks.length := by omega
  obtain ⟨a, row, rfl, hrl, hrt, hld0⟩ := hrow k hk
  obtain ⟨x, y, z, w, rfl, q1, q2, q3, q4, _⟩ := hrt
  obtain ⟨s1, s2, s3, s4⟩ := hsm.2 s.tasks[k] (List.getElem_mem hk)
  have hld := fun L => hld0 _ (hI.app L)
  have f1 := q1.flat
  have f2 := q2.flat
  have f3 := q3.flat
  have f4 := q4.flat
  obtain ⟨x1, x2, rfl, _, _⟩ := _root_.id q1
  obtain ⟨y1, y2, rfl, _, _⟩ := _root_.id q2
  simp only [ints_length] at hld f1 f2 q1 q2
  rw [show s.tasks.getD k TaskM.nil = s.tasks[k] by rw [List.getD_eq_getElem?_getD, List.getElem?_eq_getElem hk]; rfl]
  have hwn : IntKind.i64.wrap ((s.tasks.length : Int) - 1) = (s.tasks.length : Int) - 1 := wrap_id (by omega)
  clear hrow hld0
  generalize s.tasks[k] = t at *
  refine Z36 Try.func64 rfl Try.ntmps64 (by simp) (by dsimp only [Try.f64]) ?_
  repeat' (first | ((with_reducible refine eq_go ?_); simp only [stp, ev, ZB, reduceIte, Nat.reduceEqDiff, Z2x, Z13, Zy, ldv, stv, vcs, fldA, idxA, blt, lenV, Z10, ZH, Zg, Ze, Z14, Zw, Z33, Nat.reduceAdd, Nat.reduceMul, Nat.reduceLeDiff, splice, newB, Ty.t3, Ty.t30, Ty.t32, Ty.t86, Ty.t89, *]; rfl) | (with_reducible first | refine aw_then ?_ | refine aw_skip ?_ | refine aw_ret ?_ | refine aw_exit ?_ | refine aw_block ?_ | refine xr_reg (by decide +kernel) ?_ | refine xr_nil ?_ | refine k_norm ?_ | refine k_ret ?_ | refine k_exit ?_ | refine b_norm ?_ | refine b_ret ?_ | refine b_exit ?_ | refine b_past (by decide) ?_) | (refine Ty.c53 (args := ?_) (K := ?_) ?_ ?_ ?_; rotate_left 2) | (refine Ty.c83 (args := ?_) (K := ?_) ?_ ?_ ?_; rotate_left 2) | (refine Ty.c84 (args := ?_) (K := ?_) ?_ ?_ ?_; rotate_left 2) | (refine Ty.c85 (args := ?_) (K := ?_) ?_ ?_ ?_; rotate_left 2) | (refine Ty.c86 (args := ?_) (K := ?_) ?_ ?_ ?_; rotate_left 2) | (refine xr_do (v := ?_) (h' := ?_) (by exact rfl) ?_ ?_; rotate_left 2) | (refine xr_st (v := ?_) (h' := ?_) (by exact rfl) ?_ ?_; rotate_left 2) | (refine xr_g (b := ?_) (by exact rfl) ?_ ?_; rotate_left 1; (· simp only [ev, Zb, reduceIte, Nat.reduceEqDiff, Z8, Z5, *]; rfl)) | (with_reducible first | refine gw_tt ?_ | refine gw_ff ?_ | refine gw_tf ?_ | refine gw_ft ?_ | refine gw_un ?_) | refine gw_if (fun hb => ?_) (fun hb => ?_) | (refine aw_c (b := ?_) (by decide) ?_ ?_; rotate_left 1; (· simp only [ev, Zb, reduceIte, Nat.reduceEqDiff, *]; rfl)) | (with_reducible first | refine cw_t ?_ | refine cw_f ?_) | refine cw_if (fun hb => ?_) (fun hb => ?_) | (refine r_ret (vs := ?_) ?_ ?_; rotate_left 1; (· simp only [resV, ev, Zb, reduceIte, Nat.reduceEqDiff, Zj, *]; rfl)) | (with_reducible exact within_ok _ _ _ _) | ((with_reducible refine areConds_ok _ _ ?_ _ _ _ ?_ ?_ ?_ ?_); rotate_left 1; (· first | assumption | exact Sl.sub ‹_› (by first | assumption | exact Sub.refl _ | exact Sub.app ‹_› _ | exact Sub.app (Sub.refl _) _)); (· first | omega | (simp only [Z2]; omega)); (· first | omega | (simp only [Z2]; omega)); (· first | assumption | exact Sl.flat (by assumption) | exact RS.flat (by assumption))) | ((with_reducible refine increasing_ok ?_ _ _ ?_ ?_); rotate_left 1; (· first | assumption | exact Sl.sub ‹_› (by first | assumption | exact Sub.refl _ | exact Sub.app ‹_› _ | exact Sub.app (Sub.refl _) _)); (· first | omega | (simp only [Z2]; omega))) | ((with_reducible refine allWithin_ok ?_ _ _ _ _ ?_ ?_); rotate_left 1; (· first | assumption | exact Sl.sub ‹_› (by first | assumption | exact Sub.refl _ | exact Sub.app ‹_› _ | exact Sub.app (Sub.refl _) _)); (· first | omega | (simp only [Z2]; omega))) | ((with_reducible refine containsInt_ok ?_ _ _ _ ?_ ?_); rotate_left 1; (· first | assumption | exact Sl.sub ‹_› (by first | assumption | exact Sub.refl _ | exact Sub.app ‹_› _ | exact Sub.app (Sub.refl _) _)); (· first | omega | (simp only [Z2]; omega))) | ((with_reducible refine Z2w ?_); rintro _ _ ⟨rfl, hh⟩; replace hh := hh.symm; subst hh))
  all_goals refine ⟨?_, _, rfl⟩
  all_goals (try simp only [Bool.not_eq_true', Bool.not_eq_false'] at *)
  all_goals simp only [oneOf, taskOk, *, Bool.true_and, Bool.false_and, Bool.and_false, Z8, Z5]
  all_goals (try simp only [rise, *, Bool.true_and, Bool.false_and, Bool.and_false])
theorem l13Task_ok (s : SpecM) (k : Nat) (vt : Value) (I h : Heap) (hI : Sub I h) (hs : RTasks I vt s.tasks) (hsm : s.small) (hc : 2 ≤ s.conds ∧ s.conds ≤ 8) (hk : k < s.tasks.length) :
    ACalls Try.prog 0 42 #[.agg #[.int .i64 s.conds, vt], .int .i64 k] h
    fun v h' => v = .bool (taskOk s.conds s.tasks.length k (s.tasks.getD k TaskM.nil)) ∧ h' = h := by
  refine acalls_pure (.inl rfl) ?_
  have hfl := hs.flat
  obtain ⟨b, c, rfl, hcc, hrow⟩ := hs.form
  have hlen := hsm.1
  have h1 : (k : Int) < s.tasks.length := by omega
  obtain ⟨a, row, rfl, hrl, hrt, hld0⟩ := hrow k hk
  obtain ⟨x, y, z, w, rfl, q1, q2, q3, q4, _⟩ := hrt
  obtain ⟨s1, s2, s3, s4⟩ := hsm.2 s.tasks[k] (List.getElem_mem hk)
  have hld := fun L => hld0 _ (hI.app L)
  have f1 := q1.flat
  have f2 := q2.flat
  have f3 := q3.flat
  have f4 := q4.flat
  obtain ⟨x1, x2, rfl, _, _⟩ := _root_.id q1
  obtain ⟨y1, y2, rfl, _, _⟩ := _root_.id q2
  simp only [ints_length] at hld f1 f2 q1 q2
  rw [show s.tasks.getD k TaskM.nil = s.tasks[k] by rw [List.getD_eq_getElem?_getD, List.getElem?_eq_getElem hk]; rfl]
  have hwc : IntKind.i64.wrap (s.conds - 1) = s.conds - 1 := wrap_id (by omega)
  have hwn : IntKind.i64.wrap ((s.tasks.length : Int) - 1) = (s.tasks.length : Int) - 1 := wrap_id (by omega)
  clear hrow hld0
  generalize s.tasks[k] = t at *
  refine Z36 Try.func42 rfl Try.ntmps42 (by simp) (by dsimp only [Try.f42]) ?_
  repeat' (first | ((with_reducible refine eq_go ?_); simp only [stp, ev, ZB, reduceIte, Nat.reduceEqDiff, Z2x, Z13, Zy, ldv, stv, vcs, fldA, idxA, blt, lenV, Z10, ZH, Zg, Ze, Z14, Zw, Z33, Nat.reduceAdd, Nat.reduceMul, Nat.reduceLeDiff, splice, newB, Ty.t3, Ty.t30, Ty.t32, Ty.t86, Ty.t89, *]; rfl) | (with_reducible first | refine aw_then ?_ | refine aw_skip ?_ | refine aw_ret ?_ | refine aw_exit ?_ | refine aw_block ?_ | refine xr_reg (by decide +kernel) ?_ | refine xr_nil ?_ | refine k_norm ?_ | refine k_ret ?_ | refine k_exit ?_ | refine b_norm ?_ | refine b_ret ?_ | refine b_exit ?_ | refine b_past (by decide) ?_) | (refine Ty.c40 (args := ?_) (K := ?_) ?_ ?_ ?_; rotate_left 2) | (refine Ty.c57 (args := ?_) (K := ?_) ?_ ?_ ?_; rotate_left 2) | (refine Ty.c58 (args := ?_) (K := ?_) ?_ ?_ ?_; rotate_left 2) | (refine xr_do (v := ?_) (h' := ?_) (by exact rfl) ?_ ?_; rotate_left 2) | (refine xr_st (v := ?_) (h' := ?_) (by exact rfl) ?_ ?_; rotate_left 2) | (refine xr_g (b := ?_) (by exact rfl) ?_ ?_; rotate_left 1; (· simp only [ev, Zb, reduceIte, Nat.reduceEqDiff, Z8, Z5, *]; rfl)) | (with_reducible first | refine gw_tt ?_ | refine gw_ff ?_ | refine gw_tf ?_ | refine gw_ft ?_ | refine gw_un ?_) | refine gw_if (fun hb => ?_) (fun hb => ?_) | (refine aw_c (b := ?_) (by decide) ?_ ?_; rotate_left 1; (· simp only [ev, Zb, reduceIte, Nat.reduceEqDiff, *]; rfl)) | (with_reducible first | refine cw_t ?_ | refine cw_f ?_) | refine cw_if (fun hb => ?_) (fun hb => ?_) | (refine r_ret (vs := ?_) ?_ ?_; rotate_left 1; (· simp only [resV, ev, Zb, reduceIte, Nat.reduceEqDiff, Zj, *]; rfl)) | (with_reducible exact l1In_ok _ _ _ _) | ((with_reducible refine l1Has_ok ?_ _ _ _ ?_ ?_); rotate_left 1; (· first | assumption | exact Sl.sub ‹_› (by first | assumption | exact Sub.refl _ | exact Sub.app ‹_› _ | exact Sub.app (Sub.refl _) _)); (· first | omega | (simp only [Z2]; omega))) | ((with_reducible refine l1Rising_ok ?_ _ _ _ _ ?_ ?_); rotate_left 1; (· first | assumption | exact Sl.sub ‹_› (by first | assumption | exact Sub.refl _ | exact Sub.app ‹_› _ | exact Sub.app (Sub.refl _) _)); (· first | omega | (simp only [Z2]; omega))) | ((with_reducible refine Z2w ?_); rintro _ _ ⟨rfl, hh⟩; replace hh := hh.symm; subst hh))
  all_goals refine ⟨?_, _, rfl⟩
  all_goals (try simp only [Bool.not_eq_true', Bool.not_eq_false'] at *)
  all_goals simp only [oneOf, taskOk, *, Bool.true_and, Bool.false_and, Z1d, Bool.and_false, Z8, Z5]
end Go.Proofs.Ytmjhfklmlcnofaa.Am
