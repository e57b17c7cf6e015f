/- 'FnExactTalkAll': what the program's function and the reference's answer, told over numbers and lists alone, meets the law at every input within the kinds' own bounds; no other condition. -/
import Derived.Test.YtmlejakajcmbdaaQFnExactTalkAllx10
import Derived.Test.YtmlejakajcmbdaaPlain
namespace Go.Proofs.Ytmlejakajcmbdaa.Pure
open Go.RowKit Go.Proofs.Ytmlejakajcmbdaa.PFnExactTalkAll Go.Proofs.Ytmlejakajcmbdaa.Plain Go.Proofs.YtmlejakajcmbdaaW.PrintWords Go.Proofs.YtmlejakajcmbdaaW.PrintLast
set_option linter.unusedVariables false
set_option linter.unusedSimpArgs false

theorem toIntS_ev (l : List Int) (h : l.length ≤ 1048576) : Ev (fun k => laws_toIntS.f k l) l := by
  have := to_loop (fun k acc i => laws_toIntS.l0 k l acc i) id l 0 (fun k acc => by simp [laws_toIntS.l0]) (fun i hi => ⟨0, fun k _ acc hacc => by
    have h1 : (i : Int) < (l.length : Int) := by omega
    have h2 : (0 : Int) ≤ (i : Int) := by omega
    have h3 : (i : Int) < (acc.length : Int) := by omega
    have h4 : rd l (i : Int) = l[i] := by simp [rd, hi]
    simp only [laws_toIntS.l0, h1, h2, h3, h4, if_true, wrap_succ i (by omega), toNat_i]
    rfl⟩)
  rw [List.map_id] at this
  exact Ev.congr (fun k => by
    have h5 : l.length ≤ 100000000 := by omega
    simp only [laws_toIntS.f, toNat_i]
    rw [if_pos (by omega), if_pos (by omega)]) this
theorem eqIntS_ev (l : List Int) (h : l.length < 9223372036854775807) : Ev (fun k => laws_eqIntS.f k l l) true := by
  have := eq_loop (fun k i => laws_eqIntS.l0 k l l i) l.length true (fun k => by simp [laws_eqIntS.l0]) (fun i hi => ⟨0, fun k _ => by
    have h1 : (i : Int) < (l.length : Int) := by omega
    have h2 : (0 : Int) ≤ (i : Int) := by omega
    simp only [laws_eqIntS.l0, h1, h2, if_true, Option.bind_some, wrap_succ i (by omega), bne_self_eq_false, Bool.false_eq_true, if_false]⟩)
  exact Ev.congr (fun k => by simp only [laws_eqIntS.f, if_true]) this
theorem markIntS_at (l : List Int) (h : l.length ≤ 1000000000) (m0 : Int) (h0 : 0 ≤ m0) (hm : m0 ≤ 1000000000000000) : Ev (fun k => laws_markIntS.f k l m0) (m0 + ((1 : Nat) : Int) * (l.length : Int), (List.range l.length).map fun (j : Nat) => id (m0 + ((1 : Nat) : Int) * (j : Int))) := by
  refine mark_loop (fun k ys m i => laws_markIntS.l0 k ys m i) id 1 m0 l (fun k ys m hy => by simp [laws_markIntS.l0, hy]) (fun i hi => ⟨0, fun k _ ys hy => ?_⟩)
  have h1 : (i : Int) < (ys.length : Int) := by omega
  have h2 : (0 : Int) ≤ (i : Int) := by omega
  have hw1 : wrap64 (m0 + 1 * (i : Int) + 1) = m0 + 1 * ((i + 1 : Nat) : Int) := (wrap_in (by omega) (by omega)).trans (by omega)
  simp only [Int.cast_ofNat_Int] at *
  simp only [laws_markIntS.l0, h1, h2, if_true, wrap_succ i (by omega), toNat_i, Option.bind_some, hw1]
  all_goals rfl
theorem markIntS_ev (l : List Int) (h : l.length ≤ 1000000000) : Ev (fun k => laws_markIntS.f k l 1) (1 + ((1 : Nat) : Int) * (l.length : Int), (List.range l.length).map fun (j : Nat) => id (1 + ((1 : Nat) : Int) * (j : Int))) := markIntS_at l h 1 (by omega) (by omega)
theorem heldIntS_at (n : Nat) (h : n ≤ 1000000000) (m0 : Int) (h0 : 0 ≤ m0) (hm : m0 ≤ 1000000000000000) : Ev (fun k => laws_heldIntS.f k ((List.range n).map fun (j : Nat) => id (m0 + ((1 : Nat) : Int) * (j : Int))) m0) (m0 + ((1 : Nat) : Int) * (n : Int)) := by
  refine held_loop (fun k m i => laws_heldIntS.l0 k ((List.range n).map fun (j : Nat) => id (m0 + ((1 : Nat) : Int) * (j : Int))) m i) 1 m0 n _ (fun k => by simp [laws_heldIntS.l0]) (fun i hi => ⟨0, fun k _ => ?_⟩)
  have h1 : (i : Int) < ((((List.range n).map fun (j : Nat) => id (m0 + ((1 : Nat) : Int) * (j : Int))).length : Nat) : Int) := by simp; omega
  have h2 : (0 : Int) ≤ (i : Int) := by omega
  have h3 : rd ((List.range n).map fun (j : Nat) => id (m0 + ((1 : Nat) : Int) * (j : Int))) (i : Int) = id (m0 + ((1 : Nat) : Int) * (i : Int)) := by simp [rd, hi]
  have hw1 : wrap64 (m0 + 1 * (i : Int) + 1) = m0 + 1 * ((i + 1 : Nat) : Int) := (wrap_in (by omega) (by omega)).trans (by omega)
  generalize ((List.range n).map fun (j : Nat) => id (m0 + ((1 : Nat) : Int) * (j : Int))) = L at *
  simp only [Int.cast_ofNat_Int] at *
  simp only [laws_heldIntS.l0, h1, h2, h3, if_true, wrap_succ i (by omega), bne_self_eq_false, Bool.false_eq_true, if_false, id, hw1]

theorem heldIntS_ev (n : Nat) (h : n ≤ 1000000000) : Ev (fun k => laws_heldIntS.f k ((List.range n).map fun (j : Nat) => id (1 + ((1 : Nat) : Int) * (j : Int))) 1) (1 + ((1 : Nat) : Int) * (n : Int)) := heldIntS_at n h 1 (by omega) (by omega)
theorem between_eq (a lo hi : Int) : impl_between.f a lo hi = some (decide (lo ≤ a ∧ a ≤ hi)) := by
  unfold impl_between.f
  split <;> simp <;> omega
theorem l24Sender_eq (w : List Int) (a t : Int) : spec_l24Sender.f w a t = some (decide ((w.length : Int) ≤ 30 ∧ 0 ≤ a ∧ a ≤ (w.length : Int) ∧ 0 ≤ t ∧ t ≤ 30)) := by
  unfold spec_l24Sender.f
  repeat' split
  all_goals refine congrArg some ?_
  all_goals first | (apply decide_eq_decide.2; omega) | (apply Eq.symm; apply decide_eq_false; omega)
theorem send_both (w : List Int) (a t n : Int) (hw : w.length ≤ 1048576) (ha : -9223372036854775808 ≤ a ∧ a < 9223372036854775808) (ht : -9223372036854775808 ≤ t ∧ t < 9223372036854775808) : ∃ r1 r2 r3 r4 r5 r6, (r3 : List Int).length ≤ 1048576 ∧ (r6 = true → r3 = w ∧ r4 = a ∧ 0 ≤ r5 ∧ r5 ≤ 30) ∧ ∀ k, 1 ≤ k → spec_SendNext.f k w a t n = some (r1, r2, r3, r4, r5, r6) ∧ impl_SendNext.f k w a t n = some (r1, r2, r3, r4, r5, r6) := by
  by_cases hv : (w.length : Int) ≤ 30 ∧ 0 ≤ a ∧ a < w.length ∧ 0 ≤ t ∧ t ≤ 30 ∧ 1 ≤ n ∧ n ≤ 10
  · obtain ⟨v1, v2, v3, v4, v5, v6, v7⟩ := hv
    have hwr : wrap64 ((w.length : Int) - a) = (w.length : Int) - a := wrap_in (by omega) (by omega)
    have hwt : wrap64 (t + 1) = t + 1 := wrap_in (by omega) (by omega)
    obtain ⟨m, hm, hm0, hm1⟩ : ∃ m : Int, m = mn n ((w.length : Int) - a) ∧ 0 < m ∧ m ≤ (w.length : Int) - a := ⟨_, rfl, by unfold mn; split <;> omega, by unfold mn; split <;> omega⟩
    have q0 : 0 ≤ Int.tmod t m := Int.tmod_nonneg _ v4
    have q1 : Int.tmod t m < m := Int.tmod_lt_of_pos _ hm0
    have hq : wrap64 (a + Int.tmod t m) = a + Int.tmod t m := wrap_in (by omega) (by omega)
    have g0 : 0 ≤ a + Int.tmod t m := by omega
    have g1 : a + Int.tmod t m < (w.length : Int) := by omega
    have hm2 : ¬ m = 0 := by omega
    have l2 : ([] : List Int).length + w.length < 17592186044416 := by simp; omega
    refine ⟨a + Int.tmod t m, rd w (a + Int.tmod t m), w, a, if t + 1 ≥ 30 then 0 else t + 1, true, hw, fun _ => ⟨rfl, rfl, by split <;> omega, by split <;> omega⟩, fun k hk => ?_⟩
    obtain ⟨k, rfl⟩ : ∃ k', k = k' + 1 := ⟨k - 1, by omega⟩
    have c1 : ((w.length : Int) ≤ 30 ∧ 0 ≤ a ∧ a ≤ (w.length : Int) ∧ 0 ≤ t ∧ t ≤ 30) := by omega
    have c2 : ¬ a = (w.length : Int) := by omega
    have c3 : ¬ n < 1 := by omega
    have c4 : ¬ n > 10 := by omega
    have c5 : ¬ (w.length : Int) > 30 := by omega
    have c6 : ¬ a < 0 := by omega
    have c7 : ¬ (w.length : Int) - a ≤ 0 := by omega
    constructor
    · simp only [spec_SendNext.f, l24Sender_eq, Option.bind_some, decide_eq_true c1, if_true, c2, c3, if_false, decide_eq_false c4, spec_SendNext.j0, Bool.false_eq_true, hwr, hwt]
      by_cases hc : (w.length : Int) - a > n
      · have hmn : m = n := by rw [hm]; unfold mn; rw [if_neg (by omega)]
        rw [hmn] at hq g0 g1 hm2 ⊢
        by_cases h30 : t + 1 ≥ 30
        · simp only [hc, if_true, hm2, if_false, h30, hq, g0, g1, l2, List.nil_append]
        · simp only [hc, if_true, hm2, if_false, h30, hq, g0, g1, l2, List.nil_append]
      · have hmn : m = (w.length : Int) - a := by
          rw [hm]
          unfold mn
          split <;> omega
        rw [hmn] at hq g0 g1 hm2 ⊢
        by_cases h30 : t + 1 ≥ 30
        · simp only [hc, if_true, hm2, if_false, h30, hq, g0, g1, l2, List.nil_append]
        · simp only [hc, if_true, hm2, if_false, h30, hq, g0, g1, l2, List.nil_append]
    · have c8 : (0 : Int) ≤ t ∧ t ≤ 30 := ⟨v4, v5⟩
      have c9 : (1 : Int) ≤ n ∧ n ≤ 10 := ⟨v6, v7⟩
      simp only [impl_SendNext.f, hwr, c5, c6, c7, if_false, between_eq, Option.bind_some, decide_eq_true c8, decide_eq_true c9, if_true, impl_SendNext.j0, Bool.not_true, Bool.false_eq_true, ← hm, hm2, hwt, hq, g0, g1, slices_Clone_int_int.f]
      by_cases h30 : t + 1 ≥ 30
      · simp only [h30, if_true, l2, List.nil_append, Option.bind_some]
      · simp only [h30, if_false, l2, if_true, List.nil_append, Option.bind_some]
  · refine ⟨0, 0, [], 0, 0, false, by simp, fun h => (by cases h), fun k hk => ?_⟩
    obtain ⟨k, rfl⟩ : ∃ k', k = k' + 1 := ⟨k - 1, by omega⟩
    have j1 : spec_SendNext.j0 (k + 1) n true w a t = some (0, 0, [], 0, 0, false) := by simp [spec_SendNext.j0]
    have j2 : ∀ y, impl_SendNext.j0 (k + 1) n y true w a t = some (0, 0, [], 0, 0, false) := fun y => by simp [impl_SendNext.j0]
    constructor
    · simp only [spec_SendNext.f, l24Sender_eq, Option.bind_some]
      by_cases h1 : ((w.length : Int) ≤ 30 ∧ 0 ≤ a ∧ a ≤ (w.length : Int) ∧ 0 ≤ t ∧ t ≤ 30)
      · rw [decide_eq_true h1, if_pos rfl]
        by_cases h2 : a = (w.length : Int)
        · rw [if_pos h2]
          exact j1
        · rw [if_neg h2]
          by_cases h3 : n < 1
          · rw [if_pos h3]
            exact j1
          · rw [if_neg h3, decide_eq_true (show n > 10 by omega)]
            exact j1
      · rw [decide_eq_false h1, if_neg (by simp)]
        exact j1
    · simp only [impl_SendNext.f]
      by_cases h1 : (w.length : Int) > 30
      · rw [if_pos h1]
        exact j2 _
      · rw [if_neg h1]
        by_cases h2 : a < 0
        · rw [if_pos h2]
          exact j2 _
        · rw [if_neg h2]
          have hwr : wrap64 ((w.length : Int) - a) = (w.length : Int) - a := wrap_in (by omega) (by omega)
          rw [hwr]
          by_cases h3 : (w.length : Int) - a ≤ 0
          · rw [if_pos h3]
            exact j2 _
          · rw [if_neg h3]
            simp only [between_eq, Option.bind_some]
            by_cases h4 : (0 : Int) ≤ t ∧ t ≤ 30
            · rw [decide_eq_true h4, if_pos rfl, decide_eq_false (show ¬ ((1 : Int) ≤ n ∧ n ≤ 10) by omega)]
              exact j2 _
            · rw [decide_eq_false h4, if_neg (by simp)]
              exact j2 _
theorem take_same : ∀ (k : Nat) (g : List Int) (l : List S54) (n i : Int), impl_TakeParcels.l0 k g l n i = spec_TakeParcels.l0 k g l n i
  | 0, _, _, _, _ => rfl
  | k + 1, g, l, n, i => by simp only [impl_TakeParcels.l0, spec_TakeParcels.l0, take_same k]
theorem take_ends (g : List Int) (l : List S54) (hg : g.length ≤ 30) (hb : l.length ≤ 1048576) : ∃ r : List Int × Int, (r.1.length ≤ 30 ∧ r.2 = (r.1.length : Int)) ∧ Ev (fun k => spec_TakeParcels.l0 k g l (l.length : Int) 0) r := by
  obtain ⟨r, hp, h⟩ := one_while (fun k (s : List Int × Int) => spec_TakeParcels.l0 k s.1 l (l.length : Int) s.2) (fun d s => ∃ i : Nat, s.2 = (i : Int) ∧ i + d = l.length ∧ s.1.length ≤ 30) (fun r => r.1.length ≤ 30 ∧ r.2 = (r.1.length : Int))
    (by
      rintro d ⟨s, j⟩ ⟨i, hj, hd, hs⟩
      obtain rfl : j = (i : Int) := hj
      simp only at hs
      by_cases hi : i < l.length
      · right
        have h1 : (i : Int) < (l.length : Int) := by omega
        have h2 : (0 : Int) ≤ (i : Int) := by omega
        have h3 : s.length < 17592186044416 := by omega
        by_cases hc : (rd_T54 l (i : Int)).f0 = (s.length : Int) ∧ (s.length : Int) < 30
        · refine ⟨d - 1, (s ++ [(rd_T54 l (i : Int)).f1], ((i + 1 : Nat) : Int)), by omega, ⟨i + 1, rfl, by omega, by simp only [List.length_append, List.length_singleton]; omega⟩, fun r hr => Ev.back 1 0 (fun k _ => ?_) hr⟩
          simp only [spec_TakeParcels.l0, h1, h2, if_true, hc.1, hc.2, h3, wrap_succ i (by omega)]
        · refine ⟨d - 1, (s, ((i + 1 : Nat) : Int)), by omega, ⟨i + 1, rfl, by omega, hs⟩, fun r hr => Ev.back 1 0 (fun k _ => ?_) hr⟩
          simp only [spec_TakeParcels.l0, h1, h2, if_true, wrap_succ i (by omega)]
          repeat' split
          all_goals first | rfl | (exfalso; exact hc ⟨‹_›, ‹_›⟩)
      · left
        have h1 : ¬ (i : Int) < (l.length : Int) := by omega
        exact ⟨(s, (s.length : Int)), ⟨hs, rfl⟩, Ev.at 1 0 (fun k _ => by simp only [spec_TakeParcels.l0, h1, if_false])⟩) l.length (g, 0) ⟨0, rfl, by omega, hg⟩
  exact ⟨r, hp, h⟩
theorem take_both (g : List Int) (L : List S54) (hg : g.length ≤ 30) (hb : L.length ≤ 1048576) : ∃ G m, (G : List Int).length ≤ 30 ∧ m = (G.length : Int) ∧ ∃ K, ∀ k, K ≤ k → spec_TakeParcels.f k g L = some (G, m) ∧ impl_TakeParcels.f k g L = some (G, m) := by
  obtain ⟨⟨G, m⟩, hr, K5, h5⟩ := take_ends g L hg hb
  refine ⟨G, m, hr.1, hr.2, K5, fun k hk => ?_⟩
  have h5' := h5 k hk
  have h6' : impl_TakeParcels.l0 k g L (L.length : Int) 0 = some (G, m) := (take_same _ _ _ _ _).trans h5'
  have l2 : ([] : List Int).length + g.length < 17592186044416 := by simp; omega
  have l3 : ¬ (g.length : Int) > 30 := by omega
  simp only at h5'
  simp only [spec_TakeParcels.f, impl_TakeParcels.f, l3, if_false, Option.bind_some, l2, if_true, List.nil_append, slices_Clone_int_int.f, h5', h6', and_self]
def okFates (l : List Int) : Bool := decide (1 ≤ l.length ∧ l.length ≤ 60) && (List.range l.length).all (fun i => decide (0 ≤ rd l (i : Int) ∧ rd l (i : Int) ≤ 3))
theorem spec_fates (l : List Int) (h : l.length ≤ 1048576) : Ev (fun k => spec_l24Fates.f k l) (okFates l) := by
  by_cases h1 : (l.length : Int) < 1
  · have e : okFates l = false := by
      unfold okFates
      rw [decide_eq_false (by omega)]
      rfl
    rw [e]
    exact Ev.at 1 0 (fun k _ => by simp only [spec_l24Fates.f, h1, if_true, spec_l24Fates.j0])
  · by_cases h2 : (l.length : Int) > 60
    · have e : okFates l = false := by
        unfold okFates
        rw [decide_eq_false (by omega)]
        rfl
      rw [e]
      exact Ev.at 1 0 (fun k _ => by simp only [spec_l24Fates.f, h1, if_false, decide_eq_true h2, spec_l24Fates.j0, if_true])
    · have e : okFates l = (List.range l.length).all (fun i => decide (0 ≤ rd l (i : Int) ∧ rd l (i : Int) ≤ 3)) := by
        unfold okFates
        rw [decide_eq_true (by omega)]
        rfl
      have hl := all_loop (fun k i => spec_l24Fates.l0 k l (l.length : Int) i) l.length (fun i => decide (0 ≤ rd l (i : Int) ∧ rd l (i : Int) ≤ 3)) true false
        (Ev.at 1 0 (fun k _ => by simp [spec_l24Fates.l0]))
        (fun i hi hp => ⟨0, fun k _ => by
          have hp' := of_decide_eq_true hp
          have g1 : (i : Int) < (l.length : Int) := by omega
          have g2 : (0 : Int) ≤ (i : Int) := by omega
          have g3 : ¬ rd l (i : Int) < 0 := by omega
          have g4 : ¬ rd l (i : Int) > 3 := by omega
          simp only [spec_l24Fates.l0, g1, g2, g3, g4, if_true, if_false, wrap_succ i (by omega)]⟩)
        (fun i hi hp => ⟨0, fun k _ => by
          have hp' := of_decide_eq_false hp
          have g1 : (i : Int) < (l.length : Int) := by omega
          have g2 : (0 : Int) ≤ (i : Int) := by omega
          simp only [spec_l24Fates.l0, g1, g2, if_true]
          by_cases g3 : rd l (i : Int) < 0
          · rw [if_pos g3]
          · rw [if_neg g3, if_pos (by omega)]⟩)
      rw [e]
      refine Ev.back (f := fun k => spec_l24Fates.l0 k l (l.length : Int) 0) 1 0 (fun k _ => ?_) (by
        cases hx : (List.range l.length).all (fun i => decide (0 ≤ rd l (i : Int) ∧ rd l (i : Int) ≤ 3)) <;> simpa only [hx, if_true, Bool.false_eq_true, if_false] using hl)
      simp only [spec_l24Fates.f, h1, if_false, decide_eq_false h2, spec_l24Fates.j0, Bool.false_eq_true]
theorem impl_fates (l : List Int) (h : l.length ≤ 1048576) : Ev (fun k => impl_goodFates.f k l) (okFates l) := by
  have hl := all_loop (fun k i => impl_goodFates.l0 k l l (l.length : Int) i) l.length (fun i => decide (0 ≤ rd l (i : Int) ∧ rd l (i : Int) ≤ 3)) (decide (1 ≤ l.length ∧ l.length ≤ 60)) false
    (Ev.at 1 0 (fun k _ => by
      have g1 : ¬ (l.length : Int) < (l.length : Int) := by omega
      simp only [impl_goodFates.l0, g1, if_false, between_eq, Option.bind_some]
      exact congrArg some (decide_eq_decide.2 (by omega))))
    (fun i hi hp => ⟨0, fun k _ => by
      have hp' := of_decide_eq_true hp
      have g1 : (i : Int) < (l.length : Int) := by omega
      have g2 : (0 : Int) ≤ (i : Int) := by omega
      simp only [impl_goodFates.l0, g1, g2, if_true, between_eq, Option.bind_some, decide_eq_true hp', wrap_succ i (by omega)]⟩)
    (fun i hi hp => ⟨0, fun k _ => by
      have hp' := of_decide_eq_false hp
      have g1 : (i : Int) < (l.length : Int) := by omega
      have g2 : (0 : Int) ≤ (i : Int) := by omega
      simp only [impl_goodFates.l0, g1, g2, if_true, between_eq, Option.bind_some, decide_eq_false hp', Bool.false_eq_true, if_false]⟩)
  have e : okFates l = (if (List.range l.length).all (fun i => decide (0 ≤ rd l (i : Int) ∧ rd l (i : Int) ≤ 3)) = true then decide (1 ≤ l.length ∧ l.length ≤ 60) else false) := by
    unfold okFates
    cases (List.range l.length).all (fun i => decide (0 ≤ rd l (i : Int) ∧ rd l (i : Int) ≤ 3)) <;> simp
  rw [e]
  exact hl
theorem okFates_len {l : List Int} (h : okFates l = true) : 1 ≤ l.length ∧ l.length ≤ 60 := by
  unfold okFates at h
  rw [Bool.and_eq_true] at h
  exact of_decide_eq_true h.1
def comeOf (f : Int) (late : List S54) (p : S54) : List S54 := if f = 0 then late ++ [p] else if f = 2 then late ++ [p] ++ [p] else late
def lateOf (f : Int) (p : S54) : List S54 := if f = 3 then [p] else []
def ackOf (b a n : Int) : Int := if b = 0 ∨ b = 2 then mx a n else a
def lackOf (z b n : Int) : Int := if b = 3 then n else z
theorem spec_s1 (k : Nat) (w there back : List Int) (n ticks : Int) (late : List S54) (la a t : Int) (got : List Int) (s i : Int) (d : Bool) (hi : i < ticks) : spec_TalkAll.l0 (k + 1) w n there back ticks late la w a t got s i d = spec_TalkAll.j2 k w n there back ticks late w (mx a la) t got s i d := by
  by_cases h : la > a
  · have e : mx a la = la := if_pos h
    simp only [spec_TalkAll.l0, hi, h, if_true, e]
  · have e : mx a la = a := if_neg h
    simp only [spec_TalkAll.l0, hi, h, if_true, if_false, e]
theorem spec_s2 (k : Nat) (w there back : List Int) (n ticks : Int) (late : List S54) (a t : Int) (got : List Int) (s i : Int) (d : Bool) (p0 p1 t' : Int) (hs : spec_SendNext.f k w a t n = some (p0, p1, w, a, t', true)) (h1 : 1 ≤ there.length) (hl : late.length ≤ 60) (h0 : 0 ≤ s) : spec_TalkAll.j2 (k + 1) w n there back ticks late w a t got s i d = spec_TalkAll.j3 k w n there back ticks (lateOf (rd there (Int.tmod s (there.length : Int))) ⟨p0, p1⟩) 0 (comeOf (rd there (Int.tmod s (there.length : Int))) late ⟨p0, p1⟩) w a t' got s i d := by
  have q0 : 0 ≤ Int.tmod s (there.length : Int) := Int.tmod_nonneg _ h0
  have q1 : Int.tmod s (there.length : Int) < (there.length : Int) := Int.tmod_lt_of_pos _ (by omega)
  have z1 : ¬ (there.length : Int) = 0 := by omega
  have l1 : late.length < 8796093022208 := by omega
  have l2 : late.length + 1 < 8796093022208 := by omega
  simp only [spec_TalkAll.j2, hs, Option.bind_some, if_true, z1, if_false, q0, q1]
  generalize rd there (Int.tmod s (there.length : Int)) = f
  unfold comeOf lateOf
  by_cases f0 : f = 0
  · simp [f0, l1]
  · by_cases f2 : f = 2
    · simp [f2, l1, l2]
    · by_cases f3 : f = 3
      · simp [f3]
      · simp [f0, f2, f3]
theorem spec_s3 (k : Nat) (w there back : List Int) (n ticks : Int) (late come : List S54) (la a t : Int) (got : List Int) (s i : Int) (d : Bool) (got' : List Int) (m : Int) (ht : spec_TakeParcels.f (k + 1) got come = some (got', m)) (h1 : 1 ≤ back.length) (h0 : 0 ≤ s) : spec_TalkAll.j3 (k + 2) w n there back ticks late la come w a t got s i d = spec_TalkAll.l0 k w n there back ticks late (lackOf la (rd back (Int.tmod s (back.length : Int))) m) w (ackOf (rd back (Int.tmod s (back.length : Int))) a m) t got' (wrap64 (s + 1)) (wrap64 (i + 1)) d := by
  have q0 : 0 ≤ Int.tmod s (back.length : Int) := Int.tmod_nonneg _ h0
  have q1 : Int.tmod s (back.length : Int) < (back.length : Int) := Int.tmod_lt_of_pos _ (by omega)
  have z1 : ¬ (back.length : Int) = 0 := by omega
  simp only [spec_TalkAll.j3, ht, Option.bind_some, if_true, z1, if_false, q0, q1]
  generalize rd back (Int.tmod s (back.length : Int)) = b
  by_cases b0 : b = 0
  · by_cases h : m > a
    · simp [spec_TalkAll.j4, ackOf, lackOf, mx, h, b0]
    · simp [spec_TalkAll.j4, ackOf, lackOf, mx, h, b0]
  · by_cases b2 : b = 2
    · by_cases h : m > a
      · simp [spec_TalkAll.j4, ackOf, lackOf, mx, h, b2]
      · simp [spec_TalkAll.j4, ackOf, lackOf, mx, h, b2]
    · by_cases b3 : b = 3
      · simp [spec_TalkAll.j4, ackOf, lackOf, b3]
      · simp [spec_TalkAll.j4, ackOf, lackOf, b0, b2, b3]
theorem impl_s2 (k : Nat) (w there back : List Int) (n ticks : Int) (late : List S54) (la a t : Int) (got : List Int) (s i : Int) (d : Bool) (p0 p1 t' : Int) (hi : i < ticks) (hs : impl_SendNext.f k w (mx a la) t n = some (p0, p1, w, mx a la, t', true)) (h1 : 1 ≤ there.length) (hl : late.length ≤ 60) (h0 : 0 ≤ s) : impl_TalkAll.l0 (k + 1) w n there back ticks late la w a t got s i d = impl_TalkAll.j2 k w n there back ticks (lateOf (rd there (Int.tmod s (there.length : Int))) ⟨p0, p1⟩) (-1) (comeOf (rd there (Int.tmod s (there.length : Int))) late ⟨p0, p1⟩) w (mx a la) t' got s i d := by
  have q0 : 0 ≤ Int.tmod s (there.length : Int) := Int.tmod_nonneg _ h0
  have q1 : Int.tmod s (there.length : Int) < (there.length : Int) := Int.tmod_lt_of_pos _ (by omega)
  have z1 : ¬ (there.length : Int) = 0 := by omega
  have l1 : late.length < 8796093022208 := by omega
  have l2 : late.length + 2 < 8796093022208 := by omega
  simp only [impl_TalkAll.l0, hi, hs, Option.bind_some, if_true, z1, if_false, q0, q1]
  generalize rd there (Int.tmod s (there.length : Int)) = f
  unfold comeOf lateOf
  by_cases f0 : f = 0
  · simp [f0, l1]
  · by_cases f2 : f = 2
    · simp [f2, l1, l2]
    · by_cases f3 : f = 3
      · simp [f3]
      · simp [f0, f2, f3]
theorem impl_s3 (k : Nat) (w there back : List Int) (n ticks : Int) (late come : List S54) (la a t : Int) (got : List Int) (s i : Int) (d : Bool) (got' : List Int) (m : Int) (ht : impl_TakeParcels.f (k + 1) got come = some (got', m)) (h1 : 1 ≤ back.length) (h0 : 0 ≤ i) : impl_TalkAll.j2 (k + 2) w n there back ticks late la come w a t got s i d = impl_TalkAll.l0 k w n there back ticks late (lackOf la (rd back (Int.tmod i (back.length : Int))) m) w (ackOf (rd back (Int.tmod i (back.length : Int))) a m) t got' (wrap64 (s + 1)) (wrap64 (i + 1)) d := by
  have q0 : 0 ≤ Int.tmod i (back.length : Int) := Int.tmod_nonneg _ h0
  have q1 : Int.tmod i (back.length : Int) < (back.length : Int) := Int.tmod_lt_of_pos _ (by omega)
  have z1 : ¬ (back.length : Int) = 0 := by omega
  simp only [impl_TalkAll.j2, ht, Option.bind_some, if_true, z1, if_false, q0, q1]
  generalize rd back (Int.tmod i (back.length : Int)) = b
  by_cases b0 : b = 0
  · simp [impl_TalkAll.j3, ackOf, lackOf, b0]
  · by_cases b2 : b = 2
    · simp [impl_TalkAll.j3, ackOf, lackOf, b2]
    · by_cases b3 : b = 3
      · simp [impl_TalkAll.j3, ackOf, lackOf, b3]
      · simp [impl_TalkAll.j3, ackOf, lackOf, b0, b2, b3]
theorem comeOf_len (f : Int) (late : List S54) (p : S54) (h : late.length ≤ 1) : (comeOf f late p).length ≤ 3 := by
  unfold comeOf
  repeat' split
  all_goals (try simp only [List.length_append, List.length_singleton])
  all_goals omega
theorem lateOf_len (f : Int) (p : S54) : (lateOf f p).length ≤ 1 := by
  unfold lateOf
  split <;> simp
theorem talk_both (w there back : List Int) (n : Int) (T : Nat) (hw : w.length ≤ 1048576) (hT : T ≤ 400) (ht : 1 ≤ there.length) (hb : 1 ≤ back.length) : ∃ r : List Int × Int × Int × Bool × Bool, r.1.length ≤ 30 ∧ Ev (fun k => spec_TalkAll.l0 k w n there back (T : Int) [] 0 w 0 0 [] 0 0 false) r ∧ Ev (fun k => impl_TalkAll.l0 k w n there back (T : Int) [] (-1) w 0 0 [] 0 0 false) r := by
  obtain ⟨r, q, hp, h1, h2⟩ := two_while
    (fun k (s : List S54 × Int × Int × Int × List Int × Int) => spec_TalkAll.l0 k w n there back (T : Int) s.1 s.2.1 w s.2.2.1 s.2.2.2.1 s.2.2.2.2.1 s.2.2.2.2.2 s.2.2.2.2.2 false)
    (fun k (s : List S54 × Int × Int × Int × List Int × Int) => impl_TalkAll.l0 k w n there back (T : Int) s.1 s.2.1 w s.2.2.1 s.2.2.2.1 s.2.2.2.2.1 s.2.2.2.2.2 s.2.2.2.2.2 false)
    (fun d s t => ∃ (late : List S54) (la lb a tt : Int) (got : List Int) (i : Nat), s = (late, la, a, tt, got, (i : Int)) ∧ t = (late, lb, a, tt, got, (i : Int)) ∧ i + d = T ∧ late.length ≤ 1 ∧ 0 ≤ a ∧ a ≤ 30 ∧ la ≤ 30 ∧ (lb = la ∨ lb = -1 ∧ la = 0) ∧ 0 ≤ tt ∧ tt ≤ 30 ∧ got.length ≤ 30)
    (fun r q => r = q ∧ r.1.length ≤ 30)
    (by
      rintro d s t ⟨late, la, lb, a, tt, got, i, rfl, rfl, hd, hlate, ha0, ha1, hla, hlb, ht0, ht1, hg⟩
      have hmx : mx a lb = mx a la := by
        rcases hlb with rfl | ⟨rfl, rfl⟩
        · rfl
        · unfold mx
          rw [if_neg (by omega), if_neg (by omega)]
      have hm0 : 0 ≤ mx a la := by unfold mx; split <;> omega
      have hm1 : mx a la ≤ 30 := by unfold mx; split <;> omega
      have hneg : mx (mx a la) (-1) = mx a la := if_neg (by omega)
      have l60 : late.length ≤ 60 := Nat.le_trans hlate (by decide)
      have i0 : (0 : Int) ≤ (i : Int) := Int.natCast_nonneg i
      by_cases hi : (i : Int) < (T : Int)
      · obtain ⟨r1, r2, r3, r4, r5, r6, hr3, hr6, hs⟩ := send_both w (mx a la) tt n hw (by omega) (by omega)
        cases r6 with
        | false =>
          left
          refine ⟨(got, (i : Int), (i : Int), (mx a la == (w.length : Int)), true), _, ⟨rfl, hg⟩, ?_, ?_⟩
          · refine Ev.at 3 0 (fun k _ => ?_)
            have hs' := (hs (k + 1) (by omega)).1
            have z : ¬ (0 : Int) > mx a la := by omega
            show spec_TalkAll.l0 (k + 2 + 1) w n there back (T : Int) late la w a tt got (i : Int) (i : Int) false = _
            rw [spec_s1 _ _ _ _ _ _ _ _ _ _ _ _ _ _ hi]
            simp only [spec_TalkAll.j2, hs', Option.bind_some, Bool.false_eq_true, if_false, z]
          · refine Ev.at 3 0 (fun k _ => ?_)
            have hs' := (hs (k + 2) (by omega)).2
            simp only [impl_TalkAll.l0, hi, if_true, hmx, hs', Option.bind_some, Bool.false_eq_true, if_false, hneg]
        | true =>
          right
          obtain ⟨e3, e4, e5, e6⟩ := hr6 rfl
          subst e3 e4
          obtain ⟨G, m, hG, hm, K, hk⟩ := take_both got (comeOf (rd there (Int.tmod (i : Int) (there.length : Int))) late ⟨r1, r2⟩) hg (by have := comeOf_len (rd there (Int.tmod (i : Int) (there.length : Int))) late ⟨r1, r2⟩ hlate; omega)
          have hwr : wrap64 ((i : Int) + 1) = ((i + 1 : Nat) : Int) := wrap_succ i (by omega)
          refine ⟨d - 1, (lateOf (rd there (Int.tmod (i : Int) (there.length : Int))) ⟨r1, r2⟩, lackOf 0 (rd back (Int.tmod (i : Int) (back.length : Int))) m, ackOf (rd back (Int.tmod (i : Int) (back.length : Int))) (mx a la) m, r5, G, ((i + 1 : Nat) : Int)), (lateOf (rd there (Int.tmod (i : Int) (there.length : Int))) ⟨r1, r2⟩, lackOf (-1) (rd back (Int.tmod (i : Int) (back.length : Int))) m, ackOf (rd back (Int.tmod (i : Int) (back.length : Int))) (mx a la) m, r5, G, ((i + 1 : Nat) : Int)), by omega, ⟨_, _, _, _, _, _, i + 1, rfl, rfl, by omega, lateOf_len _ _, ?_, ?_, ?_, ?_, e5, e6, hG⟩, fun r hr => Ev.back 4 K (fun k hkk => ?_) hr, fun r hr => Ev.back 3 K (fun k hkk => ?_) hr⟩
          · unfold ackOf mx
            unfold mx at hm0
            repeat' split
            all_goals omega
          · unfold ackOf
            split
            · unfold mx
              unfold mx at hm1
              repeat' split
              all_goals omega
            · exact hm1
          · unfold lackOf
            split <;> omega
          · unfold lackOf
            split
            · exact .inl rfl
            · exact .inr ⟨rfl, rfl⟩
          · show spec_TalkAll.l0 (k + 3 + 1) _ n there back (T : Int) late la _ a tt got (i : Int) (i : Int) false = _
            rw [spec_s1 _ _ _ _ _ _ _ _ _ _ _ _ _ _ hi, spec_s2 (k + 2) _ _ _ _ _ _ _ _ _ _ _ _ _ _ _ (hs (k + 2) (Nat.le_add_left 1 (k + 1))).1 ht l60 i0, spec_s3 k _ _ _ _ _ _ _ _ _ _ _ _ _ _ _ _ (hk (k + 1) (Nat.le_succ_of_le hkk)).1 hb i0, hwr]
          · show impl_TalkAll.l0 (k + 2 + 1) _ n there back (T : Int) late lb _ a tt got (i : Int) (i : Int) false = _
            have hs2 := (hs (k + 2) (Nat.le_add_left 1 (k + 1))).2
            rw [← hmx] at hs2
            rw [impl_s2 (k + 2) _ _ _ _ _ _ _ _ _ _ _ _ _ _ _ _ hi hs2 ht l60 i0, impl_s3 k _ _ _ _ _ _ _ _ _ _ _ _ _ _ _ _ (hk (k + 1) (Nat.le_succ_of_le hkk)).2 hb i0, hwr, hmx]
      · left
        refine ⟨(got, (i : Int), (i : Int), (mx a la == (w.length : Int)), true), _, ⟨rfl, hg⟩, ?_, ?_⟩
        · refine Ev.at 1 0 (fun k _ => ?_)
          by_cases h : la > a
          · have e : mx a la = la := if_pos h
            simp only [spec_TalkAll.l0, hi, if_false, h, if_true, e]
          · have e : mx a la = a := if_neg h
            simp only [spec_TalkAll.l0, hi, if_false, h, e]
        · refine Ev.at 1 0 (fun k _ => ?_)
          simp only [impl_TalkAll.l0, hi, if_false, hmx])
    T ([], 0, 0, 0, [], 0) ([], -1, 0, 0, [], 0) ⟨[], 0, -1, 0, 0, [], 0, rfl, rfl, by omega, by simp, by omega, by omega, by omega, .inr ⟨rfl, rfl⟩, by omega, by omega, by simp⟩
  obtain ⟨rfl, hl⟩ := hp
  exact ⟨r, hl, h1, h2⟩
theorem talk_same (w there back : List Int) (n ticks : Int) (hw : w.length ≤ 1048576) (ht : there.length ≤ 1048576) (hb : back.length ≤ 1048576) : ∃ (g : List Int) (s i : Int) (d o : Bool), g.length ≤ 30 ∧ ∃ K, ∀ k, K ≤ k → spec_TalkAll.f k w n there back ticks = some (g, s, i, d, o) ∧ impl_TalkAll.f k w n there back ticks = some (g, s, i, d, o) := by
  have j1 : ∀ k, spec_TalkAll.j0 (k + 1) w n there back ticks true = some ([], 0, 0, false, false) := fun k => by simp [spec_TalkAll.j0]
  have j2 : ∀ k, impl_TalkAll.j0 (k + 1) w n there back ticks true = some ([], 0, 0, false, false) := fun k => by simp [impl_TalkAll.j0]
  by_cases h1 : (w.length : Int) > 30
  · refine ⟨[], 0, 0, false, false, by simp, 1, fun k hk => ?_⟩
    obtain ⟨k, rfl⟩ : ∃ k', k = k' + 1 := ⟨k - 1, by omega⟩
    simp only [spec_TalkAll.f, impl_TalkAll.f, h1, if_true, j1, j2, and_self]
  by_cases h2 : (1 : Int) ≤ n ∧ n ≤ 10
  case neg =>
    refine ⟨[], 0, 0, false, false, by simp, 1, fun k hk => ?_⟩
    obtain ⟨k, rfl⟩ : ∃ k', k = k' + 1 := ⟨k - 1, by omega⟩
    simp only [spec_TalkAll.f, impl_TalkAll.f, h1, if_false, between_eq, Option.bind_some, decide_eq_false h2, Bool.false_eq_true, j2, and_true]
    by_cases h3 : n < 1
    · rw [if_pos h3]
      exact j1 _
    · rw [if_neg h3, if_pos (by omega)]
      exact j1 _
  have h3 : ¬ n < 1 := by omega
  have h4 : ¬ n > 10 := by omega
  obtain ⟨K1, f1⟩ := spec_fates there ht
  obtain ⟨K2, f2⟩ := impl_fates there ht
  obtain ⟨K3, f3⟩ := spec_fates back hb
  obtain ⟨K4, f4⟩ := impl_fates back hb
  simp only at f1 f2 f3 f4
  cases hx : okFates there with
  | false =>
    refine ⟨[], 0, 0, false, false, by simp, 1 + K1 + K2, fun k hk => ?_⟩
    have f1' := f1 k (by omega)
    have f2' := f2 k (by omega)
    rw [hx] at f1' f2'
    obtain ⟨k, rfl⟩ : ∃ k', k = k' + 1 := ⟨k - 1, by omega⟩
    simp only [spec_TalkAll.f, impl_TalkAll.f, h1, if_false, between_eq, Option.bind_some, decide_eq_true h2, if_true, h3, h4, f1', f2', Bool.false_eq_true, j1, j2, and_self]
  | true =>
    cases hy : okFates back with
    | false =>
      refine ⟨[], 0, 0, false, false, by simp, 1 + K1 + K2 + K3 + K4, fun k hk => ?_⟩
      have f1' := f1 k (by omega)
      have f2' := f2 k (by omega)
      have f3' := f3 k (by omega)
      have f4' := f4 k (by omega)
      rw [hx] at f1' f2'
      rw [hy] at f3' f4'
      obtain ⟨k, rfl⟩ : ∃ k', k = k' + 1 := ⟨k - 1, by omega⟩
      simp only [spec_TalkAll.f, impl_TalkAll.f, h1, if_false, between_eq, Option.bind_some, decide_eq_true h2, if_true, h3, h4, f1', f2', f3', f4', Bool.false_eq_true, j1, j2, and_self]
    | true =>
      by_cases h5 : (0 : Int) ≤ ticks ∧ ticks ≤ 400
      · obtain ⟨T, rfl⟩ : ∃ T : Nat, ticks = (T : Int) := ⟨ticks.toNat, by omega⟩
        obtain ⟨⟨g, s, i, d, o⟩, hg, ⟨K5, e5⟩, ⟨K6, e6⟩⟩ := talk_both w there back n T hw (by omega) (okFates_len hx).1 (okFates_len hy).1
        refine ⟨g, s, i, d, o, hg, 1 + K1 + K2 + K3 + K4 + K5 + K6, fun k hk => ?_⟩
        have f1' := f1 k (by omega)
        have f2' := f2 k (by omega)
        have f3' := f3 k (by omega)
        have f4' := f4 k (by omega)
        rw [hx] at f1' f2'
        rw [hy] at f3' f4'
        obtain ⟨k, rfl⟩ : ∃ k', k = k' + 1 := ⟨k - 1, by omega⟩
        have e5' := e5 k (by omega)
        have e6' := e6 k (by omega)
        simp only at e5' e6'
        have h6 : ¬ (T : Int) < 0 := by omega
        have h7 : ¬ (T : Int) > 400 := by omega
        simp only [spec_TalkAll.f, impl_TalkAll.f, h1, if_false, between_eq, Option.bind_some, decide_eq_true h2, if_true, h3, h4, f1', f2', f3', f4', decide_eq_true h5, Bool.not_true, h6, decide_eq_false h7, spec_TalkAll.j0, impl_TalkAll.j0, Bool.false_eq_true, e5', e6', and_self]
      · refine ⟨[], 0, 0, false, false, by simp, 1 + K1 + K2 + K3 + K4, fun k hk => ?_⟩
        have f1' := f1 k (by omega)
        have f2' := f2 k (by omega)
        have f3' := f3 k (by omega)
        have f4' := f4 k (by omega)
        rw [hx] at f1' f2'
        rw [hy] at f3' f4'
        obtain ⟨k, rfl⟩ : ∃ k', k = k' + 1 := ⟨k - 1, by omega⟩
        simp only [spec_TalkAll.f, impl_TalkAll.f, h1, if_false, between_eq, Option.bind_some, decide_eq_true h2, if_true, h3, h4, f1', f2', f3', f4', decide_eq_false h5, Bool.not_false, j2, and_true]
        by_cases h6 : ticks < 0
        · rw [if_pos h6]
          exact j1 _
        · rw [if_neg h6, decide_eq_true (by omega)]
          exact j1 _
theorem FnExactTalkAll : ∀ (l0 : List Int) (a1 : Int) (l2 : List Int) (l3 : List Int) (a4 : Int), ((∀ (zl0 : Int), zl0 ∈ l0 → (Lit.int .i64 zl0).wf = true) ∧ l0.length * 8 ≤ 140737488351232) → (Lit.int .i64 a1).wf = true → ((∀ (zl2 : Int), zl2 ∈ l2 → (Lit.int .i64 zl2).wf = true) ∧ l2.length * 8 ≤ 140737488351232) → ((∀ (zl3 : Int), zl3 ∈ l3 → (Lit.int .i64 zl3).wf = true) ∧ l3.length * 8 ≤ 140737488351232) → (Lit.int .i64 a4).wf = true → ∃ k, laws_FnExactTalkAll.f k l0 a1 l2 l3 a4 = some true := by
  intro w n there back ticks
  intros
  by_cases hw : (w.length : Int) > 1048576
  · exact ⟨0, by simp only [laws_FnExactTalkAll.f, hw, if_true]⟩
  by_cases ht : (there.length : Int) > 1048576
  · exact ⟨0, by simp only [laws_FnExactTalkAll.f, hw, if_false, ht, if_true]⟩
  by_cases hb : (back.length : Int) > 1048576
  · exact ⟨0, by simp only [laws_FnExactTalkAll.f, hw, ht, if_false, hb, if_true]⟩
  obtain ⟨K0, h0⟩ := toIntS_ev w (by omega)
  obtain ⟨K1, h1⟩ := toIntS_ev there (by omega)
  obtain ⟨K2, h2⟩ := toIntS_ev back (by omega)
  obtain ⟨K3, h3⟩ := eqIntS_ev w (by omega)
  obtain ⟨K4, h4⟩ := eqIntS_ev there (by omega)
  obtain ⟨K5, h5⟩ := eqIntS_ev back (by omega)
  obtain ⟨G, s, i, d, o, hG, K6, h6⟩ := talk_same w there back n ticks (by omega) (by omega) (by omega)
  have h6a : ∀ k, K6 ≤ k → spec_TalkAll.f k w n there back ticks = some (G, s, i, d, o) := fun k hk => (h6 k hk).1
  have h6b : ∀ k, K6 ≤ k → impl_TalkAll.f k w n there back ticks = some (G, s, i, d, o) := fun k hk => (h6 k hk).2
  obtain ⟨K7, h7⟩ := eqIntS_ev G (by omega)
  obtain ⟨K8, h8⟩ := markIntS_ev w (by omega)
  obtain ⟨K9, h9⟩ := markIntS_at there (by omega) (1 + ((1 : Nat) : Int) * (w.length : Int)) (by omega) (by omega)
  obtain ⟨K10, h10⟩ := markIntS_at back (by omega) (1 + ((1 : Nat) : Int) * (w.length : Int) + ((1 : Nat) : Int) * (there.length : Int)) (by omega) (by omega)
  obtain ⟨K11, h11⟩ := markIntS_ev G (by omega)
  obtain ⟨K12, h12⟩ := heldIntS_ev G.length (by omega)
  have hneg : ¬ ((1 : Int) + ((1 : Nat) : Int) * (w.length : Int) + ((1 : Nat) : Int) * (there.length : Int) + ((1 : Nat) : Int) * (back.length : Int) < 0) := by omega
  have hneg2 : ¬ ((1 : Int) + ((1 : Nat) : Int) * (G.length : Int) < 0) := by omega
  generalize ((List.range G.length).map fun (j : Nat) => id (1 + ((1 : Nat) : Int) * (j : Int))) = M at *
  have e2 : ∀ k, K12 ≤ k → laws_FnExactTalkAll.j2 (k + 1) (1 + ((1 : Nat) : Int) * (G.length : Int)) false M s i d = some true := by
    intro k hk
    have h12' := h12 k hk
    simp only at h12'
    simp only [laws_FnExactTalkAll.j2, laws_heldTalked.f, Bool.false_eq_true, if_false, h12', Option.bind_some, hneg2, if_true]
  have e1 : ∀ k, K0 + K1 + K2 + K6 + K7 + K11 + K12 ≤ k → laws_FnExactTalkAll.j1 (k + 2) w n there back ticks o false G s i d G s i d = some true := by
    intro k hk
    have h0' := h0 (k + 1) (by omega)
    have h1' := h1 (k + 1) (by omega)
    have h2' := h2 (k + 1) (by omega)
    have h6' := h6b (k + 1) (by omega)
    have h7' := h7 (k + 1) (by omega)
    have h11' := h11 (k + 1) (by omega)
    have h12' := h12 (k + 1) (by omega)
    have e2' := e2 k (by omega)
    simp only at h0' h1' h2' h7' h11' h12'
    simp only [laws_FnExactTalkAll.j1, laws_markTalked.f, laws_heldTalked.f, laws_eqTalked.f, Bool.false_eq_true, if_false, h0', h1', h2', h6', h7', h11', h12', Option.bind_some, hneg2, if_true, bne_self_eq_false, e2']
  have e0 : ∀ k, K0 + K1 + K2 + K3 + K4 + K5 + K6 + K7 + K8 + K9 + K10 + K11 + K12 ≤ k → laws_FnExactTalkAll.j0 (k + 3) w n there back ticks o w there back o false G s i d G s i d = some true := by
    intro k hk
    have h0' := h0 (k + 2) (by omega)
    have h1' := h1 (k + 2) (by omega)
    have h2' := h2 (k + 2) (by omega)
    have h3' := h3 (k + 2) (by omega)
    have h4' := h4 (k + 2) (by omega)
    have h5' := h5 (k + 2) (by omega)
    have h7' := h7 (k + 2) (by omega)
    have h8' := h8 (k + 2) (by omega)
    have h9' := h9 (k + 2) (by omega)
    have h10' := h10 (k + 2) (by omega)
    have e1' := e1 k (by omega)
    simp only at h0' h1' h2' h3' h4' h5' h7' h8' h9' h10'
    simp only [laws_FnExactTalkAll.j0, laws_eqTalked.f, Bool.false_eq_true, if_false, h0', h1', h2', h3', h4', h5', h7', h8', h9', h10', Option.bind_some, hneg, if_true, bne_self_eq_false, e1']
  refine ⟨K0 + K1 + K2 + K3 + K4 + K5 + K6 + K7 + K8 + K9 + K10 + K11 + K12 + 3, ?_⟩
  have h0' := h0 (K0 + K1 + K2 + K3 + K4 + K5 + K6 + K7 + K8 + K9 + K10 + K11 + K12 + 3) (by omega)
  have h1' := h1 (K0 + K1 + K2 + K3 + K4 + K5 + K6 + K7 + K8 + K9 + K10 + K11 + K12 + 3) (by omega)
  have h2' := h2 (K0 + K1 + K2 + K3 + K4 + K5 + K6 + K7 + K8 + K9 + K10 + K11 + K12 + 3) (by omega)
  have h6a' := h6a (K0 + K1 + K2 + K3 + K4 + K5 + K6 + K7 + K8 + K9 + K10 + K11 + K12 + 3) (by omega)
  have h6b' := h6b (K0 + K1 + K2 + K3 + K4 + K5 + K6 + K7 + K8 + K9 + K10 + K11 + K12 + 3) (by omega)
  have h7' := h7 (K0 + K1 + K2 + K3 + K4 + K5 + K6 + K7 + K8 + K9 + K10 + K11 + K12 + 3) (by omega)
  have e0' := e0 (K0 + K1 + K2 + K3 + K4 + K5 + K6 + K7 + K8 + K9 + K10 + K11 + K12) (by omega)
  simp only at h0' h1' h2' h7'
  simp only [laws_FnExactTalkAll.f, laws_eqTalked.f, hw, ht, hb, if_false, h0', h1', h2', h6a', h6b', h7', Option.bind_some, if_true, bne_self_eq_false, Bool.false_eq_true, e0']

end Go.Proofs.Ytmlejakajcmbdaa.Pure
