/- 'FnExactSendNext': what the program's function and the reference's answer, told over numbers and lists alone, meets the law at every input within the kinds' own bounds; no other condition. -/
import Derived.Test.YtmlejakajcmbdaaQFnExactSendNextx7
import Derived.Test.YtmlejakajcmbdaaPlain
namespace Go.Proofs.Ytmlejakajcmbdaa.Pure
open Go.RowKit Go.Proofs.Ytmlejakajcmbdaa.PFnExactSendNext Go.Proofs.Ytmlejakajcmbdaa.Plain Go.Proofs.YtmlejakajcmbdaaW.PrintWords Go.Proofs.YtmlejakajcmbdaaW.PrintLast
set_option linter.unusedVariables false
set_option linter.unusedSimpArgs false

theorem szIntS_eq (l : List Int) (h : l.length ≤ 140737488351232) (n : Int) (h0 : 0 ≤ n) (h1 : n ≤ 1048576) : laws_szIntS.f l n = some (if (l.length : Int) > n then -1 else n - l.length) := by
  unfold laws_szIntS.f
  rw [wrap_in (by omega) (by omega)]
  split <;> split <;> first | rfl | (exfalso; omega)
theorem toIntS_ev (l : List Int) (h : l.length ≤ 1048576) : Ev (fun k => laws_toIntS.f k l) l := by
  have := to_loop (fun k acc i => laws_toIntS.l0 k l acc i) id l 0 (fun k acc => by simp [laws_toIntS.l0]) (fun i hi => ⟨0, fun k _ acc hacc => by
    have h1 : (i : Int) < (l.length : Int) := by omega
    have h2 : (0 : Int) ≤ (i : Int) := by omega
    have h3 : (i : Int) < (acc.length : Int) := by omega
    have h4 : rd l (i : Int) = l[i] := by simp [rd, hi]
    simp only [laws_toIntS.l0, h1, h2, h3, h4, if_true, wrap_succ i (by omega), toNat_i]
    rfl⟩)
  rw [List.map_id] at this
  exact Ev.congr (fun k => by
    have h5 : l.length ≤ 100000000 := by omega
    simp only [laws_toIntS.f, toNat_i]
    rw [if_pos (by omega), if_pos (by omega)]) this
theorem eqIntS_ev (l : List Int) (h : l.length < 9223372036854775807) : Ev (fun k => laws_eqIntS.f k l l) true := by
  have := eq_loop (fun k i => laws_eqIntS.l0 k l l i) l.length true (fun k => by simp [laws_eqIntS.l0]) (fun i hi => ⟨0, fun k _ => by
    have h1 : (i : Int) < (l.length : Int) := by omega
    have h2 : (0 : Int) ≤ (i : Int) := by omega
    simp only [laws_eqIntS.l0, h1, h2, if_true, Option.bind_some, wrap_succ i (by omega), bne_self_eq_false, Bool.false_eq_true, if_false]⟩)
  exact Ev.congr (fun k => by simp only [laws_eqIntS.f, if_true]) this
theorem markIntS_at (l : List Int) (h : l.length ≤ 1000000000) (m0 : Int) (h0 : 0 ≤ m0) (hm : m0 ≤ 1000000000000000) : Ev (fun k => laws_markIntS.f k l m0) (m0 + ((1 : Nat) : Int) * (l.length : Int), (List.range l.length).map fun (j : Nat) => id (m0 + ((1 : Nat) : Int) * (j : Int))) := by
  refine mark_loop (fun k ys m i => laws_markIntS.l0 k ys m i) id 1 m0 l (fun k ys m hy => by simp [laws_markIntS.l0, hy]) (fun i hi => ⟨0, fun k _ ys hy => ?_⟩)
  have h1 : (i : Int) < (ys.length : Int) := by omega
  have h2 : (0 : Int) ≤ (i : Int) := by omega
  have hw1 : wrap64 (m0 + 1 * (i : Int) + 1) = m0 + 1 * ((i + 1 : Nat) : Int) := (wrap_in (by omega) (by omega)).trans (by omega)
  simp only [Int.cast_ofNat_Int] at *
  simp only [laws_markIntS.l0, h1, h2, if_true, wrap_succ i (by omega), toNat_i, Option.bind_some, hw1]
  all_goals rfl
theorem markIntS_ev (l : List Int) (h : l.length ≤ 1000000000) : Ev (fun k => laws_markIntS.f k l 1) (1 + ((1 : Nat) : Int) * (l.length : Int), (List.range l.length).map fun (j : Nat) => id (1 + ((1 : Nat) : Int) * (j : Int))) := markIntS_at l h 1 (by omega) (by omega)
theorem heldIntS_at (n : Nat) (h : n ≤ 1000000000) (m0 : Int) (h0 : 0 ≤ m0) (hm : m0 ≤ 1000000000000000) : Ev (fun k => laws_heldIntS.f k ((List.range n).map fun (j : Nat) => id (m0 + ((1 : Nat) : Int) * (j : Int))) m0) (m0 + ((1 : Nat) : Int) * (n : Int)) := by
  refine held_loop (fun k m i => laws_heldIntS.l0 k ((List.range n).map fun (j : Nat) => id (m0 + ((1 : Nat) : Int) * (j : Int))) m i) 1 m0 n _ (fun k => by simp [laws_heldIntS.l0]) (fun i hi => ⟨0, fun k _ => ?_⟩)
  have h1 : (i : Int) < ((((List.range n).map fun (j : Nat) => id (m0 + ((1 : Nat) : Int) * (j : Int))).length : Nat) : Int) := by simp; omega
  have h2 : (0 : Int) ≤ (i : Int) := by omega
  have h3 : rd ((List.range n).map fun (j : Nat) => id (m0 + ((1 : Nat) : Int) * (j : Int))) (i : Int) = id (m0 + ((1 : Nat) : Int) * (i : Int)) := by simp [rd, hi]
  have hw1 : wrap64 (m0 + 1 * (i : Int) + 1) = m0 + 1 * ((i + 1 : Nat) : Int) := (wrap_in (by omega) (by omega)).trans (by omega)
  generalize ((List.range n).map fun (j : Nat) => id (m0 + ((1 : Nat) : Int) * (j : Int))) = L at *
  simp only [Int.cast_ofNat_Int] at *
  simp only [laws_heldIntS.l0, h1, h2, h3, if_true, wrap_succ i (by omega), bne_self_eq_false, Bool.false_eq_true, if_false, id, hw1]

theorem heldIntS_ev (n : Nat) (h : n ≤ 1000000000) : Ev (fun k => laws_heldIntS.f k ((List.range n).map fun (j : Nat) => id (1 + ((1 : Nat) : Int) * (j : Int))) 1) (1 + ((1 : Nat) : Int) * (n : Int)) := heldIntS_at n h 1 (by omega) (by omega)
theorem between_eq (a lo hi : Int) : impl_between.f a lo hi = some (decide (lo ≤ a ∧ a ≤ hi)) := by
  unfold impl_between.f
  split <;> simp <;> omega
theorem l24Sender_eq (w : List Int) (a t : Int) : spec_l24Sender.f w a t = some (decide ((w.length : Int) ≤ 30 ∧ 0 ≤ a ∧ a ≤ (w.length : Int) ∧ 0 ≤ t ∧ t ≤ 30)) := by
  unfold spec_l24Sender.f
  repeat' split
  all_goals refine congrArg some ?_
  all_goals first | (apply decide_eq_decide.2; omega) | (apply Eq.symm; apply decide_eq_false; omega)
theorem send_both (w : List Int) (a t n : Int) (hw : w.length ≤ 1048576) (ha : -9223372036854775808 ≤ a ∧ a < 9223372036854775808) (ht : -9223372036854775808 ≤ t ∧ t < 9223372036854775808) : ∃ r1 r2 r3 r4 r5 r6, (r3 : List Int).length ≤ 1048576 ∧ ∀ k, 1 ≤ k → spec_SendNext.f k w a t n = some (r1, r2, r3, r4, r5, r6) ∧ impl_SendNext.f k w a t n = some (r1, r2, r3, r4, r5, r6) := by
  by_cases hv : (w.length : Int) ≤ 30 ∧ 0 ≤ a ∧ a < w.length ∧ 0 ≤ t ∧ t ≤ 30 ∧ 1 ≤ n ∧ n ≤ 10
  · obtain ⟨v1, v2, v3, v4, v5, v6, v7⟩ := hv
    have hwr : wrap64 ((w.length : Int) - a) = (w.length : Int) - a := wrap_in (by omega) (by omega)
    have hwt : wrap64 (t + 1) = t + 1 := wrap_in (by omega) (by omega)
    obtain ⟨m, hm, hm0, hm1⟩ : ∃ m : Int, m = mn n ((w.length : Int) - a) ∧ 0 < m ∧ m ≤ (w.length : Int) - a := ⟨_, rfl, by unfold mn; split <;> omega, by unfold mn; split <;> omega⟩
    have q0 : 0 ≤ Int.tmod t m := Int.tmod_nonneg _ v4
    have q1 : Int.tmod t m < m := Int.tmod_lt_of_pos _ hm0
    have hq : wrap64 (a + Int.tmod t m) = a + Int.tmod t m := wrap_in (by omega) (by omega)
    have g0 : 0 ≤ a + Int.tmod t m := by omega
    have g1 : a + Int.tmod t m < (w.length : Int) := by omega
    have hm2 : ¬ m = 0 := by omega
    have l2 : ([] : List Int).length + w.length < 17592186044416 := by simp; omega
    refine ⟨a + Int.tmod t m, rd w (a + Int.tmod t m), w, a, if t + 1 ≥ 30 then 0 else t + 1, true, hw, fun k hk => ?_⟩
    obtain ⟨k, rfl⟩ : ∃ k', k = k' + 1 := ⟨k - 1, by omega⟩
    have c1 : ((w.length : Int) ≤ 30 ∧ 0 ≤ a ∧ a ≤ (w.length : Int) ∧ 0 ≤ t ∧ t ≤ 30) := by omega
    have c2 : ¬ a = (w.length : Int) := by omega
    have c3 : ¬ n < 1 := by omega
    have c4 : ¬ n > 10 := by omega
    have c5 : ¬ (w.length : Int) > 30 := by omega
    have c6 : ¬ a < 0 := by omega
    have c7 : ¬ (w.length : Int) - a ≤ 0 := by omega
    constructor
    · simp only [spec_SendNext.f, l24Sender_eq, Option.bind_some, decide_eq_true c1, if_true, c2, c3, if_false, decide_eq_false c4, spec_SendNext.j0, Bool.false_eq_true, hwr, hwt]
      by_cases hc : (w.length : Int) - a > n
      · have hmn : m = n := by rw [hm]; unfold mn; rw [if_neg (by omega)]
        rw [hmn] at hq g0 g1 hm2 ⊢
        by_cases h30 : t + 1 ≥ 30
        · simp only [hc, if_true, hm2, if_false, h30, hq, g0, g1, l2, List.nil_append]
        · simp only [hc, if_true, hm2, if_false, h30, hq, g0, g1, l2, List.nil_append]
      · have hmn : m = (w.length : Int) - a := by
          rw [hm]
          unfold mn
          split <;> omega
        rw [hmn] at hq g0 g1 hm2 ⊢
        by_cases h30 : t + 1 ≥ 30
        · simp only [hc, if_true, hm2, if_false, h30, hq, g0, g1, l2, List.nil_append]
        · simp only [hc, if_true, hm2, if_false, h30, hq, g0, g1, l2, List.nil_append]
    · have c8 : (0 : Int) ≤ t ∧ t ≤ 30 := ⟨v4, v5⟩
      have c9 : (1 : Int) ≤ n ∧ n ≤ 10 := ⟨v6, v7⟩
      simp only [impl_SendNext.f, hwr, c5, c6, c7, if_false, between_eq, Option.bind_some, decide_eq_true c8, decide_eq_true c9, if_true, impl_SendNext.j0, Bool.not_true, Bool.false_eq_true, ← hm, hm2, hwt, hq, g0, g1, slices_Clone_int_int.f]
      by_cases h30 : t + 1 ≥ 30
      · simp only [h30, if_true, l2, List.nil_append, Option.bind_some]
      · simp only [h30, if_false, l2, if_true, List.nil_append, Option.bind_some]
  · refine ⟨0, 0, [], 0, 0, false, by simp, fun k hk => ?_⟩
    obtain ⟨k, rfl⟩ : ∃ k', k = k' + 1 := ⟨k - 1, by omega⟩
    have j1 : spec_SendNext.j0 (k + 1) n true w a t = some (0, 0, [], 0, 0, false) := by simp [spec_SendNext.j0]
    have j2 : ∀ y, impl_SendNext.j0 (k + 1) n y true w a t = some (0, 0, [], 0, 0, false) := fun y => by simp [impl_SendNext.j0]
    constructor
    · simp only [spec_SendNext.f, l24Sender_eq, Option.bind_some]
      by_cases h1 : ((w.length : Int) ≤ 30 ∧ 0 ≤ a ∧ a ≤ (w.length : Int) ∧ 0 ≤ t ∧ t ≤ 30)
      · rw [decide_eq_true h1, if_pos rfl]
        by_cases h2 : a = (w.length : Int)
        · rw [if_pos h2]
          exact j1
        · rw [if_neg h2]
          by_cases h3 : n < 1
          · rw [if_pos h3]
            exact j1
          · rw [if_neg h3, decide_eq_true (show n > 10 by omega)]
            exact j1
      · rw [decide_eq_false h1, if_neg (by simp)]
        exact j1
    · simp only [impl_SendNext.f]
      by_cases h1 : (w.length : Int) > 30
      · rw [if_pos h1]
        exact j2 _
      · rw [if_neg h1]
        by_cases h2 : a < 0
        · rw [if_pos h2]
          exact j2 _
        · rw [if_neg h2]
          have hwr : wrap64 ((w.length : Int) - a) = (w.length : Int) - a := wrap_in (by omega) (by omega)
          rw [hwr]
          by_cases h3 : (w.length : Int) - a ≤ 0
          · rw [if_pos h3]
            exact j2 _
          · rw [if_neg h3]
            simp only [between_eq, Option.bind_some]
            by_cases h4 : (0 : Int) ≤ t ∧ t ≤ 30
            · rw [decide_eq_true h4, if_pos rfl, decide_eq_false (show ¬ ((1 : Int) ≤ n ∧ n ≤ 10) by omega)]
              exact j2 _
            · rw [decide_eq_false h4, if_neg (by simp)]
              exact j2 _
theorem FnExactSendNext : ∀ (l0_0 : List Int) (a0_1 : Int) (a0_2 : Int) (a1 : Int), ((∀ (zl0_0 : Int), zl0_0 ∈ l0_0 → (Lit.int .i64 zl0_0).wf = true) ∧ l0_0.length * 8 ≤ 140737488351232) → (Lit.int .i64 a0_1).wf = true → (Lit.int .i64 a0_2).wf = true → (Lit.int .i64 a1).wf = true → ∃ k, laws_FnExactSendNext.f k l0_0 a0_1 a0_2 a1 = some true := by
  intro w a t n ⟨_, hwl⟩ ha ht hn
  have ha := wf_lo ha
  have ht := wf_lo ht
  have hs := szIntS_eq w (by omega) 1048576 (by omega) (by omega)
  by_cases hnw : (w.length : Int) > 1048576
  · exact ⟨0, by simp [laws_FnExactSendNext.f, laws_szSender.f, hs, hnw]⟩
  have hnw' : ¬ ((1048576 : Int) - w.length < 0) := by omega
  obtain ⟨K0, h0⟩ := toIntS_ev w (by omega)
  obtain ⟨K1, h1⟩ := eqIntS_ev w (by omega)
  obtain ⟨r1, r2, r3, r4, r5, r6, hr, hb⟩ := send_both w a t n (by omega) ha ht
  obtain ⟨K2, h2⟩ := eqIntS_ev r3 (by omega)
  obtain ⟨K3, h3⟩ := markIntS_ev w (by omega)
  obtain ⟨K4, h4⟩ := markIntS_ev r3 (by omega)
  obtain ⟨K5, h5⟩ := heldIntS_ev r3.length (by omega)
  have hneg : ¬ ((1 : Int) + ((1 : Nat) : Int) * (w.length : Int) < 0) := by omega
  have hneg2 : ¬ ((1 : Int) + ((1 : Nat) : Int) * (r3.length : Int) < 0) := by omega
  generalize ((List.range r3.length).map fun (j : Nat) => id (1 + ((1 : Nat) : Int) * (j : Int))) = M at *
  have b1 : ∀ k, 1 ≤ k → spec_SendNext.f k w a t n = some (r1, r2, r3, r4, r5, r6) := fun k hk => (hb k hk).1
  have b2 : ∀ k, 1 ≤ k → impl_SendNext.f k w a t n = some (r1, r2, r3, r4, r5, r6) := fun k hk => (hb k hk).2
  have e2 : ∀ k, K5 ≤ k → laws_FnExactSendNext.j2 (k + 1) (1 + ((1 : Nat) : Int) * (r3.length : Int)) false M r4 r5 = some true := by
    intro k hk
    have h5' := h5 k hk
    simp only at h5'
    simp only [laws_FnExactSendNext.j2, laws_heldSender.f, Bool.false_eq_true, if_false, h5', Option.bind_some, hneg2, if_true]
  have e1 : ∀ k, K0 + K2 + K4 + K5 ≤ k → laws_FnExactSendNext.j1 (k + 2) n r6 false w a t r1 r2 r3 r4 r5 r3 r4 r5 = some true := by
    intro k hk
    have h0' := h0 (k + 1) (by omega)
    have h2' := h2 (k + 1) (by omega)
    have h4' := h4 (k + 1) (by omega)
    have h5' := h5 (k + 1) (by omega)
    have b2' := b2 (k + 1) (by omega)
    have e2' := e2 k (by omega)
    simp only at h0' h2' h4' h5'
    simp only [laws_FnExactSendNext.j1, laws_markSender.f, laws_heldSender.f, laws_toSender.f, laws_eqParcel.f, laws_eqSender.f, Bool.false_eq_true, if_false, h0', h2', h4', h5', b2', Option.bind_some, hneg2, if_true, bne_self_eq_false, e2']
  have e0 : ∀ k, K0 + K1 + K2 + K3 + K4 + K5 ≤ k → laws_FnExactSendNext.j0 (k + 3) n r6 r6 false w a t r1 r2 r3 r4 r5 w a t r1 r2 r3 r4 r5 = some true := by
    intro k hk
    have h0' := h0 (k + 2) (by omega)
    have h1' := h1 (k + 2) (by omega)
    have h2' := h2 (k + 2) (by omega)
    have h3' := h3 (k + 2) (by omega)
    have e1' := e1 k (by omega)
    simp only at h0' h1' h2' h3'
    simp only [laws_FnExactSendNext.j0, laws_markSender.f, laws_toSender.f, laws_eqParcel.f, laws_eqSender.f, Bool.false_eq_true, if_false, h0', h1', h2', h3', Option.bind_some, hneg, if_true, bne_self_eq_false, e1']
  refine ⟨K0 + K1 + K2 + K3 + K4 + K5 + 3, ?_⟩
  have h0' := h0 (K0 + K1 + K2 + K3 + K4 + K5 + 3) (by omega)
  have h2' := h2 (K0 + K1 + K2 + K3 + K4 + K5 + 3) (by omega)
  have b1' := b1 (K0 + K1 + K2 + K3 + K4 + K5 + 3) (by omega)
  have b2' := b2 (K0 + K1 + K2 + K3 + K4 + K5 + 3) (by omega)
  have e0' := e0 (K0 + K1 + K2 + K3 + K4 + K5) (by omega)
  simp only at h0' h2'
  simp only [laws_FnExactSendNext.f, laws_szSender.f, hs, hnw, hnw', laws_toSender.f, laws_eqParcel.f, laws_eqSender.f, if_false, h0', h2', b1', b2', Option.bind_some, if_true, bne_self_eq_false, e0']

end Go.Proofs.Ytmlejakajcmbdaa.Pure
