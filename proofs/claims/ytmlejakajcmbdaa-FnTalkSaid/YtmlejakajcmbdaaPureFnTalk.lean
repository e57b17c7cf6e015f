/- 'FnTalk': for every input a drawn talk's answer is a front part of the words, done means all of them, sends are ticks; a perfect line is done in as many ticks as words. No condition. -/
import Derived.Test.YtmlejakajcmbdaaQFnTalkx10
import Derived.Test.YtmlejakajcmbdaaPlain
namespace Go.Proofs.Ytmlejakajcmbdaa.Pure
open Go.RowKit Go.Proofs.Ytmlejakajcmbdaa.PFnTalk Go.Proofs.Ytmlejakajcmbdaa.Plain Go.Proofs.YtmlejakajcmbdaaW.PrintWords Go.Proofs.YtmlejakajcmbdaaW.PrintLast
set_option linter.unusedVariables false
set_option linter.unusedSimpArgs false

theorem between_eq (a lo hi : Int) : impl_between.f a lo hi = some (decide (lo ≤ a ∧ a ≤ hi)) := by
  unfold impl_between.f
  split <;> simp <;> omega
theorem l24Sender_eq (w : List Int) (a t : Int) : spec_l24Sender.f w a t = some (decide ((w.length : Int) ≤ 30 ∧ 0 ≤ a ∧ a ≤ (w.length : Int) ∧ 0 ≤ t ∧ t ≤ 30)) := by
  unfold spec_l24Sender.f
  repeat' split
  all_goals refine congrArg some ?_
  all_goals first | (apply decide_eq_decide.2; omega) | (apply Eq.symm; apply decide_eq_false; omega)
theorem send_both (w : List Int) (a t n : Int) (hw : w.length ≤ 1048576) (ha : -9223372036854775808 ≤ a ∧ a < 9223372036854775808) (ht : -9223372036854775808 ≤ t ∧ t < 9223372036854775808) : ∃ r1 r2 r3 r4 r5 r6, (r3 : List Int).length ≤ 1048576 ∧ (r6 = true → (r3 = w ∧ r4 = a ∧ 0 ≤ r5 ∧ r5 ≤ 30) ∧ (0 ≤ r1 ∧ r1 < (w.length : Int) ∧ r2 = rd w r1) ∧ (n = 1 → r1 = a)) ∧ ((w.length : Int) ≤ 30 → 0 ≤ a → a < (w.length : Int) → 0 ≤ t → t ≤ 30 → n = 1 → r6 = true) ∧ ∀ k, 1 ≤ k → spec_SendNext.f k w a t n = some (r1, r2, r3, r4, r5, r6) ∧ impl_SendNext.f k w a t n = some (r1, r2, r3, r4, r5, r6) := by
  by_cases hv : (w.length : Int) ≤ 30 ∧ 0 ≤ a ∧ a < w.length ∧ 0 ≤ t ∧ t ≤ 30 ∧ 1 ≤ n ∧ n ≤ 10
  · obtain ⟨v1, v2, v3, v4, v5, v6, v7⟩ := hv
    have hwr : wrap64 ((w.length : Int) - a) = (w.length : Int) - a := wrap_in (by omega) (by omega)
    have hwt : wrap64 (t + 1) = t + 1 := wrap_in (by omega) (by omega)
    obtain ⟨m, hm, hm0, hm1⟩ : ∃ m : Int, m = mn n ((w.length : Int) - a) ∧ 0 < m ∧ m ≤ (w.length : Int) - a := ⟨_, rfl, by unfold mn; split <;> omega, by unfold mn; split <;> omega⟩
    have q0 : 0 ≤ Int.tmod t m := Int.tmod_nonneg _ v4
    have q1 : Int.tmod t m < m := Int.tmod_lt_of_pos _ hm0
    have hq : wrap64 (a + Int.tmod t m) = a + Int.tmod t m := wrap_in (by omega) (by omega)
    have g0 : 0 ≤ a + Int.tmod t m := by omega
    have g1 : a + Int.tmod t m < (w.length : Int) := by omega
    have hm2 : ¬ m = 0 := by omega
    have l2 : ([] : List Int).length + w.length < 17592186044416 := by simp; omega
    refine ⟨a + Int.tmod t m, rd w (a + Int.tmod t m), w, a, if t + 1 ≥ 30 then 0 else t + 1, true, hw, fun _ => ⟨⟨rfl, rfl, by split <;> omega, by split <;> omega⟩, ⟨g0, g1, rfl⟩, fun h => by
      have : m = 1 := by
        rw [hm, h]
        unfold mn
        split <;> omega
      rw [this] at q1 q0 ⊢
      omega⟩, fun _ _ _ _ _ _ => rfl, fun k hk => ?_⟩
    obtain ⟨k, rfl⟩ : ∃ k', k = k' + 1 := ⟨k - 1, by omega⟩
    have c1 : ((w.length : Int) ≤ 30 ∧ 0 ≤ a ∧ a ≤ (w.length : Int) ∧ 0 ≤ t ∧ t ≤ 30) := by omega
    have c2 : ¬ a = (w.length : Int) := by omega
    have c3 : ¬ n < 1 := by omega
    have c4 : ¬ n > 10 := by omega
    have c5 : ¬ (w.length : Int) > 30 := by omega
    have c6 : ¬ a < 0 := by omega
    have c7 : ¬ (w.length : Int) - a ≤ 0 := by omega
    constructor
    · simp only [spec_SendNext.f, l24Sender_eq, Option.bind_some, decide_eq_true c1, if_true, c2, c3, if_false, decide_eq_false c4, spec_SendNext.j0, Bool.false_eq_true, hwr, hwt]
      by_cases hc : (w.length : Int) - a > n
      · have hmn : m = n := by rw [hm]; unfold mn; rw [if_neg (by omega)]
        rw [hmn] at hq g0 g1 hm2 ⊢
        by_cases h30 : t + 1 ≥ 30
        · simp only [hc, if_true, hm2, if_false, h30, hq, g0, g1, l2, List.nil_append]
        · simp only [hc, if_true, hm2, if_false, h30, hq, g0, g1, l2, List.nil_append]
      · have hmn : m = (w.length : Int) - a := by
          rw [hm]
          unfold mn
          split <;> omega
        rw [hmn] at hq g0 g1 hm2 ⊢
        by_cases h30 : t + 1 ≥ 30
        · simp only [hc, if_true, hm2, if_false, h30, hq, g0, g1, l2, List.nil_append]
        · simp only [hc, if_true, hm2, if_false, h30, hq, g0, g1, l2, List.nil_append]
    · have c8 : (0 : Int) ≤ t ∧ t ≤ 30 := ⟨v4, v5⟩
      have c9 : (1 : Int) ≤ n ∧ n ≤ 10 := ⟨v6, v7⟩
      simp only [impl_SendNext.f, hwr, c5, c6, c7, if_false, between_eq, Option.bind_some, decide_eq_true c8, decide_eq_true c9, if_true, impl_SendNext.j0, Bool.not_true, Bool.false_eq_true, ← hm, hm2, hwt, hq, g0, g1, slices_Clone_int_int.f]
      by_cases h30 : t + 1 ≥ 30
      · simp only [h30, if_true, l2, List.nil_append, Option.bind_some]
      · simp only [h30, if_false, l2, if_true, List.nil_append, Option.bind_some]
  · refine ⟨0, 0, [], 0, 0, false, by simp, fun h => (by cases h), fun h1 h2 h3 h4 h5 h6 => (hv ⟨h1, h2, h3, h4, h5, by omega, by omega⟩).elim, fun k hk => ?_⟩
    obtain ⟨k, rfl⟩ : ∃ k', k = k' + 1 := ⟨k - 1, by omega⟩
    have j1 : spec_SendNext.j0 (k + 1) n true w a t = some (0, 0, [], 0, 0, false) := by simp [spec_SendNext.j0]
    have j2 : ∀ y, impl_SendNext.j0 (k + 1) n y true w a t = some (0, 0, [], 0, 0, false) := fun y => by simp [impl_SendNext.j0]
    constructor
    · simp only [spec_SendNext.f, l24Sender_eq, Option.bind_some]
      by_cases h1 : ((w.length : Int) ≤ 30 ∧ 0 ≤ a ∧ a ≤ (w.length : Int) ∧ 0 ≤ t ∧ t ≤ 30)
      · rw [decide_eq_true h1, if_pos rfl]
        by_cases h2 : a = (w.length : Int)
        · rw [if_pos h2]
          exact j1
        · rw [if_neg h2]
          by_cases h3 : n < 1
          · rw [if_pos h3]
            exact j1
          · rw [if_neg h3, decide_eq_true (show n > 10 by omega)]
            exact j1
      · rw [decide_eq_false h1, if_neg (by simp)]
        exact j1
    · simp only [impl_SendNext.f]
      by_cases h1 : (w.length : Int) > 30
      · rw [if_pos h1]
        exact j2 _
      · rw [if_neg h1]
        by_cases h2 : a < 0
        · rw [if_pos h2]
          exact j2 _
        · rw [if_neg h2]
          have hwr : wrap64 ((w.length : Int) - a) = (w.length : Int) - a := wrap_in (by omega) (by omega)
          rw [hwr]
          by_cases h3 : (w.length : Int) - a ≤ 0
          · rw [if_pos h3]
            exact j2 _
          · rw [if_neg h3]
            simp only [between_eq, Option.bind_some]
            by_cases h4 : (0 : Int) ≤ t ∧ t ≤ 30
            · rw [decide_eq_true h4, if_pos rfl, decide_eq_false (show ¬ ((1 : Int) ≤ n ∧ n ≤ 10) by omega)]
              exact j2 _
            · rw [decide_eq_false h4, if_neg (by simp)]
              exact j2 _
theorem take_same : ∀ (k : Nat) (g : List Int) (l : List S54) (n i : Int), impl_TakeParcels.l0 k g l n i = spec_TakeParcels.l0 k g l n i
  | 0, _, _, _, _ => rfl
  | k + 1, g, l, n, i => by simp only [impl_TakeParcels.l0, spec_TakeParcels.l0, take_same k]
theorem take_ends (Q : List Int → Prop) (g : List Int) (l : List S54) (hg : g.length ≤ 30) (hb : l.length ≤ 1048576) (hQ : ∀ s p, p ∈ l → p.f0 = (s.length : Int) → Q s → Q (s ++ [p.f1])) (hQ0 : Q g) : ∃ r : List Int × Int, (r.1.length ≤ 30 ∧ r.2 = (r.1.length : Int) ∧ Q r.1) ∧ Ev (fun k => spec_TakeParcels.l0 k g l (l.length : Int) 0) r := by
  obtain ⟨r, hp, h⟩ := one_while (fun k (s : List Int × Int) => spec_TakeParcels.l0 k s.1 l (l.length : Int) s.2) (fun d s => ∃ i : Nat, s.2 = (i : Int) ∧ i + d = l.length ∧ s.1.length ≤ 30 ∧ Q s.1) (fun r => r.1.length ≤ 30 ∧ r.2 = (r.1.length : Int) ∧ Q r.1)
    (by
      rintro d ⟨s, j⟩ ⟨i, hj, hd, hs, hq⟩
      obtain rfl : j = (i : Int) := hj
      simp only at hs hq
      by_cases hi : i < l.length
      · right
        have h1 : (i : Int) < (l.length : Int) := by omega
        have h2 : (0 : Int) ≤ (i : Int) := by omega
        have h3 : s.length < 17592186044416 := by omega
        have hmem : rd_T54 l (i : Int) ∈ l := by
          have e : rd_T54 l (i : Int) = l[i] := by simp [rd_T54, hi]
          rw [e]
          exact List.getElem_mem _
        by_cases hc : (rd_T54 l (i : Int)).f0 = (s.length : Int) ∧ (s.length : Int) < 30
        · refine ⟨d - 1, (s ++ [(rd_T54 l (i : Int)).f1], ((i + 1 : Nat) : Int)), by omega, ⟨i + 1, rfl, by omega, by simp only [List.length_append, List.length_singleton]; omega, hQ s _ hmem hc.1 hq⟩, fun r hr => Ev.back 1 0 (fun k _ => ?_) hr⟩
          simp only [spec_TakeParcels.l0, h1, h2, if_true, hc.1, hc.2, h3, wrap_succ i (by omega)]
        · refine ⟨d - 1, (s, ((i + 1 : Nat) : Int)), by omega, ⟨i + 1, rfl, by omega, hs, hq⟩, fun r hr => Ev.back 1 0 (fun k _ => ?_) hr⟩
          simp only [spec_TakeParcels.l0, h1, h2, if_true, wrap_succ i (by omega)]
          repeat' split
          all_goals first | rfl | (exfalso; exact hc ⟨‹_›, ‹_›⟩)
      · left
        have h1 : ¬ (i : Int) < (l.length : Int) := by omega
        exact ⟨(s, (s.length : Int)), ⟨hs, rfl, hq⟩, Ev.at 1 0 (fun k _ => by simp only [spec_TakeParcels.l0, h1, if_false])⟩) l.length (g, 0) ⟨0, rfl, by omega, hg, hQ0⟩
  exact ⟨r, hp, h⟩
def okP (w : List Int) (p : S54) : Prop := 0 ≤ p.f0 ∧ p.f0 < (w.length : Int) ∧ p.f1 = rd w p.f0
def Pre (w g : List Int) : Prop := g.length ≤ w.length ∧ ∀ i : Nat, i < g.length → rd g (i : Int) = rd w (i : Int)
theorem pre_more (w s : List Int) (p : S54) (hp : okP w p) (he : p.f0 = (s.length : Int)) (h : Pre w s) : Pre w (s ++ [p.f1]) := by
  obtain ⟨p0, p1, p2⟩ := hp
  refine ⟨by simp only [List.length_append, List.length_singleton]; omega, fun i hi => ?_⟩
  simp only [List.length_append, List.length_singleton] at hi
  by_cases hs : i < s.length
  · rw [← h.2 i hs]
    simp [rd, List.getElem?_append_left hs]
  · obtain rfl : i = s.length := by omega
    rw [← he, ← p2]
    rw [he]
    simp [rd]
theorem take_both (w g : List Int) (L : List S54) (hg : g.length ≤ 30) (hb : L.length ≤ 1048576) (hL : ∀ p, p ∈ L → okP w p) (hw : Pre w g) : ∃ G m, (G : List Int).length ≤ 30 ∧ m = (G.length : Int) ∧ (Pre w G ∧ g.length ≤ G.length) ∧ ∃ K, ∀ k, K ≤ k → spec_TakeParcels.f k g L = some (G, m) ∧ impl_TakeParcels.f k g L = some (G, m) := by
  obtain ⟨⟨G, m⟩, hr, K5, h5⟩ := take_ends (fun s => Pre w s ∧ g.length ≤ s.length) g L hg hb (fun s p hp he hs => ⟨pre_more w s p (hL p hp) he hs.1, by simp only [List.length_append, List.length_singleton]; omega⟩) ⟨hw, Nat.le_refl _⟩
  refine ⟨G, m, hr.1, hr.2.1, hr.2.2, K5, fun k hk => ?_⟩
  have h5' := h5 k hk
  have h6' : impl_TakeParcels.l0 k g L (L.length : Int) 0 = some (G, m) := (take_same _ _ _ _ _).trans h5'
  have l2 : ([] : List Int).length + g.length < 17592186044416 := by simp; omega
  have l3 : ¬ (g.length : Int) > 30 := by omega
  simp only at h5'
  simp only [spec_TakeParcels.f, impl_TakeParcels.f, l3, if_false, Option.bind_some, l2, if_true, List.nil_append, slices_Clone_int_int.f, h5', h6', and_self]
def okFates (l : List Int) : Bool := decide (1 ≤ l.length ∧ l.length ≤ 60) && (List.range l.length).all (fun i => decide (0 ≤ rd l (i : Int) ∧ rd l (i : Int) ≤ 3))
theorem spec_fates (l : List Int) (h : l.length ≤ 1048576) : Ev (fun k => spec_l24Fates.f k l) (okFates l) := by
  by_cases h1 : (l.length : Int) < 1
  · have e : okFates l = false := by
      unfold okFates
      rw [decide_eq_false (by omega)]
      rfl
    rw [e]
    exact Ev.at 1 0 (fun k _ => by simp only [spec_l24Fates.f, h1, if_true, spec_l24Fates.j0])
  · by_cases h2 : (l.length : Int) > 60
    · have e : okFates l = false := by
        unfold okFates
        rw [decide_eq_false (by omega)]
        rfl
      rw [e]
      exact Ev.at 1 0 (fun k _ => by simp only [spec_l24Fates.f, h1, if_false, decide_eq_true h2, spec_l24Fates.j0, if_true])
    · have e : okFates l = (List.range l.length).all (fun i => decide (0 ≤ rd l (i : Int) ∧ rd l (i : Int) ≤ 3)) := by
        unfold okFates
        rw [decide_eq_true (by omega)]
        rfl
      have hl := all_loop (fun k i => spec_l24Fates.l0 k l (l.length : Int) i) l.length (fun i => decide (0 ≤ rd l (i : Int) ∧ rd l (i : Int) ≤ 3)) true false
        (Ev.at 1 0 (fun k _ => by simp [spec_l24Fates.l0]))
        (fun i hi hp => ⟨0, fun k _ => by
          have hp' := of_decide_eq_true hp
          have g1 : (i : Int) < (l.length : Int) := by omega
          have g2 : (0 : Int) ≤ (i : Int) := by omega
          have g3 : ¬ rd l (i : Int) < 0 := by omega
          have g4 : ¬ rd l (i : Int) > 3 := by omega
          simp only [spec_l24Fates.l0, g1, g2, g3, g4, if_true, if_false, wrap_succ i (by omega)]⟩)
        (fun i hi hp => ⟨0, fun k _ => by
          have hp' := of_decide_eq_false hp
          have g1 : (i : Int) < (l.length : Int) := by omega
          have g2 : (0 : Int) ≤ (i : Int) := by omega
          simp only [spec_l24Fates.l0, g1, g2, if_true]
          by_cases g3 : rd l (i : Int) < 0
          · rw [if_pos g3]
          · rw [if_neg g3, if_pos (by omega)]⟩)
      rw [e]
      refine Ev.back (f := fun k => spec_l24Fates.l0 k l (l.length : Int) 0) 1 0 (fun k _ => ?_) (by
        cases hx : (List.range l.length).all (fun i => decide (0 ≤ rd l (i : Int) ∧ rd l (i : Int) ≤ 3)) <;> simpa only [hx, if_true, Bool.false_eq_true, if_false] using hl)
      simp only [spec_l24Fates.f, h1, if_false, decide_eq_false h2, spec_l24Fates.j0, Bool.false_eq_true]
theorem impl_fates (l : List Int) (h : l.length ≤ 1048576) : Ev (fun k => impl_goodFates.f k l) (okFates l) := by
  have hl := all_loop (fun k i => impl_goodFates.l0 k l l (l.length : Int) i) l.length (fun i => decide (0 ≤ rd l (i : Int) ∧ rd l (i : Int) ≤ 3)) (decide (1 ≤ l.length ∧ l.length ≤ 60)) false
    (Ev.at 1 0 (fun k _ => by
      have g1 : ¬ (l.length : Int) < (l.length : Int) := by omega
      simp only [impl_goodFates.l0, g1, if_false, between_eq, Option.bind_some]
      exact congrArg some (decide_eq_decide.2 (by omega))))
    (fun i hi hp => ⟨0, fun k _ => by
      have hp' := of_decide_eq_true hp
      have g1 : (i : Int) < (l.length : Int) := by omega
      have g2 : (0 : Int) ≤ (i : Int) := by omega
      simp only [impl_goodFates.l0, g1, g2, if_true, between_eq, Option.bind_some, decide_eq_true hp', wrap_succ i (by omega)]⟩)
    (fun i hi hp => ⟨0, fun k _ => by
      have hp' := of_decide_eq_false hp
      have g1 : (i : Int) < (l.length : Int) := by omega
      have g2 : (0 : Int) ≤ (i : Int) := by omega
      simp only [impl_goodFates.l0, g1, g2, if_true, between_eq, Option.bind_some, decide_eq_false hp', Bool.false_eq_true, if_false]⟩)
  have e : okFates l = (if (List.range l.length).all (fun i => decide (0 ≤ rd l (i : Int) ∧ rd l (i : Int) ≤ 3)) = true then decide (1 ≤ l.length ∧ l.length ≤ 60) else false) := by
    unfold okFates
    cases (List.range l.length).all (fun i => decide (0 ≤ rd l (i : Int) ∧ rd l (i : Int) ≤ 3)) <;> simp
  rw [e]
  exact hl
theorem okFates_len {l : List Int} (h : okFates l = true) : 1 ≤ l.length ∧ l.length ≤ 60 := by
  unfold okFates at h
  rw [Bool.and_eq_true] at h
  exact of_decide_eq_true h.1
def comeOf (f : Int) (late : List S54) (p : S54) : List S54 := if f = 0 then late ++ [p] else if f = 2 then late ++ [p] ++ [p] else late
def lateOf (f : Int) (p : S54) : List S54 := if f = 3 then [p] else []
def ackOf (b a n : Int) : Int := if b = 0 ∨ b = 2 then mx a n else a
def lackOf (z b n : Int) : Int := if b = 3 then n else z
theorem spec_s1 (k : Nat) (w there back : List Int) (n ticks : Int) (late : List S54) (la a t : Int) (got : List Int) (s i : Int) (d : Bool) (hi : i < ticks) : spec_TalkAll.l0 (k + 1) w n there back ticks late la w a t got s i d = spec_TalkAll.j2 k w n there back ticks late w (mx a la) t got s i d := by
  by_cases h : la > a
  · have e : mx a la = la := if_pos h
    simp only [spec_TalkAll.l0, hi, h, if_true, e]
  · have e : mx a la = a := if_neg h
    simp only [spec_TalkAll.l0, hi, h, if_true, if_false, e]
theorem spec_s2 (k : Nat) (w there back : List Int) (n ticks : Int) (late : List S54) (a t : Int) (got : List Int) (s i : Int) (d : Bool) (p0 p1 t' : Int) (hs : spec_SendNext.f k w a t n = some (p0, p1, w, a, t', true)) (h1 : 1 ≤ there.length) (hl : late.length ≤ 60) (h0 : 0 ≤ s) : spec_TalkAll.j2 (k + 1) w n there back ticks late w a t got s i d = spec_TalkAll.j3 k w n there back ticks (lateOf (rd there (Int.tmod s (there.length : Int))) ⟨p0, p1⟩) 0 (comeOf (rd there (Int.tmod s (there.length : Int))) late ⟨p0, p1⟩) w a t' got s i d := by
  have q0 : 0 ≤ Int.tmod s (there.length : Int) := Int.tmod_nonneg _ h0
  have q1 : Int.tmod s (there.length : Int) < (there.length : Int) := Int.tmod_lt_of_pos _ (by omega)
  have z1 : ¬ (there.length : Int) = 0 := by omega
  have l1 : late.length < 8796093022208 := by omega
  have l2 : late.length + 1 < 8796093022208 := by omega
  simp only [spec_TalkAll.j2, hs, Option.bind_some, if_true, z1, if_false, q0, q1]
  generalize rd there (Int.tmod s (there.length : Int)) = f
  unfold comeOf lateOf
  by_cases f0 : f = 0
  · simp [f0, l1]
  · by_cases f2 : f = 2
    · simp [f2, l1, l2]
    · by_cases f3 : f = 3
      · simp [f3]
      · simp [f0, f2, f3]
theorem spec_s3 (k : Nat) (w there back : List Int) (n ticks : Int) (late come : List S54) (la a t : Int) (got : List Int) (s i : Int) (d : Bool) (got' : List Int) (m : Int) (ht : spec_TakeParcels.f (k + 1) got come = some (got', m)) (h1 : 1 ≤ back.length) (h0 : 0 ≤ s) : spec_TalkAll.j3 (k + 2) w n there back ticks late la come w a t got s i d = spec_TalkAll.l0 k w n there back ticks late (lackOf la (rd back (Int.tmod s (back.length : Int))) m) w (ackOf (rd back (Int.tmod s (back.length : Int))) a m) t got' (wrap64 (s + 1)) (wrap64 (i + 1)) d := by
  have q0 : 0 ≤ Int.tmod s (back.length : Int) := Int.tmod_nonneg _ h0
  have q1 : Int.tmod s (back.length : Int) < (back.length : Int) := Int.tmod_lt_of_pos _ (by omega)
  have z1 : ¬ (back.length : Int) = 0 := by omega
  simp only [spec_TalkAll.j3, ht, Option.bind_some, if_true, z1, if_false, q0, q1]
  generalize rd back (Int.tmod s (back.length : Int)) = b
  by_cases b0 : b = 0
  · by_cases h : m > a
    · simp [spec_TalkAll.j4, ackOf, lackOf, mx, h, b0]
    · simp [spec_TalkAll.j4, ackOf, lackOf, mx, h, b0]
  · by_cases b2 : b = 2
    · by_cases h : m > a
      · simp [spec_TalkAll.j4, ackOf, lackOf, mx, h, b2]
      · simp [spec_TalkAll.j4, ackOf, lackOf, mx, h, b2]
    · by_cases b3 : b = 3
      · simp [spec_TalkAll.j4, ackOf, lackOf, b3]
      · simp [spec_TalkAll.j4, ackOf, lackOf, b0, b2, b3]
theorem impl_s2 (k : Nat) (w there back : List Int) (n ticks : Int) (late : List S54) (la a t : Int) (got : List Int) (s i : Int) (d : Bool) (p0 p1 t' : Int) (hi : i < ticks) (hs : impl_SendNext.f k w (mx a la) t n = some (p0, p1, w, mx a la, t', true)) (h1 : 1 ≤ there.length) (hl : late.length ≤ 60) (h0 : 0 ≤ s) : impl_TalkAll.l0 (k + 1) w n there back ticks late la w a t got s i d = impl_TalkAll.j2 k w n there back ticks (lateOf (rd there (Int.tmod s (there.length : Int))) ⟨p0, p1⟩) (-1) (comeOf (rd there (Int.tmod s (there.length : Int))) late ⟨p0, p1⟩) w (mx a la) t' got s i d := by
  have q0 : 0 ≤ Int.tmod s (there.length : Int) := Int.tmod_nonneg _ h0
  have q1 : Int.tmod s (there.length : Int) < (there.length : Int) := Int.tmod_lt_of_pos _ (by omega)
  have z1 : ¬ (there.length : Int) = 0 := by omega
  have l1 : late.length < 8796093022208 := by omega
  have l2 : late.length + 2 < 8796093022208 := by omega
  simp only [impl_TalkAll.l0, hi, hs, Option.bind_some, if_true, z1, if_false, q0, q1]
  generalize rd there (Int.tmod s (there.length : Int)) = f
  unfold comeOf lateOf
  by_cases f0 : f = 0
  · simp [f0, l1]
  · by_cases f2 : f = 2
    · simp [f2, l1, l2]
    · by_cases f3 : f = 3
      · simp [f3]
      · simp [f0, f2, f3]
theorem impl_s3 (k : Nat) (w there back : List Int) (n ticks : Int) (late come : List S54) (la a t : Int) (got : List Int) (s i : Int) (d : Bool) (got' : List Int) (m : Int) (ht : impl_TakeParcels.f (k + 1) got come = some (got', m)) (h1 : 1 ≤ back.length) (h0 : 0 ≤ i) : impl_TalkAll.j2 (k + 2) w n there back ticks late la come w a t got s i d = impl_TalkAll.l0 k w n there back ticks late (lackOf la (rd back (Int.tmod i (back.length : Int))) m) w (ackOf (rd back (Int.tmod i (back.length : Int))) a m) t got' (wrap64 (s + 1)) (wrap64 (i + 1)) d := by
  have q0 : 0 ≤ Int.tmod i (back.length : Int) := Int.tmod_nonneg _ h0
  have q1 : Int.tmod i (back.length : Int) < (back.length : Int) := Int.tmod_lt_of_pos _ (by omega)
  have z1 : ¬ (back.length : Int) = 0 := by omega
  simp only [impl_TalkAll.j2, ht, Option.bind_some, if_true, z1, if_false, q0, q1]
  generalize rd back (Int.tmod i (back.length : Int)) = b
  by_cases b0 : b = 0
  · simp [impl_TalkAll.j3, ackOf, lackOf, b0]
  · by_cases b2 : b = 2
    · simp [impl_TalkAll.j3, ackOf, lackOf, b2]
    · by_cases b3 : b = 3
      · simp [impl_TalkAll.j3, ackOf, lackOf, b3]
      · simp [impl_TalkAll.j3, ackOf, lackOf, b0, b2, b3]
theorem comeOf_len (f : Int) (late : List S54) (p : S54) (h : late.length ≤ 1) : (comeOf f late p).length ≤ 3 := by
  unfold comeOf
  repeat' split
  all_goals (try simp only [List.length_append, List.length_singleton])
  all_goals omega
theorem lateOf_len (f : Int) (p : S54) : (lateOf f p).length ≤ 1 := by
  unfold lateOf
  split <;> simp
theorem comeOf_ok (w : List Int) (f : Int) (late : List S54) (p : S54) (h : ∀ q, q ∈ late → okP w q) (hp : okP w p) : ∀ q, q ∈ comeOf f late p → okP w q := by
  unfold comeOf
  repeat' split
  all_goals intro q hq
  all_goals (try simp only [List.mem_append, List.mem_cons, List.not_mem_nil, or_false] at hq)
  · rcases hq with h1 | rfl
    · exact h q h1
    · exact hp
  · rcases hq with (h1 | rfl) | rfl
    · exact h q h1
    · exact hp
    · exact hp
  · exact h q hq
theorem lateOf_ok (w : List Int) (f : Int) (p : S54) (hp : okP w p) : ∀ q, q ∈ lateOf f p → okP w q := by
  unfold lateOf
  split
  · intro q hq
    simp only [List.mem_cons, List.not_mem_nil, or_false] at hq
    exact hq ▸ hp
  · intro q hq
    cases hq
theorem talk_both (w there back : List Int) (n : Int) (T : Nat) (hw : w.length ≤ 1048576) (hT : T ≤ 400) (ht : 1 ≤ there.length) (hb : 1 ≤ back.length) : ∃ r : List Int × Int × Int × Bool × Bool, (r.1.length ≤ 30 ∧ Pre w r.1 ∧ (r.2.2.2.1 = true → r.1.length = w.length) ∧ r.2.1 = r.2.2.1 ∧ r.2.2.1 ≤ (T : Int)) ∧ Ev (fun k => spec_TalkAll.l0 k w n there back (T : Int) [] 0 w 0 0 [] 0 0 false) r ∧ Ev (fun k => impl_TalkAll.l0 k w n there back (T : Int) [] (-1) w 0 0 [] 0 0 false) r := by
  obtain ⟨r, q, hp, h1, h2⟩ := two_while
    (fun k (s : List S54 × Int × Int × Int × List Int × Int) => spec_TalkAll.l0 k w n there back (T : Int) s.1 s.2.1 w s.2.2.1 s.2.2.2.1 s.2.2.2.2.1 s.2.2.2.2.2 s.2.2.2.2.2 false)
    (fun k (s : List S54 × Int × Int × Int × List Int × Int) => impl_TalkAll.l0 k w n there back (T : Int) s.1 s.2.1 w s.2.2.1 s.2.2.2.1 s.2.2.2.2.1 s.2.2.2.2.2 s.2.2.2.2.2 false)
    (fun d s t => ∃ (late : List S54) (la lb a tt : Int) (got : List Int) (i : Nat), s = (late, la, a, tt, got, (i : Int)) ∧ t = (late, lb, a, tt, got, (i : Int)) ∧ i + d = T ∧ late.length ≤ 1 ∧ 0 ≤ a ∧ a ≤ 30 ∧ la ≤ 30 ∧ (lb = la ∨ lb = -1 ∧ la = 0) ∧ 0 ≤ tt ∧ tt ≤ 30 ∧ got.length ≤ 30 ∧ (∀ q, q ∈ late → okP w q) ∧ Pre w got ∧ a ≤ (got.length : Int) ∧ la ≤ (got.length : Int))
    (fun r q => r = q ∧ (r.1.length ≤ 30 ∧ Pre w r.1 ∧ (r.2.2.2.1 = true → r.1.length = w.length) ∧ r.2.1 = r.2.2.1 ∧ r.2.2.1 ≤ (T : Int)))
    (by
      rintro d s t ⟨late, la, lb, a, tt, got, i, rfl, rfl, hd, hlate, ha0, ha1, hla, hlb, ht0, ht1, hg, hok, hpre, hag, hlg⟩
      have hmg : mx a la ≤ (got.length : Int) := by unfold mx; split <;> omega
      have hdone : (mx a la == (w.length : Int)) = true → got.length = w.length := fun h => by
        have := beq_iff_eq.1 h
        have := hpre.1
        omega
      have hmx : mx a lb = mx a la := by
        rcases hlb with rfl | ⟨rfl, rfl⟩
        · rfl
        · unfold mx
          rw [if_neg (by omega), if_neg (by omega)]
      have hm0 : 0 ≤ mx a la := by unfold mx; split <;> omega
      have hm1 : mx a la ≤ 30 := by unfold mx; split <;> omega
      have hneg : mx (mx a la) (-1) = mx a la := if_neg (by omega)
      have l60 : late.length ≤ 60 := Nat.le_trans hlate (by decide)
      have i0 : (0 : Int) ≤ (i : Int) := Int.natCast_nonneg i
      by_cases hi : (i : Int) < (T : Int)
      · obtain ⟨r1, r2, r3, r4, r5, r6, hr3, hr6, _, hs⟩ := send_both w (mx a la) tt n hw (by omega) (by omega)
        cases r6 with
        | false =>
          left
          refine ⟨(got, (i : Int), (i : Int), (mx a la == (w.length : Int)), true), _, ⟨rfl, hg, hpre, hdone, rfl, by simp only; omega⟩, ?_, ?_⟩
          · refine Ev.at 3 0 (fun k _ => ?_)
            have hs' := (hs (k + 1) (by omega)).1
            have z : ¬ (0 : Int) > mx a la := by omega
            show spec_TalkAll.l0 (k + 2 + 1) w n there back (T : Int) late la w a tt got (i : Int) (i : Int) false = _
            rw [spec_s1 _ _ _ _ _ _ _ _ _ _ _ _ _ _ hi]
            simp only [spec_TalkAll.j2, hs', Option.bind_some, Bool.false_eq_true, if_false, z]
          · refine Ev.at 3 0 (fun k _ => ?_)
            have hs' := (hs (k + 2) (by omega)).2
            simp only [impl_TalkAll.l0, hi, if_true, hmx, hs', Option.bind_some, Bool.false_eq_true, if_false, hneg]
        | true =>
          right
          obtain ⟨⟨e3, e4, e5, e6⟩, hp3, _⟩ := hr6 rfl
          subst e3 e4
          obtain ⟨G, m, hG, hm, hGw, K, hk⟩ := take_both _ got (comeOf (rd there (Int.tmod (i : Int) (there.length : Int))) late ⟨r1, r2⟩) hg (by have := comeOf_len (rd there (Int.tmod (i : Int) (there.length : Int))) late ⟨r1, r2⟩ hlate; omega) (comeOf_ok _ _ late ⟨r1, r2⟩ hok hp3) hpre
          have hwr : wrap64 ((i : Int) + 1) = ((i + 1 : Nat) : Int) := wrap_succ i (by omega)
          refine ⟨d - 1, (lateOf (rd there (Int.tmod (i : Int) (there.length : Int))) ⟨r1, r2⟩, lackOf 0 (rd back (Int.tmod (i : Int) (back.length : Int))) m, ackOf (rd back (Int.tmod (i : Int) (back.length : Int))) (mx a la) m, r5, G, ((i + 1 : Nat) : Int)), (lateOf (rd there (Int.tmod (i : Int) (there.length : Int))) ⟨r1, r2⟩, lackOf (-1) (rd back (Int.tmod (i : Int) (back.length : Int))) m, ackOf (rd back (Int.tmod (i : Int) (back.length : Int))) (mx a la) m, r5, G, ((i + 1 : Nat) : Int)), by omega, ⟨_, _, _, _, _, _, i + 1, rfl, rfl, by omega, lateOf_len _ _, ?_, ?_, ?_, ?_, e5, e6, hG, lateOf_ok _ _ _ hp3, hGw.1, ?_, ?_⟩, fun r hr => Ev.back 4 K (fun k hkk => ?_) hr, fun r hr => Ev.back 3 K (fun k hkk => ?_) hr⟩
          · unfold ackOf mx
            unfold mx at hm0
            repeat' split
            all_goals omega
          · unfold ackOf
            split
            · unfold mx
              unfold mx at hm1
              repeat' split
              all_goals omega
            · exact hm1
          · unfold lackOf
            split <;> omega
          · unfold lackOf
            split
            · exact .inl rfl
            · exact .inr ⟨rfl, rfl⟩
          · have := hGw.2
            unfold ackOf
            split
            · unfold mx at hmg ⊢
              repeat' split
              all_goals omega
            · omega
          · have := hGw.2
            unfold lackOf
            split <;> omega
          · show spec_TalkAll.l0 (k + 3 + 1) _ n there back (T : Int) late la _ a tt got (i : Int) (i : Int) false = _
            rw [spec_s1 _ _ _ _ _ _ _ _ _ _ _ _ _ _ hi, spec_s2 (k + 2) _ _ _ _ _ _ _ _ _ _ _ _ _ _ _ (hs (k + 2) (Nat.le_add_left 1 (k + 1))).1 ht l60 i0, spec_s3 k _ _ _ _ _ _ _ _ _ _ _ _ _ _ _ _ (hk (k + 1) (Nat.le_succ_of_le hkk)).1 hb i0, hwr]
          · show impl_TalkAll.l0 (k + 2 + 1) _ n there back (T : Int) late lb _ a tt got (i : Int) (i : Int) false = _
            have hs2 := (hs (k + 2) (Nat.le_add_left 1 (k + 1))).2
            rw [← hmx] at hs2
            rw [impl_s2 (k + 2) _ _ _ _ _ _ _ _ _ _ _ _ _ _ _ _ hi hs2 ht l60 i0, impl_s3 k _ _ _ _ _ _ _ _ _ _ _ _ _ _ _ _ (hk (k + 1) (Nat.le_succ_of_le hkk)).2 hb i0, hwr, hmx]
      · left
        refine ⟨(got, (i : Int), (i : Int), (mx a la == (w.length : Int)), true), _, ⟨rfl, hg, hpre, hdone, rfl, by simp only; omega⟩, ?_, ?_⟩
        · refine Ev.at 1 0 (fun k _ => ?_)
          by_cases h : la > a
          · have e : mx a la = la := if_pos h
            simp only [spec_TalkAll.l0, hi, if_false, h, if_true, e]
          · have e : mx a la = a := if_neg h
            simp only [spec_TalkAll.l0, hi, if_false, h, e]
        · refine Ev.at 1 0 (fun k _ => ?_)
          simp only [impl_TalkAll.l0, hi, if_false, hmx])
    T ([], 0, 0, 0, [], 0) ([], -1, 0, 0, [], 0) ⟨[], 0, -1, 0, 0, [], 0, rfl, rfl, by omega, by simp, by omega, by omega, by omega, .inr ⟨rfl, rfl⟩, by omega, by omega, by simp, (fun q hq => by cases hq), ⟨by simp, fun i hi => by simp at hi⟩, by simp, by simp⟩
  obtain ⟨rfl, hl⟩ := hp
  exact ⟨r, hl, h1, h2⟩
theorem talk_same (w there back : List Int) (n ticks : Int) (hw : w.length ≤ 1048576) (ht : there.length ≤ 1048576) (hb : back.length ≤ 1048576) : ∃ (g : List Int) (s i : Int) (d o : Bool), g.length ≤ 30 ∧ (o = true → (w.length : Int) ≤ 30 ∧ Pre w g ∧ (d = true → g.length = w.length) ∧ s = i ∧ i ≤ ticks) ∧ ∃ K, ∀ k, K ≤ k → spec_TalkAll.f k w n there back ticks = some (g, s, i, d, o) ∧ impl_TalkAll.f k w n there back ticks = some (g, s, i, d, o) := by
  have j1 : ∀ k, spec_TalkAll.j0 (k + 1) w n there back ticks true = some ([], 0, 0, false, false) := fun k => by simp [spec_TalkAll.j0]
  have j2 : ∀ k, impl_TalkAll.j0 (k + 1) w n there back ticks true = some ([], 0, 0, false, false) := fun k => by simp [impl_TalkAll.j0]
  by_cases h1 : (w.length : Int) > 30
  · refine ⟨[], 0, 0, false, false, by simp, fun h => (by cases h), 1, fun k hk => ?_⟩
    obtain ⟨k, rfl⟩ : ∃ k', k = k' + 1 := ⟨k - 1, by omega⟩
    simp only [spec_TalkAll.f, impl_TalkAll.f, h1, if_true, j1, j2, and_self]
  by_cases h2 : (1 : Int) ≤ n ∧ n ≤ 10
  case neg =>
    refine ⟨[], 0, 0, false, false, by simp, fun h => (by cases h), 1, fun k hk => ?_⟩
    obtain ⟨k, rfl⟩ : ∃ k', k = k' + 1 := ⟨k - 1, by omega⟩
    simp only [spec_TalkAll.f, impl_TalkAll.f, h1, if_false, between_eq, Option.bind_some, decide_eq_false h2, Bool.false_eq_true, j2, and_true]
    by_cases h3 : n < 1
    · rw [if_pos h3]
      exact j1 _
    · rw [if_neg h3, if_pos (by omega)]
      exact j1 _
  have h3 : ¬ n < 1 := by omega
  have h4 : ¬ n > 10 := by omega
  obtain ⟨K1, f1⟩ := spec_fates there ht
  obtain ⟨K2, f2⟩ := impl_fates there ht
  obtain ⟨K3, f3⟩ := spec_fates back hb
  obtain ⟨K4, f4⟩ := impl_fates back hb
  simp only at f1 f2 f3 f4
  cases hx : okFates there with
  | false =>
    refine ⟨[], 0, 0, false, false, by simp, fun h => (by cases h), 1 + K1 + K2, fun k hk => ?_⟩
    have f1' := f1 k (by omega)
    have f2' := f2 k (by omega)
    rw [hx] at f1' f2'
    obtain ⟨k, rfl⟩ : ∃ k', k = k' + 1 := ⟨k - 1, by omega⟩
    simp only [spec_TalkAll.f, impl_TalkAll.f, h1, if_false, between_eq, Option.bind_some, decide_eq_true h2, if_true, h3, h4, f1', f2', Bool.false_eq_true, j1, j2, and_self]
  | true =>
    cases hy : okFates back with
    | false =>
      refine ⟨[], 0, 0, false, false, by simp, fun h => (by cases h), 1 + K1 + K2 + K3 + K4, fun k hk => ?_⟩
      have f1' := f1 k (by omega)
      have f2' := f2 k (by omega)
      have f3' := f3 k (by omega)
      have f4' := f4 k (by omega)
      rw [hx] at f1' f2'
      rw [hy] at f3' f4'
      obtain ⟨k, rfl⟩ : ∃ k', k = k' + 1 := ⟨k - 1, by omega⟩
      simp only [spec_TalkAll.f, impl_TalkAll.f, h1, if_false, between_eq, Option.bind_some, decide_eq_true h2, if_true, h3, h4, f1', f2', f3', f4', Bool.false_eq_true, j1, j2, and_self]
    | true =>
      by_cases h5 : (0 : Int) ≤ ticks ∧ ticks ≤ 400
      · obtain ⟨T, rfl⟩ : ∃ T : Nat, ticks = (T : Int) := ⟨ticks.toNat, by omega⟩
        obtain ⟨⟨g, s, i, d, o⟩, hg, ⟨K5, e5⟩, ⟨K6, e6⟩⟩ := talk_both w there back n T hw (by omega) (okFates_len hx).1 (okFates_len hy).1
        refine ⟨g, s, i, d, o, hg.1, fun _ => ⟨by omega, hg.2⟩, 1 + K1 + K2 + K3 + K4 + K5 + K6, fun k hk => ?_⟩
        have f1' := f1 k (by omega)
        have f2' := f2 k (by omega)
        have f3' := f3 k (by omega)
        have f4' := f4 k (by omega)
        rw [hx] at f1' f2'
        rw [hy] at f3' f4'
        obtain ⟨k, rfl⟩ : ∃ k', k = k' + 1 := ⟨k - 1, by omega⟩
        have e5' := e5 k (by omega)
        have e6' := e6 k (by omega)
        simp only at e5' e6'
        have h6 : ¬ (T : Int) < 0 := by omega
        have h7 : ¬ (T : Int) > 400 := by omega
        simp only [spec_TalkAll.f, impl_TalkAll.f, h1, if_false, between_eq, Option.bind_some, decide_eq_true h2, if_true, h3, h4, f1', f2', f3', f4', decide_eq_true h5, Bool.not_true, h6, decide_eq_false h7, spec_TalkAll.j0, impl_TalkAll.j0, Bool.false_eq_true, e5', e6', and_self]
      · refine ⟨[], 0, 0, false, false, by simp, fun h => (by cases h), 1 + K1 + K2 + K3 + K4, fun k hk => ?_⟩
        have f1' := f1 k (by omega)
        have f2' := f2 k (by omega)
        have f3' := f3 k (by omega)
        have f4' := f4 k (by omega)
        rw [hx] at f1' f2'
        rw [hy] at f3' f4'
        obtain ⟨k, rfl⟩ : ∃ k', k = k' + 1 := ⟨k - 1, by omega⟩
        simp only [spec_TalkAll.f, impl_TalkAll.f, h1, if_false, between_eq, Option.bind_some, decide_eq_true h2, if_true, h3, h4, f1', f2', f3', f4', decide_eq_false h5, Bool.not_false, j2, and_true]
        by_cases h6 : ticks < 0
        · rw [if_pos h6]
          exact j1 _
        · rw [if_neg h6, decide_eq_true (by omega)]
          exact j1 _
theorem wraps_u64 (n : Int) (h₀ : 0 ≤ n) (h₁ : n < 2 ^ 64) : IntKind.u64.wrap n = n := by rw [IntKind.wrap_u64]; omega
theorem u64_rng (n : Int) : 0 ≤ IntKind.u64.wrap n ∧ IntKind.u64.wrap n < 18446744073709551616 := by rw [IntKind.wrap_u64]; omega
theorem u64_and255 (x : Int) (h₀ : 0 ≤ x) (h₁ : x < 2 ^ 64) : Go.bits .and .u64 x 255 = x % 256 := bits_mask .u64 64 (by decide) wraps_u64 8 (by decide) x h₀ h₁
/-- The bytes that the draws read. -/
def Bytes (c : List Int) : Prop := ∀ x ∈ c, 0 ≤ x ∧ x ≤ 255
theorem bytes_rd (c : List Int) (h : Bytes c) (i : Int) : 0 ≤ rd c i ∧ rd c i ≤ 255 := by
  unfold rd
  rw [List.getD_eq_getElem?_getD]
  by_cases hi : i.toNat < c.length
  · rw [List.getElem?_eq_getElem hi]
    exact h _ (List.getElem_mem _)
  · rw [List.getElem?_eq_none (by omega)]
    simp
theorem seed_byte (u : Int) : 0 ≤ wrap64 (Go.bits .and .u64 ((IntKind.u64.wrap u) / 1099511627776) 255) ∧ wrap64 (Go.bits .and .u64 ((IntKind.u64.wrap u) / 1099511627776) 255) ≤ 255 := by
  have h := u64_rng u
  have h1 : 0 ≤ (IntKind.u64.wrap u) / 1099511627776 := by omega
  have h2 : (IntKind.u64.wrap u) / 1099511627776 < 2 ^ 64 := by omega
  rw [u64_and255 _ h1 h2, wrap_in (by omega) (by omega)]
  omega
theorem next_ok (c : List Int) (hc : Bytes c) (a s : Int) (h0 : 0 ≤ a) (h1 : a < 4611686018427387904) : ∃ r s', spec_l1Cur_next.f c a s = some (r, a + 1, s') ∧ 0 ≤ r ∧ r ≤ 255 := by
  have hw : wrap64 (a + 1) = a + 1 := wrap_in (by omega) (by omega)
  have hb := bytes_rd c hc a
  have hwb : wrap64 (rd c a) = rd c a := wrap_in (by omega) (by omega)
  unfold spec_l1Cur_next.f
  simp only [hw, h0, if_true]
  split
  · split
    · exact ⟨_, _, rfl, by omega, by omega⟩
    · exact ⟨_, _, rfl, seed_byte _⟩
  · split
    · exact ⟨_, _, rfl, by omega, by omega⟩
    · exact ⟨_, _, rfl, seed_byte _⟩
theorem pick_ok (c : List Int) (hc : Bytes c) (a s n : Int) (h0 : 0 ≤ a) (h1 : a < 4611686018427387900) (hn : n < 9223372036854775808) :
    ∃ r a' s', spec_l1Cur_pick.f c a s n = some (r, a', s') ∧ 0 ≤ r ∧ (r < n ∨ r = 0) ∧ a ≤ a' ∧ a' ≤ a + 2 := by
  unfold spec_l1Cur_pick.f
  split
  · exact ⟨0, a, s, rfl, by omega, by omega, by omega, by omega⟩
  · obtain ⟨r1, s1, e1, h2, h3⟩ := next_ok c hc a s h0 (by omega)
    rw [e1]
    simp only [Option.bind_some]
    split
    · obtain ⟨r2, s2, e2, h4, h5⟩ := next_ok c hc (a + 1) s1 (by omega) (by omega)
      rw [e2]
      simp only [Option.bind_some]
      rw [if_neg (by omega)]
      have w1 : wrap64 (r1 * 256) = r1 * 256 := wrap_in (by omega) (by omega)
      have w2 : wrap64 (r1 * 256 + r2) = r1 * 256 + r2 := wrap_in (by omega) (by omega)
      rw [w1, w2]
      refine ⟨_, _, _, rfl, ?_, ?_, by omega, by omega⟩
      · rw [Int.tmod_eq_emod_of_nonneg (by omega)]
        exact Int.emod_nonneg _ (by omega)
      · rw [Int.tmod_eq_emod_of_nonneg (by omega)]
        exact .inl (Int.emod_lt_of_pos _ (by omega))
    · rw [if_neg (by omega)]
      refine ⟨_, _, _, rfl, ?_, ?_, by omega, by omega⟩
      · rw [Int.tmod_eq_emod_of_nonneg (by omega)]
        exact Int.emod_nonneg _ (by omega)
      · rw [Int.tmod_eq_emod_of_nonneg (by omega)]
        exact .inl (Int.emod_lt_of_pos _ (by omega))
theorem one_ok (c : List Int) (hc : Bytes c) (a s n : Int) (h0 : 0 ≤ a) (h1 : a < 4611686018427387900) (hn : n < 9223372036854775808) : ∃ b a' s', spec_l1Cur_one.f c a s n = some (b, a', s') ∧ a ≤ a' ∧ a' ≤ a + 2 := by
  obtain ⟨r, a', s', e, _, _, h2, h3⟩ := pick_ok c hc a s n h0 h1 hn
  unfold spec_l1Cur_one.f
  rw [e]
  exact ⟨_, _, _, rfl, h2, h3⟩
theorem wrap_lt (n : Int) : wrap64 n < 9223372036854775808 := by unfold wrap64; omega
theorem among_ok (c : List Int) (hc : Bytes c) (a s : Int) (l : List Int) (hl : 0 < l.length) (hl2 : l.length < 1000000) (h0 : 0 ≤ a) (h1 : a < 4611686018427387900) : ∃ r a' s', spec_l1Cur_among.f c a s l = some (r, a', s') ∧ r ∈ l ∧ a ≤ a' ∧ a' ≤ a + 2 := by
  obtain ⟨r, a', s', e, h2, h3, h4, h5⟩ := pick_ok c hc a s (l.length : Int) h0 h1 (by omega)
  have h6 : r < (l.length : Int) := by omega
  have h7 : rd l r ∈ l := by
    rw [show r = ((r.toNat : Nat) : Int) by omega, rd_get l r.toNat (by omega)]
    exact List.getElem_mem _
  refine ⟨rd l r, a', s', ?_, h7, h4, h5⟩
  simp only [spec_l1Cur_among.f, e, Option.bind_some, h2, h6, if_true]
theorem words_ok (c : List Int) (hc : Bytes c) (a s n : Int) (h0 : 0 ≤ a) (h1 : a < 4611686018427000000) (hn : 0 ≤ n ∧ n ≤ 10000) : ∃ l a' s', Ev (fun k => spec_l1Cur_words.f k c a s n) (l, a', s') ∧ (l.length : Int) ≤ n ∧ a ≤ a' ∧ a' ≤ a + 2 + 2 * n := by
  have hw : wrap64 (n + 1) = n + 1 := wrap_in (by omega) (by omega)
  obtain ⟨m, a1, s1, e1, hm0, hm, b1, b1'⟩ := pick_ok c hc a s (n + 1) h0 (by omega) (by omega)
  obtain ⟨⟨l, a', s'⟩, hp, h⟩ := one_while (fun k (z : List Int × Int × Int × Int) => spec_l1Cur_words.l0 k z.1 z.2.1 c z.2.2.1 z.2.2.2) (fun d z => z.2.1 = (d : Int) ∧ (z.1.length : Int) + d = m ∧ a1 ≤ z.2.2.1 ∧ z.2.2.1 ≤ a1 + 2 * (m - d)) (fun r => (r.1.length : Int) = m ∧ a1 ≤ r.2.1 ∧ r.2.1 ≤ a1 + 2 * m)
    (by
      rintro d ⟨l, j, x, y⟩ ⟨hj, hl, hx, hx'⟩
      simp only at hj hl hx hx'
      by_cases hd : 0 < d
      · right
        obtain ⟨r2, a2, s2, e2, _, _, b2, b2'⟩ := pick_ok c hc x y 100 (by omega) (by omega) (by omega)
        refine ⟨d - 1, (l ++ [r2], ((d - 1 : Nat) : Int), a2, s2), by omega, ⟨rfl, by simp only [List.length_append, List.length_singleton]; omega, by simp only; omega, by simp only; omega⟩, fun r hr => Ev.back 1 0 (fun k _ => ?_) hr⟩
        have h2 : j > 0 := by omega
        have h3 : l.length < 17592186044416 := by omega
        have h4 : wrap64 (j - 1) = ((d - 1 : Nat) : Int) := (wrap_in (by omega) (by omega)).trans (by omega)
        simp only [spec_l1Cur_words.l0, h2, if_true, e2, Option.bind_some, h3, h4]
      · left
        have h2 : ¬ j > 0 := by omega
        exact ⟨(l, x, y), ⟨by simp only; omega, by simp only; omega, by simp only; omega⟩, Ev.at 1 0 (fun k _ => by simp only [spec_l1Cur_words.l0, h2, if_false])⟩) m.toNat ([], m, a1, s1) ⟨by simp only; omega, by simp; omega, by simp only; omega, by simp only; omega⟩
  refine ⟨l, a', s', Ev.congr (fun k => ?_) h, by simp only at hp; omega, by simp only at hp; omega, by simp only at hp; omega⟩
  simp only [spec_l1Cur_words.f, hw, e1, Option.bind_some]
theorem perfect_run (w : List Int) (hw : w.length ≤ 30) : ∃ r : List Int × Int × Int × Bool × Bool, (r.1.length = w.length ∧ r.2.2.2.1 = true ∧ r.2.2.2.2 = true) ∧ Ev (fun k => impl_TalkAll.l0 k w 1 [0] [2] (w.length : Int) [] (-1) w 0 0 [] 0 0 false) r := by
  obtain ⟨r, hp, h⟩ := one_while
    (fun k (s : Int × List Int × Int) => impl_TalkAll.l0 k w 1 [0] [2] (w.length : Int) [] (-1) w s.2.2 s.1 s.2.1 s.2.2 s.2.2 false)
    (fun d s => ∃ (tt : Int) (got : List Int), s = (tt, got, (got.length : Int)) ∧ got.length + d = w.length ∧ 0 ≤ tt ∧ tt ≤ 30)
    (fun r => r.1.length = w.length ∧ r.2.2.2.1 = true ∧ r.2.2.2.2 = true)
    (by
      rintro d s ⟨tt, got, rfl, hd, ht0, ht1⟩
      have hmx : mx (got.length : Int) (-1) = (got.length : Int) := if_neg (by omega)
      by_cases hi : (got.length : Int) < (w.length : Int)
      · right
        obtain ⟨r1, r2, r3, r4, r5, r6, hr3, hr6, hr7, hs⟩ := send_both w (got.length : Int) tt 1 (by omega) (by omega) (by omega)
        obtain rfl : r6 = true := hr7 (by omega) (by omega) hi ht0 ht1 rfl
        obtain ⟨⟨e3, e4, e5, e6⟩, hp3, hn⟩ := hr6 rfl
        have e7 := hn rfl
        subst e3 e4 e7
        have hwr : wrap64 ((got.length : Int) + 1) = ((got.length + 1 : Nat) : Int) := wrap_succ got.length (by omega)
        have q1 : Int.tmod (got.length : Int) (([0] : List Int).length : Int) = 0 := Int.tmod_one _
        have q2 : Int.tmod (got.length : Int) (([2] : List Int).length : Int) = 0 := Int.tmod_one _
        have c1 : comeOf (rd [0] (Int.tmod (got.length : Int) (([0] : List Int).length : Int))) [] ⟨(got.length : Int), r2⟩ = [⟨(got.length : Int), r2⟩] := by
          rw [q1]
          simp [rd, comeOf]
        have c2 : lateOf (rd [0] (Int.tmod (got.length : Int) (([0] : List Int).length : Int))) ⟨(got.length : Int), r2⟩ = [] := by
          rw [q1]
          simp [rd, lateOf]
        have c3 : ∀ m, lackOf (-1) (rd [2] (Int.tmod (got.length : Int) (([2] : List Int).length : Int))) m = -1 := fun m => by
          rw [q2]
          simp [rd, lackOf]
        have c4 : ackOf (rd [2] (Int.tmod (got.length : Int) (([2] : List Int).length : Int))) (got.length : Int) ((got.length + 1 : Nat) : Int) = ((got.length + 1 : Nat) : Int) := by
          rw [q2]
          have : ((got.length : Int) < ((got.length + 1 : Nat) : Int)) := by omega
          simp only [rd, ackOf, mx, Int.toNat_zero, List.getD_cons_zero, or_true, if_true, this]
        have tk : ∀ k, impl_TakeParcels.f (k + 2) got [⟨(got.length : Int), r2⟩] = some (got ++ [r2], ((got.length + 1 : Nat) : Int)) := fun k => by
          have g1 : ¬ (got.length : Int) > 30 := by omega
          have g2 : (got.length : Int) < 30 := by omega
          have g3 : got.length < 17592186044416 := by omega
          have g4 : ([] : List Int).length + got.length < 17592186044416 := by simp; omega
          have g5 : rd_T54 [⟨(got.length : Int), r2⟩] 0 = ⟨(got.length : Int), r2⟩ := rfl
          have g6 : wrap64 ((0 : Int) + 1) = 1 := wrap_in (by omega) (by omega)
          have g7 : (([⟨(got.length : Int), r2⟩] : List S54).length : Int) = 1 := rfl
          have g8 : ¬ (1 : Int) < 1 := by omega
          have g11 : ((1 : Nat) : Int) = 1 := rfl
          have g9 : (0 : Int) < 1 := by omega
          have g10 : (0 : Int) ≤ 0 := by omega
          simp only [impl_TakeParcels.f, g1, if_false, slices_Clone_int_int.f, g4, if_true, List.nil_append, Option.bind_some, impl_TakeParcels.l0, g7, g9, g10, g5, g2, g3, g6, g8, g11, List.length_append, List.length_singleton]
        refine ⟨d - 1, (r5, got ++ [r2], ((got.length + 1 : Nat) : Int)), by omega, ⟨r5, got ++ [r2], ?_, ?_, e5, e6⟩, fun r hr => Ev.back 3 1 (fun k hkk => ?_) hr⟩
        · rw [List.length_append, List.length_singleton]
        · rw [List.length_append, List.length_singleton]
          omega
        · show impl_TalkAll.l0 (k + 2 + 1) _ 1 [0] [2] _ [] (-1) _ (got.length : Int) tt got (got.length : Int) (got.length : Int) false = _
          have hs2 := (hs (k + 2) (Nat.le_add_left 1 (k + 1))).2
          rw [← hmx] at hs2
          have i0 : (0 : Int) ≤ (got.length : Int) := Int.natCast_nonneg _
          rw [impl_s2 (k + 2) _ [0] [2] _ _ [] _ _ _ _ _ _ _ _ _ _ hi (by rw [hmx] at hs2 ⊢; exact hs2) (Nat.le_refl 1) (Nat.zero_le 60) i0, c1, c2]
          obtain ⟨k, rfl⟩ : ∃ k', k = k' + 1 := ⟨k - 1, by omega⟩
          rw [impl_s3 (k + 1) _ [0] [2] _ _ _ _ _ _ _ _ _ _ _ _ _ (tk k) (Nat.le_refl 1) i0, c3, hmx, c4, hwr]
      · left
        have hl : got.length = w.length := by omega
        refine ⟨(got, (got.length : Int), (got.length : Int), (mx (got.length : Int) (-1) == (w.length : Int)), true), ⟨hl, ?_, rfl⟩, Ev.at 1 0 (fun k _ => ?_)⟩
        · simp only [hmx, beq_iff_eq]
          omega
        · simp only [impl_TalkAll.l0, hi, if_false])
    w.length (0, [], 0) ⟨0, [], rfl, by simp, by omega, by omega⟩
  exact ⟨r, hp, h⟩
theorem fates_ok (c : List Int) (hc : Bytes c) (a s : Int) (h0 : 0 ≤ a) (h1 : a < 1000000) : ∃ L a' s', Ev (fun k => spec_l1Cur_fates.f k c a s) (L, a', s') ∧ L.length ≤ 100 ∧ a ≤ a' ∧ a' ≤ a + 100 := by
  obtain ⟨b, a1, s1, e1, _, _, b1, b1'⟩ := pick_ok c hc a s 5 h0 (by omega) (by omega)
  obtain ⟨n, a2, s2, e2, n0, n1, b2, b2'⟩ := pick_ok c hc a1 s1 8 (by omega) (by omega) (by omega)
  have hw : wrap64 (1 + n) = 1 + n := wrap_in (by omega) (by omega)
  obtain ⟨⟨l, a', s'⟩, hp, h⟩ := one_while (fun k (z : List Int × Int × Int × Int) => spec_l1Cur_fates.l0 k z.1 b z.2.1 c z.2.2.1 z.2.2.2) (fun d z => z.2.1 = (d : Int) ∧ z.1.length + d ≤ 9 ∧ 1 ≤ z.1.length + d ∧ a2 ≤ z.2.2.1 ∧ z.2.2.1 ≤ a2 + 4 * (9 - d)) (fun r => r.1.length ≤ 100 ∧ a2 ≤ r.2.1 ∧ r.2.1 ≤ a2 + 38)
    (by
      rintro d ⟨l, j, x, y⟩ ⟨hj, hl, hl2, hx, hx'⟩
      simp only at hj hl hl2 hx hx'
      by_cases hd : 0 < d
      · right
        obtain ⟨r2, a3, s3, e3, _, _, b3, b3'⟩ := pick_ok c hc x y 6 (by omega) (by omega) (by omega)
        have h2 : j > 0 := by omega
        have h3 : l.length < 17592186044416 := by omega
        have h4 : wrap64 (j - 1) = ((d - 1 : Nat) : Int) := (wrap_in (by omega) (by omega)).trans (by omega)
        by_cases hr : r2 < b
        · obtain ⟨r4, a4, s4, e4, _, _, b4, b4'⟩ := pick_ok c hc a3 s3 3 (by omega) (by omega) (by omega)
          refine ⟨d - 1, (l ++ [wrap64 (1 + r4)], ((d - 1 : Nat) : Int), a4, s4), by omega, ⟨rfl, by simp only [List.length_append, List.length_singleton]; omega, by simp only [List.length_append, List.length_singleton]; omega, by simp only; omega, by simp only; omega⟩, fun r hr' => Ev.back 1 0 (fun k _ => ?_) hr'⟩
          simp only [spec_l1Cur_fates.l0, h2, if_true, e3, Option.bind_some, hr, e4, h3, h4]
        · refine ⟨d - 1, (l ++ [0], ((d - 1 : Nat) : Int), a3, s3), by omega, ⟨rfl, by simp only [List.length_append, List.length_singleton]; omega, by simp only [List.length_append, List.length_singleton]; omega, by simp only; omega, by simp only; omega⟩, fun r hr' => Ev.back 1 0 (fun k _ => ?_) hr'⟩
          simp only [spec_l1Cur_fates.l0, h2, if_true, e3, Option.bind_some, hr, if_false, h3, h4]
      · left
        have h2 : ¬ j > 0 := by omega
        obtain ⟨r2, a3, s3, e3, _, _, b3, b3'⟩ := pick_ok c hc x y 40 (by omega) (by omega) (by omega)
        have h5 : (0 : Int) < (l.length : Int) := by omega
        by_cases hz : r2 = 0
        · exact ⟨(l.set (0 : Int).toNat 4, a3, s3), ⟨by simp only [List.length_set]; omega, by simp only; omega, by simp only; omega⟩, Ev.at 1 0 (fun k _ => by simp only [spec_l1Cur_fates.l0, h2, if_false, e3, Option.bind_some, hz, if_true, h5])⟩
        · by_cases hz1 : r2 = 1
          · exact ⟨([], a3, s3), ⟨by simp, by simp only; omega, by simp only; omega⟩, Ev.at 1 0 (fun k _ => by simp only [spec_l1Cur_fates.l0, h2, if_false, e3, Option.bind_some, hz, hz1, if_true]; rfl)⟩
          · exact ⟨(l, a3, s3), ⟨by simp only; omega, by simp only; omega, by simp only; omega⟩, Ev.at 1 0 (fun k _ => by simp only [spec_l1Cur_fates.l0, h2, if_false, e3, Option.bind_some, hz, hz1])⟩) (1 + n).toNat ([], 1 + n, a2, s2) ⟨by simp only; omega, by simp; omega, by simp; omega, by simp only; omega, by simp only; omega⟩
  refine ⟨l, a', s', Ev.congr (fun k => ?_) h, hp.1, by have := hp.2; simp only at this; omega, by have := hp.2; simp only at this; omega⟩
  simp only [spec_l1Cur_fates.f, e1, e2, hw, Option.bind_some]
theorem draw_ok (c : List Int) (hc : Bytes c) : ∃ w n there back ticks, Ev (fun k => spec_DrawTalkAll.f k c) (w, n, there, back, ticks) ∧ (w : List Int).length ≤ 1048576 ∧ (there : List Int).length ≤ 1048576 ∧ (back : List Int).length ≤ 1048576 := by
  obtain ⟨w0, a1, s1, ⟨K1, e1⟩, hl, b1, b1'⟩ := words_ok c hc 0 0 8 (by omega) (by omega) (by omega)
  obtain ⟨o, a2, s2, e2, b2, b2'⟩ := one_ok c hc a1 s1 16 (by omega) (by omega) (by omega)
  have tail : ∀ (w : List Int) (a s : Int), w.length ≤ 1048576 → 0 ≤ a → a < 1000 → ∃ n there back ticks, Ev (fun k => spec_DrawTalkAll.j0 k w c a s) (w, n, there, back, ticks) ∧ (there : List Int).length ≤ 1048576 ∧ (back : List Int).length ≤ 1048576 := by
    intro w a s hw h0 h1
    obtain ⟨t, a3, s3, e3, _, _, b3, b3'⟩ := pick_ok c hc a s 60 (by omega) (by omega) (by omega)
    obtain ⟨o2, a4, s4, e4, b4, b4'⟩ := one_ok c hc a3 s3 8 (by omega) (by omega) (by omega)
    cases o2 with
    | true =>
      obtain ⟨t2, a5, s5, e5, _, b5, b5'⟩ := among_ok c hc a4 s4 [(-1), 400, 401, 0] (by simp) (by simp) (by omega) (by omega)
      obtain ⟨n, a6, s6, e6, _, _, b6, b6'⟩ := pick_ok c hc a5 s5 4 (by omega) (by omega) (by omega)
      obtain ⟨th, a7, s7, ⟨K7, e7⟩, h7, b7, b7'⟩ := fates_ok c hc a6 s6 (by omega) (by omega)
      obtain ⟨bk, a8, s8, ⟨K8, e8⟩, h8, b8, b8'⟩ := fates_ok c hc a7 s7 (by omega) (by omega)
      refine ⟨wrap64 (1 + n), th, bk, t2, Ev.at 1 (K7 + K8) (fun k hk => ?_), by omega, by omega⟩
      have e7' := e7 k (by omega)
      have e8' := e8 k (by omega)
      simp only at e7' e8'
      simp only [spec_DrawTalkAll.j0, e3, e4, e5, e6, e7', e8', Option.bind_some, if_true]
    | false =>
      obtain ⟨n, a6, s6, e6, _, _, b6, b6'⟩ := pick_ok c hc a4 s4 4 (by omega) (by omega) (by omega)
      obtain ⟨th, a7, s7, ⟨K7, e7⟩, h7, b7, b7'⟩ := fates_ok c hc a6 s6 (by omega) (by omega)
      obtain ⟨bk, a8, s8, ⟨K8, e8⟩, h8, b8, b8'⟩ := fates_ok c hc a7 s7 (by omega) (by omega)
      refine ⟨wrap64 (1 + n), th, bk, t, Ev.at 1 (K7 + K8) (fun k hk => ?_), by omega, by omega⟩
      have e7' := e7 k (by omega)
      have e8' := e8 k (by omega)
      simp only at e7' e8'
      simp only [spec_DrawTalkAll.j0, e3, e4, e6, e7', e8', Option.bind_some, Bool.false_eq_true, if_false]
  cases o with
  | true =>
    obtain ⟨r, a3, s3, e3, r0, r1, b3, b3'⟩ := pick_ok c hc a2 s2 3 (by omega) (by omega) (by omega)
    have hw : wrap64 (29 + r) = 29 + r := wrap_in (by omega) (by omega)
    have g1 : (0 : Int) ≤ 29 + r := by omega
    have g2 : (29 + r).toNat ≤ 35184372088832 := by omega
    obtain ⟨n, th, bk, t, ⟨K, e⟩, h3, h4⟩ := tail (List.replicate (29 + r).toNat 0) a3 s3 (by rw [List.length_replicate]; omega) (by omega) (by omega)
    refine ⟨List.replicate (29 + r).toNat 0, n, th, bk, t, ⟨K1 + K, fun k hk => ?_⟩, by rw [List.length_replicate]; omega, h3, h4⟩
    have e1' := e1 k (by omega)
    have e' := e k (by omega)
    simp only at e1' e'
    simp only [spec_DrawTalkAll.f, e1', e2, e3, Option.bind_some, if_true, hw, g1, g2, e']
  | false =>
    obtain ⟨n, th, bk, t, ⟨K, e⟩, h3, h4⟩ := tail w0 a2 s2 (by omega) (by omega) (by omega)
    refine ⟨w0, n, th, bk, t, ⟨K1 + K, fun k hk => ?_⟩, by omega, h3, h4⟩
    have e1' := e1 k (by omega)
    have e' := e k (by omega)
    simp only at e1' e'
    simp only [spec_DrawTalkAll.f, e1', e2, Option.bind_some, Bool.false_eq_true, if_false, e']
theorem FnTalk : laws_FnTalk.Pure := by
  intro c hc0 hc1 hc2
  by_cases hn : (c.length : Int) > 1048576
  · exact ⟨0, by simp only [laws_FnTalk.f, hn, if_true]⟩
  have hc : Bytes c := fun x hx => by
    have := hc2 x hx
    simp only [Lit.wf, IntKind.min, IntKind.max, IntKind.signed, IntKind.bits, Bool.and_eq_true, decide_eq_true_eq, Bool.false_eq_true, if_false] at this
    omega
  obtain ⟨w, n, there, back, ticks, ⟨K1, e1⟩, hw, ht, hb⟩ := draw_ok c hc
  obtain ⟨g, s, i, d, o, hg, ho, K2, e2⟩ := talk_same w there back n ticks hw ht hb
  cases o with
  | false =>
    refine ⟨K1 + K2, ?_⟩
    have e1' := e1 (K1 + K2) (by omega)
    obtain ⟨e2a, e2b⟩ := e2 (K1 + K2) (by omega)
    simp only at e1'
    simp only [laws_FnTalk.f, hn, if_false, e1', e2a, e2b, Option.bind_some, bne_self_eq_false, Bool.false_eq_true]
  | true =>
    obtain ⟨hw30, hpre, hd, hs, hi⟩ := ho rfl
    subst hs
    obtain ⟨⟨pg, ps, pi, pd, po⟩, ⟨p1, p2, p3⟩, K3, e3⟩ := perfect_run w (by omega)
    simp only at p1 p2 p3
    subst p2 p3
    have f0 : okFates [0] = true := by decide
    have f2 : okFates [2] = true := by decide
    obtain ⟨K4, e4⟩ := impl_fates [0] (by simp)
    obtain ⟨K5, e5⟩ := impl_fates [2] (by simp)
    have fin : ∀ k, K3 + K4 + K5 + 1 ≤ k → impl_TalkAll.f k w 1 [0] [2] (w.length : Int) = some (pg, ps, pi, true, true) := by
      intro k hk
      have e4' := e4 k (by omega)
      have e5' := e5 k (by omega)
      rw [f0] at e4'
      rw [f2] at e5'
      obtain ⟨k, rfl⟩ : ∃ k', k = k' + 1 := ⟨k - 1, by omega⟩
      have e3' := e3 k (by omega)
      simp only at e3'
      have c1 : ¬ (w.length : Int) > 30 := by omega
      have c2 : (1 : Int) ≤ 1 ∧ (1 : Int) ≤ 10 := by omega
      have c3 : (0 : Int) ≤ (w.length : Int) ∧ (w.length : Int) ≤ 400 := by omega
      simp only [impl_TalkAll.f, c1, if_false, between_eq, Option.bind_some, decide_eq_true c2, if_true, e4', e5', decide_eq_true c3, Bool.not_true, impl_TalkAll.j0, Bool.false_eq_true, e3']
    have hl := all_loop2 (fun k j => laws_FnTalk.l0 k w (g.length : Int) j g s s d) g.length (fun _ => true) true true
      (Ev.at 1 (K3 + K4 + K5 + 1) (fun k hk => by
        have c1 : ¬ (g.length : Int) < (g.length : Int) := by omega
        simp only [laws_FnTalk.l0, c1, if_false, fin k hk, Option.bind_some, if_true, p1, beq_self_eq_true]))
      (fun j hj _ r hr => Ev.back 1 0 (fun k _ => by
        have c1 : (j : Int) < (g.length : Int) := by omega
        have c2 : (0 : Int) ≤ (j : Int) := by omega
        have c3 : (j : Int) < (w.length : Int) := by have := hpre.1; omega
        simp only [laws_FnTalk.l0, c1, c2, c3, hpre.2 j hj, if_true, wrap_succ j (by omega)]) hr)
      (fun j _ h => by cases h)
    obtain ⟨K6, e6⟩ := hl
    simp only [ite_self] at e6
    refine ⟨K1 + K2 + K6 + 1, ?_⟩
    have e1' := e1 (K1 + K2 + K6 + 1) (by omega)
    obtain ⟨e2a, e2b⟩ := e2 (K1 + K2 + K6 + 1) (by omega)
    have e6' := e6 (K1 + K2 + K6) (by omega)
    simp only at e1' e6'
    have c1 : ¬ (g.length : Int) > (w.length : Int) := by have := hpre.1; omega
    have c2 : ¬ s > ticks := by omega
    have j0 : laws_FnTalk.j0 (K1 + K2 + K6 + 1) w false g s s d = some true := by
      simp only [laws_FnTalk.j0, Bool.false_eq_true, if_false, e6']
    simp only [laws_FnTalk.f, hn, if_false, e1', e2a, e2b, Option.bind_some, bne_self_eq_false, Bool.false_eq_true, if_true, c1, decide_eq_false c2, j0]
    cases d with
    | true =>
      have := hd rfl
      have c3 : (g.length : Int) = (w.length : Int) := by omega
      simp only [if_true, c3]
    | false => simp only [Bool.false_eq_true, if_false]

end Go.Proofs.Ytmlejakajcmbdaa.Pure
