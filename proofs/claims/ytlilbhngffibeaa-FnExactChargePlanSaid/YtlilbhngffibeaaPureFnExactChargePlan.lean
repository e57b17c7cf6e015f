/- 'FnExactChargePlan': what the program's function and the reference's answer, told over numbers and lists alone, meets the law at every input within the kinds' own bounds; no other condition. -/
import Derived.Test.YtlilbhngffibeaaQFnExactChargePlanx4
import Derived.Test.YtlilbhngffibeaaPlain
namespace Go.Proofs.Ytlilbhngffibeaa.Pure
open Go.RowKit Go.Proofs.Ytlilbhngffibeaa.PFnExactChargePlan Go.Proofs.Ytlilbhngffibeaa.Plain Go.Proofs.YtlilbhngffibeaaW.PrintWords Go.Proofs.YtlilbhngffibeaaW.PrintLast
set_option linter.unusedVariables false
set_option linter.unusedSimpArgs false

theorem eqBoolS_ev (l : List Bool) (h : l.length < 9223372036854775807) : Ev (fun k => laws_eqBoolS.f k l l) true := by
  have := eq_loop (fun k i => laws_eqBoolS.l0 k l l i) l.length true (fun k => by simp [laws_eqBoolS.l0]) (fun i hi => ⟨0, fun k _ => by
    have h1 : (i : Int) < (l.length : Int) := by omega
    have h2 : (0 : Int) ≤ (i : Int) := by omega
    simp only [laws_eqBoolS.l0, h1, h2, if_true, Option.bind_some, wrap_succ i (by omega), bne_self_eq_false, Bool.false_eq_true, if_false]⟩)
  exact Ev.congr (fun k => by simp only [laws_eqBoolS.f, if_true]) this
theorem markBoolS_at (l : List Bool) (h : l.length ≤ 1000000000) (m0 : Int) (h0 : 0 ≤ m0) (hm : m0 ≤ 1000000000000000) : Ev (fun k => laws_markBoolS.f k l m0) (m0 + ((1 : Nat) : Int) * (l.length : Int), (List.range l.length).map fun (j : Nat) => (fun m => (Int.tmod m 3) == 0) (m0 + ((1 : Nat) : Int) * (j : Int))) := by
  refine mark_loop (fun k ys m i => laws_markBoolS.l0 k ys m i) (fun m => (Int.tmod m 3) == 0) 1 m0 l (fun k ys m hy => by simp [laws_markBoolS.l0, hy]) (fun i hi => ⟨0, fun k _ ys hy => ?_⟩)
  have h1 : (i : Int) < (ys.length : Int) := by omega
  have h2 : (0 : Int) ≤ (i : Int) := by omega
  have hw1 : wrap64 (m0 + 1 * (i : Int) + 1) = m0 + 1 * ((i + 1 : Nat) : Int) := (wrap_in (by omega) (by omega)).trans (by omega)
  simp only [Int.cast_ofNat_Int] at *
  simp only [laws_markBoolS.l0, h1, h2, if_true, wrap_succ i (by omega), toNat_i, Option.bind_some, hw1]
  all_goals rfl
theorem markBoolS_ev (l : List Bool) (h : l.length ≤ 1000000000) : Ev (fun k => laws_markBoolS.f k l 1) (1 + ((1 : Nat) : Int) * (l.length : Int), (List.range l.length).map fun (j : Nat) => (fun m => (Int.tmod m 3) == 0) (1 + ((1 : Nat) : Int) * (j : Int))) := markBoolS_at l h 1 (by omega) (by omega)
theorem heldBoolS_at (n : Nat) (h : n ≤ 1000000000) (m0 : Int) (h0 : 0 ≤ m0) (hm : m0 ≤ 1000000000000000) : Ev (fun k => laws_heldBoolS.f k ((List.range n).map fun (j : Nat) => (fun m => (Int.tmod m 3) == 0) (m0 + ((1 : Nat) : Int) * (j : Int))) m0) (m0 + ((1 : Nat) : Int) * (n : Int)) := by
  refine held_loop (fun k m i => laws_heldBoolS.l0 k ((List.range n).map fun (j : Nat) => (fun m => (Int.tmod m 3) == 0) (m0 + ((1 : Nat) : Int) * (j : Int))) m i) 1 m0 n _ (fun k => by simp [laws_heldBoolS.l0]) (fun i hi => ⟨0, fun k _ => ?_⟩)
  have h1 : (i : Int) < ((((List.range n).map fun (j : Nat) => (fun m => (Int.tmod m 3) == 0) (m0 + ((1 : Nat) : Int) * (j : Int))).length : Nat) : Int) := by simp; omega
  have h2 : (0 : Int) ≤ (i : Int) := by omega
  have h3 : rdOf false ((List.range n).map fun (j : Nat) => (fun m => (Int.tmod m 3) == 0) (m0 + ((1 : Nat) : Int) * (j : Int))) (i : Int) = (fun m => (Int.tmod m 3) == 0) (m0 + ((1 : Nat) : Int) * (i : Int)) := by simp [rdOf, hi]
  have hw1 : wrap64 (m0 + 1 * (i : Int) + 1) = m0 + 1 * ((i + 1 : Nat) : Int) := (wrap_in (by omega) (by omega)).trans (by omega)
  generalize ((List.range n).map fun (j : Nat) => (fun m => (Int.tmod m 3) == 0) (m0 + ((1 : Nat) : Int) * (j : Int))) = L at *
  simp only [Int.cast_ofNat_Int] at *
  simp only [laws_heldBoolS.l0, h1, h2, h3, if_true, wrap_succ i (by omega), bne_self_eq_false, Bool.false_eq_true, if_false, id, hw1]

theorem heldBoolS_ev (n : Nat) (h : n ≤ 1000000000) : Ev (fun k => laws_heldBoolS.f k ((List.range n).map fun (j : Nat) => (fun m => (Int.tmod m 3) == 0) (1 + ((1 : Nat) : Int) * (j : Int))) 1) (1 + ((1 : Nat) : Int) * (n : Int)) := heldBoolS_at n h 1 (by omega) (by omega)
theorem between_eq (a lo hi : Int) : impl_between.f a lo hi = some (decide (lo ≤ a ∧ a ≤ hi)) := by
  unfold impl_between.f
  split <;> simp <;> omega
/-- One step of both plans: does it work, the level behind it. -/
def works (lv use gain full : Int) (i : Nat) (before : Bool) : Bool := decide (lv ≥ use) && (decide (i = 0) || before || decide (lv + gain > full))
def level (lv use gain full : Int) (w : Bool) : Int := if w = true then lv - use else (if lv + gain > full then full else lv + gain)
def plan (use gain full : Int) (lv0 : Int) : Nat → List Bool × Int
  | 0 => ([], lv0)
  | i + 1 => ((plan use gain full lv0 i).1 ++ [works (plan use gain full lv0 i).2 use gain full i ((plan use gain full lv0 i).1.getD (i - 1) false)],
      level (plan use gain full lv0 i).2 use gain full (works (plan use gain full lv0 i).2 use gain full i ((plan use gain full lv0 i).1.getD (i - 1) false)))
theorem plan_len (use gain full lv0 : Int) : ∀ i, (plan use gain full lv0 i).1.length = i
  | 0 => rfl
  | i + 1 => by simp [plan, plan_len use gain full lv0 i]
theorem plan_lv (use gain full lv0 : Int) (h0 : 0 ≤ lv0 ∧ lv0 ≤ full) (hu : 1 ≤ use) (hg : 1 ≤ gain) : ∀ i, 0 ≤ (plan use gain full lv0 i).2 ∧ (plan use gain full lv0 i).2 ≤ full
  | 0 => h0
  | i + 1 => by
    have h := plan_lv use gain full lv0 h0 hu hg i
    simp only [plan, level]
    generalize hw : works (plan use gain full lv0 i).2 use gain full i ((plan use gain full lv0 i).1.getD (i - 1) false) = w
    cases w with
    | true =>
      simp only [works, Bool.and_eq_true, decide_eq_true_eq] at hw
      rw [if_pos rfl]
      omega
    | false =>
      rw [if_neg (by simp)]
      split <;> omega
theorem impl_plan (use gain full lv0 n : Int) (h0 : 0 ≤ lv0 ∧ lv0 ≤ full) (hf : full ≤ 10000) (hu : 1 ≤ use ∧ use ≤ full) (hg : 1 ≤ gain ∧ gain ≤ full) (hn : 0 ≤ n ∧ n ≤ 200) :
    Ev (fun k => impl_ChargePlan.l0 k [] n 0 lv0 use gain full) ((plan use gain full lv0 n.toNat).1, true) := by
  obtain ⟨n, rfl⟩ : ∃ m : Nat, n = (m : Int) := ⟨n.toNat, by omega⟩
  rw [Int.toNat_natCast]
  refine run_loop (fun k i (s : List Bool × Int) => impl_ChargePlan.l0 k s.1 (n : Int) i s.2 use gain full) n (fun i => plan use gain full lv0 i) _ (Ev.at 1 0 (fun k _ => by
    have h1 : ¬ ((n : Int) < (n : Int)) := by omega
    simp only [impl_ChargePlan.l0, h1, if_false])) (fun i hi => ⟨0, fun k _ => ?_⟩) 0 (Nat.zero_le _)
  have hl := plan_len use gain full lv0 i
  have hv := plan_lv use gain full lv0 h0 hu.1 hg.1 i
  have hp : plan use gain full lv0 (i + 1) = ((plan use gain full lv0 i).1 ++ [works (plan use gain full lv0 i).2 use gain full i ((plan use gain full lv0 i).1.getD (i - 1) false)],
      level (plan use gain full lv0 i).2 use gain full (works (plan use gain full lv0 i).2 use gain full i ((plan use gain full lv0 i).1.getD (i - 1) false))) := rfl
  rw [hp]
  generalize plan use gain full lv0 i = s at *
  obtain ⟨out, lv⟩ := s
  simp only at hl hv ⊢
  have h1 : (i : Int) < (n : Int) := by omega
  have hlen : out.length < 140737488355328 := by omega
  have w1 : wrap64 (lv - use) = lv - use := wrap_in (by omega) (by omega)
  have w2 : wrap64 (lv + gain) = lv + gain := wrap_in (by omega) (by omega)
  have hmn : mn (lv + gain) full = if lv + gain > full then full else lv + gain := by
    unfold mn
    repeat' split
    all_goals omega
  simp only [impl_ChargePlan.l0, h1, if_true, hlen, w1, w2, wrap_succ i (by omega), hmn]
  by_cases ha : lv ≥ use
  · by_cases hi0 : i = 0
    · subst hi0
      simp [ha, works, level]
    · have h2 : ¬ ((i : Int) = 0) := by omega
      have h3 : (0 : Int) ≤ ((i - 1 : Nat) : Int) := by omega
      have h4 : ((i - 1 : Nat) : Int) < (out.length : Int) := by omega
      have h5 : rdOf false out ((i - 1 : Nat) : Int) = out.getD (i - 1) false := by simp [rdOf]
      simp only [ha, if_true, h2, if_false, wrap_pred i (by omega) (by omega), h3, h4, h5]
      cases hb : out.getD (i - 1) false with
      | true => simp [works, level, ha]
      | false =>
        by_cases hc : lv + gain > full
        · simp [works, level, ha, hi0, hc]
        · simp [works, level, ha, hi0, hc]
  · simp [ha, works, level]
theorem spec_plan (use gain full lv0 n : Int) (h0 : 0 ≤ lv0 ∧ lv0 ≤ full) (hf : full ≤ 10000) (hu : 1 ≤ use ∧ use ≤ full) (hg : 1 ≤ gain ∧ gain ≤ full) (hn : 0 ≤ n ∧ n ≤ 200) :
    Ev (fun k => spec_ChargePlan.l0 k n [] 0 lv0 use gain full) ((plan use gain full lv0 n.toNat).1, true) := by
  obtain ⟨n, rfl⟩ : ∃ m : Nat, n = (m : Int) := ⟨n.toNat, by omega⟩
  rw [Int.toNat_natCast]
  have hstep : ∀ i : Nat, i < n → ∀ r, Ev (fun k => spec_ChargePlan.l0 k (n : Int) (plan use gain full lv0 (i + 1)).1 ((i + 1 : Nat) : Int) (plan use gain full lv0 (i + 1)).2 use gain full) r → Ev (fun k => spec_ChargePlan.l0 k (n : Int) (plan use gain full lv0 i).1 (i : Int) (plan use gain full lv0 i).2 use gain full) r := by
    intro i hi r hr
    refine Ev.back 2 0 (fun k _ => ?_) hr
    have hl := plan_len use gain full lv0 i
    have hv := plan_lv use gain full lv0 h0 hu.1 hg.1 i
    have hp : plan use gain full lv0 (i + 1) = ((plan use gain full lv0 i).1 ++ [works (plan use gain full lv0 i).2 use gain full i ((plan use gain full lv0 i).1.getD (i - 1) false)],
        level (plan use gain full lv0 i).2 use gain full (works (plan use gain full lv0 i).2 use gain full i ((plan use gain full lv0 i).1.getD (i - 1) false))) := rfl
    rw [hp]
    generalize plan use gain full lv0 i = s at *
    obtain ⟨out, lv⟩ := s
    simp only at hl hv ⊢
    have h1 : (i : Int) < (n : Int) := by omega
    have hlen : out.length < 140737488355328 := by omega
    have w1 : wrap64 (lv - use) = lv - use := wrap_in (by omega) (by omega)
    have w2 : wrap64 (lv + gain) = lv + gain := wrap_in (by omega) (by omega)
    have hcut : spec_l13Cut.f (lv + gain) 0 full = some (if lv + gain > full then full else lv + gain) := by
      unfold spec_l13Cut.f
      rw [if_neg (by omega)]
      split <;> rfl
    by_cases hi0 : i = 0
    · subst hi0
      have h2 : ¬ (((0 : Nat) : Int) > 0) := by omega
      simp only [spec_ChargePlan.l0, spec_ChargePlan.j2, h1, if_true, h2, if_false, hlen, w1, w2, hcut, Option.bind_some, wrap_succ 0 (by omega)]
      by_cases ha : lv ≥ use
      · simp [ha, works, level]
      · simp [ha, works, level]
    · have h2 : ((i : Int) > 0) := by omega
      have h3 : (0 : Int) ≤ ((i - 1 : Nat) : Int) := by omega
      have h4 : ((i - 1 : Nat) : Int) < (out.length : Int) := by omega
      have h5 : rdOf false out ((i - 1 : Nat) : Int) = out.getD (i - 1) false := by simp [rdOf]
      simp only [spec_ChargePlan.l0, spec_ChargePlan.j2, h1, if_true, h2, wrap_pred i (by omega) (by omega), h3, h4, h5, hlen, w1, w2, hcut, Option.bind_some, wrap_succ i (by omega)]
      cases hb : out.getD (i - 1) false with
      | true =>
        by_cases ha : lv ≥ use
        · simp [works, level, ha]
        · simp [works, level, ha]
      | false =>
        by_cases hc : lv + gain > full
        · have hc' : ¬ (lv + gain ≤ full) := by omega
          by_cases ha : lv ≥ use
          · simp [works, level, ha, hi0, hc, hc']
          · simp [works, level, ha, hi0, hc, hc']
        · have hc' : (lv + gain ≤ full) := by omega
          simp [works, level, hi0, hc, hc']
  have key : ∀ (d i : Nat), i + d = n → Ev (fun k => spec_ChargePlan.l0 k (n : Int) (plan use gain full lv0 i).1 (i : Int) (plan use gain full lv0 i).2 use gain full) ((plan use gain full lv0 n).1, true) := by
    intro d
    induction d with
    | zero =>
      intro i hi
      obtain rfl : i = n := by omega
      have h1 : ¬ ((i : Int) < (i : Int)) := by omega
      exact Ev.at 1 0 (fun k _ => by simp only [spec_ChargePlan.l0, h1, if_false])
    | succ d ih =>
      intro i hi
      exact hstep i (by omega) _ (ih (i + 1) (by omega))
  exact key n 0 (by omega)
def chargeOk (lv use gain full n : Int) : Bool := decide (1 ≤ full ∧ full ≤ 10000 ∧ 0 ≤ lv ∧ lv ≤ full ∧ 1 ≤ use ∧ use ≤ full ∧ 1 ≤ gain ∧ gain ≤ full ∧ 0 ≤ n ∧ n ≤ 200)
theorem impl_charge (lv use gain full n : Int) : Ev (fun k => impl_ChargePlan.f k lv use gain full n) (if chargeOk lv use gain full n = true then ((plan use gain full lv n.toNat).1, true) else ([], false)) := by
  by_cases h : chargeOk lv use gain full n = true
  · rw [if_pos h]
    simp only [chargeOk, decide_eq_true_eq] at h
    refine Ev.back 1 0 (fun k _ => ?_) (impl_plan use gain full lv n (by omega) (by omega) (by omega) (by omega) (by omega))
    have e1 : decide ((1 : Int) ≤ full ∧ full ≤ 10000) = true := by simp; omega
    have e2 : decide ((0 : Int) ≤ lv ∧ lv ≤ full) = true := by simp; omega
    have e3 : decide ((1 : Int) ≤ use ∧ use ≤ full) = true := by simp; omega
    have e4 : decide ((1 : Int) ≤ gain ∧ gain ≤ full) = true := by simp; omega
    have e5 : decide ((0 : Int) ≤ n ∧ n ≤ 200) = true := by simp; omega
    simp only [impl_ChargePlan.f, between_eq, Option.bind_some, e1, e2, e3, e4, e5, if_true, impl_ChargePlan.j0, Bool.not_true, Bool.false_eq_true, if_false]
  · rw [if_neg h]
    simp only [chargeOk, decide_eq_true_eq] at h
    refine Ev.at 1 0 (fun k _ => ?_)
    simp only [impl_ChargePlan.f, between_eq, Option.bind_some, impl_ChargePlan.j0]
    by_cases c1 : (1 : Int) ≤ full ∧ full ≤ 10000
    · by_cases c2 : (0 : Int) ≤ lv ∧ lv ≤ full
      · by_cases c3 : (1 : Int) ≤ use ∧ use ≤ full
        · by_cases c4 : (1 : Int) ≤ gain ∧ gain ≤ full
          · have c5 : ¬ ((0 : Int) ≤ n ∧ n ≤ 200) := by omega
            simp only [decide_eq_true c1, decide_eq_true c2, decide_eq_true c3, decide_eq_true c4, decide_eq_false c5, if_true, Bool.not_false]
          · simp only [decide_eq_true c1, decide_eq_true c2, decide_eq_true c3, decide_eq_false c4, if_true, Bool.false_eq_true, if_false]
        · simp only [decide_eq_true c1, decide_eq_true c2, decide_eq_false c3, if_true, Bool.false_eq_true, if_false]
      · simp only [decide_eq_true c1, decide_eq_false c2, if_true, Bool.false_eq_true, if_false]
    · simp only [decide_eq_false c1, if_true, Bool.false_eq_true, if_false]
theorem spec_charge (lv use gain full n : Int) : Ev (fun k => spec_ChargePlan.f k lv use gain full n) (if chargeOk lv use gain full n = true then ((plan use gain full lv n.toNat).1, true) else ([], false)) := by
  by_cases h : chargeOk lv use gain full n = true
  · rw [if_pos h]
    simp only [chargeOk, decide_eq_true_eq] at h
    refine Ev.back 1 0 (fun k _ => ?_) (spec_plan use gain full lv n (by omega) (by omega) (by omega) (by omega) (by omega))
    simp only [spec_ChargePlan.f]
    rw [if_neg (by omega), if_neg (by omega), if_neg (by omega), if_neg (by omega), if_neg (by omega), if_neg (by omega), if_neg (by omega), if_neg (by omega), if_neg (by omega)]
    simp only [spec_ChargePlan.j0]
    rw [if_neg (by simp; omega)]
  · rw [if_neg h]
    simp only [chargeOk, decide_eq_true_eq] at h
    refine Ev.at 1 0 (fun k _ => ?_)
    simp only [spec_ChargePlan.f, spec_ChargePlan.j0, if_true]
    repeat' split
    all_goals first | rfl | skip
    all_goals simp_all
    all_goals omega
theorem FnExactChargePlan : ∀ (a0_0 : Int) (a0_1 : Int) (a0_2 : Int) (a0_3 : Int) (a1 : Int), (Lit.int .i64 a0_0).wf = true → (Lit.int .i64 a0_1).wf = true → (Lit.int .i64 a0_2).wf = true → (Lit.int .i64 a0_3).wf = true → (Lit.int .i64 a1).wf = true → ∃ k, laws_FnExactChargePlan.f k a0_0 a0_1 a0_2 a0_3 a1 = some true := by
  intro lv use gain full n _ _ _ _ _
  obtain ⟨K1, h1⟩ := spec_charge lv use gain full n
  obtain ⟨K2, h2⟩ := impl_charge lv use gain full n
  have hlen : (if chargeOk lv use gain full n = true then ((plan use gain full lv n.toNat).1, true) else ([], false)).1.length ≤ 200 := by
    split
    · rename_i h
      simp only [chargeOk, decide_eq_true_eq] at h
      rw [plan_len]
      omega
    · simp
  generalize (if chargeOk lv use gain full n = true then ((plan use gain full lv n.toNat).1, true) else ([], false)) = R at *
  obtain ⟨L, b⟩ := R
  simp only at hlen
  obtain ⟨K3, h3⟩ := eqBoolS_ev L (by omega)
  obtain ⟨K4, h4⟩ := markBoolS_ev L (by omega)
  obtain ⟨K5, h5⟩ := heldBoolS_ev L.length (by omega)
  have hneg : ¬ ((1 : Int) + ((1 : Nat) : Int) * (L.length : Int) < 0) := by omega
  refine ⟨K1 + K2 + K3 + K4 + K5 + 2, ?_⟩
  simp (disch := omega) only [laws_FnExactChargePlan.f, laws_FnExactChargePlan.j0, laws_FnExactChargePlan.j1, laws_toCharge.f, Option.bind_some, h1, h2, h3, h4, h5, if_true, bne_self_eq_false, Bool.false_eq_true, if_false, hneg]

end Go.Proofs.Ytlilbhngffibeaa.Pure
