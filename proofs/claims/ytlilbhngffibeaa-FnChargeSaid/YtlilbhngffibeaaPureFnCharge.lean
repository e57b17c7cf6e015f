/- 'FnCharge': for every input the drawn robot's plan is as long as asked for, and fine: it never works with less than it needs, never has more than there is room for, and does not stop charging before it is full. No condition. -/
import Derived.Test.YtlilbhngffibeaaQFnChargex6
import Derived.Test.YtlilbhngffibeaaPlain
namespace Go.Proofs.Ytlilbhngffibeaa.Pure
open Go.RowKit Go.Proofs.Ytlilbhngffibeaa.PFnCharge Go.Proofs.Ytlilbhngffibeaa.Plain Go.Proofs.YtlilbhngffibeaaW.PrintWords Go.Proofs.YtlilbhngffibeaaW.PrintLast
set_option linter.unusedVariables false
set_option linter.unusedSimpArgs false

theorem between_eq (a lo hi : Int) : impl_between.f a lo hi = some (decide (lo ≤ a ∧ a ≤ hi)) := by
  unfold impl_between.f
  split <;> simp <;> omega
/-- One step of both plans: does it work, the level behind it. -/
def works (lv use gain full : Int) (i : Nat) (before : Bool) : Bool := decide (lv ≥ use) && (decide (i = 0) || before || decide (lv + gain > full))
def level (lv use gain full : Int) (w : Bool) : Int := if w = true then lv - use else (if lv + gain > full then full else lv + gain)
def plan (use gain full : Int) (lv0 : Int) : Nat → List Bool × Int
  | 0 => ([], lv0)
  | i + 1 => ((plan use gain full lv0 i).1 ++ [works (plan use gain full lv0 i).2 use gain full i ((plan use gain full lv0 i).1.getD (i - 1) false)],
      level (plan use gain full lv0 i).2 use gain full (works (plan use gain full lv0 i).2 use gain full i ((plan use gain full lv0 i).1.getD (i - 1) false)))
theorem plan_len (use gain full lv0 : Int) : ∀ i, (plan use gain full lv0 i).1.length = i
  | 0 => rfl
  | i + 1 => by simp [plan, plan_len use gain full lv0 i]
theorem plan_lv (use gain full lv0 : Int) (h0 : 0 ≤ lv0 ∧ lv0 ≤ full) (hu : 1 ≤ use) (hg : 1 ≤ gain) : ∀ i, 0 ≤ (plan use gain full lv0 i).2 ∧ (plan use gain full lv0 i).2 ≤ full
  | 0 => h0
  | i + 1 => by
    have h := plan_lv use gain full lv0 h0 hu hg i
    simp only [plan, level]
    generalize hw : works (plan use gain full lv0 i).2 use gain full i ((plan use gain full lv0 i).1.getD (i - 1) false) = w
    cases w with
    | true =>
      simp only [works, Bool.and_eq_true, decide_eq_true_eq] at hw
      rw [if_pos rfl]
      omega
    | false =>
      rw [if_neg (by simp)]
      split <;> omega
theorem impl_plan (use gain full lv0 n : Int) (h0 : 0 ≤ lv0 ∧ lv0 ≤ full) (hf : full ≤ 10000) (hu : 1 ≤ use ∧ use ≤ full) (hg : 1 ≤ gain ∧ gain ≤ full) (hn : 0 ≤ n ∧ n ≤ 200) :
    Ev (fun k => impl_ChargePlan.l0 k [] n 0 lv0 use gain full) ((plan use gain full lv0 n.toNat).1, true) := by
  obtain ⟨n, rfl⟩ : ∃ m : Nat, n = (m : Int) := ⟨n.toNat, by omega⟩
  rw [Int.toNat_natCast]
  refine run_loop (fun k i (s : List Bool × Int) => impl_ChargePlan.l0 k s.1 (n : Int) i s.2 use gain full) n (fun i => plan use gain full lv0 i) _ (Ev.at 1 0 (fun k _ => by
    have h1 : ¬ ((n : Int) < (n : Int)) := by omega
    simp only [impl_ChargePlan.l0, h1, if_false])) (fun i hi => ⟨0, fun k _ => ?_⟩) 0 (Nat.zero_le _)
  have hl := plan_len use gain full lv0 i
  have hv := plan_lv use gain full lv0 h0 hu.1 hg.1 i
  have hp : plan use gain full lv0 (i + 1) = ((plan use gain full lv0 i).1 ++ [works (plan use gain full lv0 i).2 use gain full i ((plan use gain full lv0 i).1.getD (i - 1) false)],
      level (plan use gain full lv0 i).2 use gain full (works (plan use gain full lv0 i).2 use gain full i ((plan use gain full lv0 i).1.getD (i - 1) false))) := rfl
  rw [hp]
  generalize plan use gain full lv0 i = s at *
  obtain ⟨out, lv⟩ := s
  simp only at hl hv ⊢
  have h1 : (i : Int) < (n : Int) := by omega
  have hlen : out.length < 140737488355328 := by omega
  have w1 : wrap64 (lv - use) = lv - use := wrap_in (by omega) (by omega)
  have w2 : wrap64 (lv + gain) = lv + gain := wrap_in (by omega) (by omega)
  have hmn : mn (lv + gain) full = if lv + gain > full then full else lv + gain := by
    unfold mn
    repeat' split
    all_goals omega
  simp only [impl_ChargePlan.l0, h1, if_true, hlen, w1, w2, wrap_succ i (by omega), hmn]
  by_cases ha : lv ≥ use
  · by_cases hi0 : i = 0
    · subst hi0
      simp [ha, works, level]
    · have h2 : ¬ ((i : Int) = 0) := by omega
      have h3 : (0 : Int) ≤ ((i - 1 : Nat) : Int) := by omega
      have h4 : ((i - 1 : Nat) : Int) < (out.length : Int) := by omega
      have h5 : rdOf false out ((i - 1 : Nat) : Int) = out.getD (i - 1) false := by simp [rdOf]
      simp only [ha, if_true, h2, if_false, wrap_pred i (by omega) (by omega), h3, h4, h5]
      cases hb : out.getD (i - 1) false with
      | true => simp [works, level, ha]
      | false =>
        by_cases hc : lv + gain > full
        · simp [works, level, ha, hi0, hc]
        · simp [works, level, ha, hi0, hc]
  · simp [ha, works, level]
theorem spec_plan (use gain full lv0 n : Int) (h0 : 0 ≤ lv0 ∧ lv0 ≤ full) (hf : full ≤ 10000) (hu : 1 ≤ use ∧ use ≤ full) (hg : 1 ≤ gain ∧ gain ≤ full) (hn : 0 ≤ n ∧ n ≤ 200) :
    Ev (fun k => spec_ChargePlan.l0 k n [] 0 lv0 use gain full) ((plan use gain full lv0 n.toNat).1, true) := by
  obtain ⟨n, rfl⟩ : ∃ m : Nat, n = (m : Int) := ⟨n.toNat, by omega⟩
  rw [Int.toNat_natCast]
  have hstep : ∀ i : Nat, i < n → ∀ r, Ev (fun k => spec_ChargePlan.l0 k (n : Int) (plan use gain full lv0 (i + 1)).1 ((i + 1 : Nat) : Int) (plan use gain full lv0 (i + 1)).2 use gain full) r → Ev (fun k => spec_ChargePlan.l0 k (n : Int) (plan use gain full lv0 i).1 (i : Int) (plan use gain full lv0 i).2 use gain full) r := by
    intro i hi r hr
    refine Ev.back 2 0 (fun k _ => ?_) hr
    have hl := plan_len use gain full lv0 i
    have hv := plan_lv use gain full lv0 h0 hu.1 hg.1 i
    have hp : plan use gain full lv0 (i + 1) = ((plan use gain full lv0 i).1 ++ [works (plan use gain full lv0 i).2 use gain full i ((plan use gain full lv0 i).1.getD (i - 1) false)],
        level (plan use gain full lv0 i).2 use gain full (works (plan use gain full lv0 i).2 use gain full i ((plan use gain full lv0 i).1.getD (i - 1) false))) := rfl
    rw [hp]
    generalize plan use gain full lv0 i = s at *
    obtain ⟨out, lv⟩ := s
    simp only at hl hv ⊢
    have h1 : (i : Int) < (n : Int) := by omega
    have hlen : out.length < 140737488355328 := by omega
    have w1 : wrap64 (lv - use) = lv - use := wrap_in (by omega) (by omega)
    have w2 : wrap64 (lv + gain) = lv + gain := wrap_in (by omega) (by omega)
    have hcut : spec_l13Cut.f (lv + gain) 0 full = some (if lv + gain > full then full else lv + gain) := by
      unfold spec_l13Cut.f
      rw [if_neg (by omega)]
      split <;> rfl
    by_cases hi0 : i = 0
    · subst hi0
      have h2 : ¬ (((0 : Nat) : Int) > 0) := by omega
      simp only [spec_ChargePlan.l0, spec_ChargePlan.j2, h1, if_true, h2, if_false, hlen, w1, w2, hcut, Option.bind_some, wrap_succ 0 (by omega)]
      by_cases ha : lv ≥ use
      · simp [ha, works, level]
      · simp [ha, works, level]
    · have h2 : ((i : Int) > 0) := by omega
      have h3 : (0 : Int) ≤ ((i - 1 : Nat) : Int) := by omega
      have h4 : ((i - 1 : Nat) : Int) < (out.length : Int) := by omega
      have h5 : rdOf false out ((i - 1 : Nat) : Int) = out.getD (i - 1) false := by simp [rdOf]
      simp only [spec_ChargePlan.l0, spec_ChargePlan.j2, h1, if_true, h2, wrap_pred i (by omega) (by omega), h3, h4, h5, hlen, w1, w2, hcut, Option.bind_some, wrap_succ i (by omega)]
      cases hb : out.getD (i - 1) false with
      | true =>
        by_cases ha : lv ≥ use
        · simp [works, level, ha]
        · simp [works, level, ha]
      | false =>
        by_cases hc : lv + gain > full
        · have hc' : ¬ (lv + gain ≤ full) := by omega
          by_cases ha : lv ≥ use
          · simp [works, level, ha, hi0, hc, hc']
          · simp [works, level, ha, hi0, hc, hc']
        · have hc' : (lv + gain ≤ full) := by omega
          simp [works, level, hi0, hc, hc']
  have key : ∀ (d i : Nat), i + d = n → Ev (fun k => spec_ChargePlan.l0 k (n : Int) (plan use gain full lv0 i).1 (i : Int) (plan use gain full lv0 i).2 use gain full) ((plan use gain full lv0 n).1, true) := by
    intro d
    induction d with
    | zero =>
      intro i hi
      obtain rfl : i = n := by omega
      have h1 : ¬ ((i : Int) < (i : Int)) := by omega
      exact Ev.at 1 0 (fun k _ => by simp only [spec_ChargePlan.l0, h1, if_false])
    | succ d ih =>
      intro i hi
      exact hstep i (by omega) _ (ih (i + 1) (by omega))
  exact key n 0 (by omega)
def chargeOk (lv use gain full n : Int) : Bool := decide (1 ≤ full ∧ full ≤ 10000 ∧ 0 ≤ lv ∧ lv ≤ full ∧ 1 ≤ use ∧ use ≤ full ∧ 1 ≤ gain ∧ gain ≤ full ∧ 0 ≤ n ∧ n ≤ 200)
theorem impl_charge (lv use gain full n : Int) : Ev (fun k => impl_ChargePlan.f k lv use gain full n) (if chargeOk lv use gain full n = true then ((plan use gain full lv n.toNat).1, true) else ([], false)) := by
  by_cases h : chargeOk lv use gain full n = true
  · rw [if_pos h]
    simp only [chargeOk, decide_eq_true_eq] at h
    refine Ev.back 1 0 (fun k _ => ?_) (impl_plan use gain full lv n (by omega) (by omega) (by omega) (by omega) (by omega))
    have e1 : decide ((1 : Int) ≤ full ∧ full ≤ 10000) = true := by simp; omega
    have e2 : decide ((0 : Int) ≤ lv ∧ lv ≤ full) = true := by simp; omega
    have e3 : decide ((1 : Int) ≤ use ∧ use ≤ full) = true := by simp; omega
    have e4 : decide ((1 : Int) ≤ gain ∧ gain ≤ full) = true := by simp; omega
    have e5 : decide ((0 : Int) ≤ n ∧ n ≤ 200) = true := by simp; omega
    simp only [impl_ChargePlan.f, between_eq, Option.bind_some, e1, e2, e3, e4, e5, if_true, impl_ChargePlan.j0, Bool.not_true, Bool.false_eq_true, if_false]
  · rw [if_neg h]
    simp only [chargeOk, decide_eq_true_eq] at h
    refine Ev.at 1 0 (fun k _ => ?_)
    simp only [impl_ChargePlan.f, between_eq, Option.bind_some, impl_ChargePlan.j0]
    by_cases c1 : (1 : Int) ≤ full ∧ full ≤ 10000
    · by_cases c2 : (0 : Int) ≤ lv ∧ lv ≤ full
      · by_cases c3 : (1 : Int) ≤ use ∧ use ≤ full
        · by_cases c4 : (1 : Int) ≤ gain ∧ gain ≤ full
          · have c5 : ¬ ((0 : Int) ≤ n ∧ n ≤ 200) := by omega
            simp only [decide_eq_true c1, decide_eq_true c2, decide_eq_true c3, decide_eq_true c4, decide_eq_false c5, if_true, Bool.not_false]
          · simp only [decide_eq_true c1, decide_eq_true c2, decide_eq_true c3, decide_eq_false c4, if_true, Bool.false_eq_true, if_false]
        · simp only [decide_eq_true c1, decide_eq_true c2, decide_eq_false c3, if_true, Bool.false_eq_true, if_false]
      · simp only [decide_eq_true c1, decide_eq_false c2, if_true, Bool.false_eq_true, if_false]
    · simp only [decide_eq_false c1, if_true, Bool.false_eq_true, if_false]
theorem spec_charge (lv use gain full n : Int) : Ev (fun k => spec_ChargePlan.f k lv use gain full n) (if chargeOk lv use gain full n = true then ((plan use gain full lv n.toNat).1, true) else ([], false)) := by
  by_cases h : chargeOk lv use gain full n = true
  · rw [if_pos h]
    simp only [chargeOk, decide_eq_true_eq] at h
    refine Ev.back 1 0 (fun k _ => ?_) (spec_plan use gain full lv n (by omega) (by omega) (by omega) (by omega) (by omega))
    simp only [spec_ChargePlan.f]
    rw [if_neg (by omega), if_neg (by omega), if_neg (by omega), if_neg (by omega), if_neg (by omega), if_neg (by omega), if_neg (by omega), if_neg (by omega), if_neg (by omega)]
    simp only [spec_ChargePlan.j0]
    rw [if_neg (by simp; omega)]
  · rw [if_neg h]
    simp only [chargeOk, decide_eq_true_eq] at h
    refine Ev.at 1 0 (fun k _ => ?_)
    simp only [spec_ChargePlan.f, spec_ChargePlan.j0, if_true]
    repeat' split
    all_goals first | rfl | skip
    all_goals simp_all
    all_goals omega
theorem wraps_u64 (n : Int) (h₀ : 0 ≤ n) (h₁ : n < 2 ^ 64) : IntKind.u64.wrap n = n := by rw [IntKind.wrap_u64]; omega
theorem u64_rng (n : Int) : 0 ≤ IntKind.u64.wrap n ∧ IntKind.u64.wrap n < 18446744073709551616 := by rw [IntKind.wrap_u64]; omega
theorem u64_and255 (x : Int) (h₀ : 0 ≤ x) (h₁ : x < 2 ^ 64) : Go.bits .and .u64 x 255 = x % 256 := bits_mask .u64 64 (by decide) wraps_u64 8 (by decide) x h₀ h₁
/-- The bytes that the draws read. -/
def Bytes (c : List Int) : Prop := ∀ x ∈ c, 0 ≤ x ∧ x ≤ 255
theorem bytes_rd (c : List Int) (h : Bytes c) (i : Int) : 0 ≤ rd c i ∧ rd c i ≤ 255 := by
  unfold rd
  rw [List.getD_eq_getElem?_getD]
  by_cases hi : i.toNat < c.length
  · rw [List.getElem?_eq_getElem hi]
    exact h _ (List.getElem_mem _)
  · rw [List.getElem?_eq_none (by omega)]
    simp
theorem seed_byte (u : Int) : 0 ≤ wrap64 (Go.bits .and .u64 ((IntKind.u64.wrap u) / 1099511627776) 255) ∧ wrap64 (Go.bits .and .u64 ((IntKind.u64.wrap u) / 1099511627776) 255) ≤ 255 := by
  have h := u64_rng u
  have h1 : 0 ≤ (IntKind.u64.wrap u) / 1099511627776 := by omega
  have h2 : (IntKind.u64.wrap u) / 1099511627776 < 2 ^ 64 := by omega
  rw [u64_and255 _ h1 h2, wrap_in (by omega) (by omega)]
  omega
theorem next_ok (c : List Int) (hc : Bytes c) (a s : Int) (h0 : 0 ≤ a) (h1 : a < 4611686018427387904) : ∃ r s', spec_l1Cur_next.f c a s = some (r, a + 1, s') ∧ 0 ≤ r ∧ r ≤ 255 := by
  have hw : wrap64 (a + 1) = a + 1 := wrap_in (by omega) (by omega)
  have hb := bytes_rd c hc a
  have hwb : wrap64 (rd c a) = rd c a := wrap_in (by omega) (by omega)
  unfold spec_l1Cur_next.f
  simp only [hw, h0, if_true]
  split
  · split
    · exact ⟨_, _, rfl, by omega, by omega⟩
    · exact ⟨_, _, rfl, seed_byte _⟩
  · split
    · exact ⟨_, _, rfl, by omega, by omega⟩
    · exact ⟨_, _, rfl, seed_byte _⟩
theorem pick_ok (c : List Int) (hc : Bytes c) (a s n : Int) (h0 : 0 ≤ a) (h1 : a < 4611686018427387900) (hn : n < 9223372036854775808) :
    ∃ r a' s', spec_l1Cur_pick.f c a s n = some (r, a', s') ∧ 0 ≤ r ∧ (r < n ∨ r = 0) ∧ a ≤ a' ∧ a' ≤ a + 2 := by
  unfold spec_l1Cur_pick.f
  split
  · exact ⟨0, a, s, rfl, by omega, by omega, by omega, by omega⟩
  · obtain ⟨r1, s1, e1, h2, h3⟩ := next_ok c hc a s h0 (by omega)
    rw [e1]
    simp only [Option.bind_some]
    split
    · obtain ⟨r2, s2, e2, h4, h5⟩ := next_ok c hc (a + 1) s1 (by omega) (by omega)
      rw [e2]
      simp only [Option.bind_some]
      rw [if_neg (by omega)]
      have w1 : wrap64 (r1 * 256) = r1 * 256 := wrap_in (by omega) (by omega)
      have w2 : wrap64 (r1 * 256 + r2) = r1 * 256 + r2 := wrap_in (by omega) (by omega)
      rw [w1, w2]
      refine ⟨_, _, _, rfl, ?_, ?_, by omega, by omega⟩
      · rw [Int.tmod_eq_emod_of_nonneg (by omega)]
        exact Int.emod_nonneg _ (by omega)
      · rw [Int.tmod_eq_emod_of_nonneg (by omega)]
        exact .inl (Int.emod_lt_of_pos _ (by omega))
    · rw [if_neg (by omega)]
      refine ⟨_, _, _, rfl, ?_, ?_, by omega, by omega⟩
      · rw [Int.tmod_eq_emod_of_nonneg (by omega)]
        exact Int.emod_nonneg _ (by omega)
      · rw [Int.tmod_eq_emod_of_nonneg (by omega)]
        exact .inl (Int.emod_lt_of_pos _ (by omega))
theorem one_ok (c : List Int) (hc : Bytes c) (a s n : Int) (h0 : 0 ≤ a) (h1 : a < 4611686018427387900) (hn : n < 9223372036854775808) : ∃ b a' s', spec_l1Cur_one.f c a s n = some (b, a', s') ∧ a ≤ a' ∧ a' ≤ a + 2 := by
  obtain ⟨r, a', s', e, _, _, h2, h3⟩ := pick_ok c hc a s n h0 h1 hn
  unfold spec_l1Cur_one.f
  rw [e]
  exact ⟨_, _, _, rfl, h2, h3⟩
theorem wrap_lt (n : Int) : wrap64 n < 9223372036854775808 := by unfold wrap64; omega
theorem among_ok (c : List Int) (hc : Bytes c) (a s : Int) (l : List Int) (hl : 0 < l.length) (hl2 : l.length < 1000000) (h0 : 0 ≤ a) (h1 : a < 4611686018427387900) : ∃ r a' s', spec_l1Cur_among.f c a s l = some (r, a', s') ∧ r ∈ l ∧ a ≤ a' ∧ a' ≤ a + 2 := by
  obtain ⟨r, a', s', e, h2, h3, h4, h5⟩ := pick_ok c hc a s (l.length : Int) h0 h1 (by omega)
  have h6 : r < (l.length : Int) := by omega
  have h7 : rd l r ∈ l := by
    rw [show r = ((r.toNat : Nat) : Int) by omega, rd_get l r.toNat (by omega)]
    exact List.getElem_mem _
  refine ⟨rd l r, a', s', ?_, h7, h4, h5⟩
  simp only [spec_l1Cur_among.f, e, Option.bind_some, h2, h6, if_true]
theorem plan_get (use gain full lv0 : Int) : ∀ (n j : Nat), j < n → (plan use gain full lv0 n).1.getD j false = works (plan use gain full lv0 j).2 use gain full j ((plan use gain full lv0 j).1.getD (j - 1) false)
  | n + 1, j, h => by
    have hl := plan_len use gain full lv0 n
    by_cases e : j = n
    · subst e
      simp only [plan]
      rw [List.getD_eq_getElem?_getD, List.getElem?_append_right (by omega), hl, Nat.sub_self]
      rfl
    · have := plan_get use gain full lv0 n j (by omega)
      simp only [plan]
      rw [List.getD_eq_getElem?_getD, List.getElem?_append_left (by omega), ← List.getD_eq_getElem?_getD]
      exact this
theorem fine_ev (use gain full lv0 : Int) (n : Nat) (h0 : 0 ≤ lv0 ∧ lv0 ≤ full) (hf : full ≤ 10000) (hu : 1 ≤ use ∧ use ≤ full) (hg : 1 ≤ gain ∧ gain ≤ full) (hn : n ≤ 200) :
    Ev (fun k => spec_ChargeFine.f k lv0 use gain full (plan use gain full lv0 n).1) true := by
  have hL := plan_len use gain full lv0 n
  have hget := plan_get use gain full lv0 n
  generalize hLg : (plan use gain full lv0 n).1 = L at *
  have := run_loop2 (fun k i (s : Int) => spec_ChargeFine.l0 k L s L (L.length : Int) i lv0 use gain full) L.length (fun i => (plan use gain full lv0 i).2) true
    (Ev.at 1 0 (fun k _ => by
      have h1 : ¬ ((L.length : Int) < (L.length : Int)) := by omega
      simp only [spec_ChargeFine.l0, h1, if_false]))
    (fun i hi r hr => by
      refine Ev.back 3 0 (fun k _ => ?_) hr
      have hv := plan_lv use gain full lv0 h0 hu.1 hg.1 i
      have hw := hget i (by omega)
      have hprev : 0 < i → (plan use gain full lv0 i).1.getD (i - 1) false = L.getD (i - 1) false := by
        intro h
        rw [hget (i - 1) (by omega), plan_get use gain full lv0 i (i - 1) (by omega)]
      have hnext : (plan use gain full lv0 (i + 1)).2 = level (plan use gain full lv0 i).2 use gain full (L.getD i false) := by
        rw [hw]
        rfl
      rw [hnext]
      generalize (plan use gain full lv0 i).2 = lv at *
      generalize (plan use gain full lv0 i).1.getD (i - 1) false = pv at *
      have h1 : (i : Int) < (L.length : Int) := by omega
      have h2 : (0 : Int) ≤ (i : Int) := by omega
      have e1 : rdOf false L (i : Int) = L.getD i false := by simp [rdOf]
      have w1 : wrap64 (lv - use) = lv - use := wrap_in (by omega) (by omega)
      have w2 : wrap64 (lv + gain) = lv + gain := wrap_in (by omega) (by omega)
      have hcut : spec_l13Cut.f (lv + gain) 0 full = some (if lv + gain > full then full else lv + gain) := by
        unfold spec_l13Cut.f
        rw [if_neg (by omega)]
        split <;> rfl
      have hj2 : ∀ k : Nat, spec_ChargeFine.j2 (k + 1) L lv (L.getD i false) L (L.length : Int) (i : Int) false lv0 use gain full = spec_ChargeFine.l0 k L (level lv use gain full (L.getD i false)) L (L.length : Int) ((i + 1 : Nat) : Int) lv0 use gain full := by
        intro k
        cases hb : L.getD i false with
        | true =>
          rw [hb] at hw
          simp only [works, Bool.and_eq_true, decide_eq_true_eq] at hw
          simp only [spec_ChargeFine.j2, Bool.false_eq_true, if_false, if_true, w1, level, wrap_succ i (by omega)]
          have hw1 := hw.symm
          simp only [Bool.and_eq_true, decide_eq_true_eq] at hw1
          rw [if_neg (by omega), if_neg (by omega)]
        | false =>
          simp only [spec_ChargeFine.j2, Bool.false_eq_true, if_false, w2, hcut, Option.bind_some, level, wrap_succ i (by omega)]
          by_cases hc : lv + gain > full
          · simp only [hc, if_true]
            rw [if_neg (by omega), if_neg (by omega)]
          · simp only [hc, if_false]
            rw [if_neg (by omega)]
      have hj1 : ∀ k : Nat, spec_ChargeFine.j1 (k + 2) L lv (i : Int) (L.getD i false) L (L.length : Int) (i : Int) false lv0 use gain full = spec_ChargeFine.j2 (k + 1) L lv (L.getD i false) L (L.length : Int) (i : Int) false lv0 use gain full := by
        intro k
        rw [spec_ChargeFine.j1]
        by_cases hi0 : i = 0
        · have c0 : ¬ ((i : Int) > 0) := by omega
          simp only [Bool.false_eq_true, if_false, c0]
        · have c0 : ((i : Int) > 0) := by omega
          have c1 : (0 : Int) ≤ ((i - 1 : Nat) : Int) := by omega
          have c2 : ((i - 1 : Nat) : Int) < (L.length : Int) := by omega
          have e2 : rdOf false L ((i - 1 : Nat) : Int) = pv := by rw [hprev (by omega)]; simp [rdOf]
          simp only [Bool.false_eq_true, if_false, c0, if_true, wrap_pred i (by omega) (by omega), c1, c2, e2, w2]
          cases hp : pv with
          | true => simp
          | false =>
            rw [hp] at hw
            simp only [works, hi0, decide_false, Bool.or_false, Bool.false_or] at hw
            by_cases ha : lv ≥ use
            · rw [hw]
              simp [ha]
            · rw [hw]
              simp [ha]
      rw [spec_ChargeFine.l0]
      simp only [h1, h2, if_true, e1]
      cases hb : L.getD i false with
      | true =>
        rw [hb] at hw hj1 hj2
        have hw1 := hw.symm
        simp only [works, Bool.and_eq_true, decide_eq_true_eq] at hw1
        have c3 : ¬ lv < use := by omega
        simp only [if_true, c3, if_false]
        rw [hj1, hj2]
      | false =>
        rw [hb] at hw hj1 hj2
        simp only [Bool.false_eq_true, if_false]
        by_cases ha : lv ≥ use
        · by_cases hi0 : i = 0
          · exfalso
            simp [works, ha, hi0] at hw
          · have c0 : ¬ ((i : Int) = 0) := by omega
            have c1 : (0 : Int) ≤ ((i - 1 : Nat) : Int) := by omega
            have c2 : ((i - 1 : Nat) : Int) < (L.length : Int) := by omega
            have e2 : rdOf false L ((i - 1 : Nat) : Int) = pv := by rw [hprev (by omega)]; simp [rdOf]
            have hpv : pv = false := by
              cases pv with
              | false => rfl
              | true => simp [works, ha] at hw
            simp only [ha, if_true, c0, if_false, wrap_pred i (by omega) (by omega), c1, c2, e2, hpv]
            rw [hj1, hj2]
        · simp only [ha, if_false]
          rw [hj1, hj2]) 0 (Nat.zero_le _)
  exact this
theorem draw_ok (c : List Int) (hc : Bytes c) : ∃ lv use gain full n, Ev (fun k => spec_DrawChargePlan.f k c) (lv, use, gain, full, n) := by
  obtain ⟨r1, a1, s1, e1, _, _, b1, b1'⟩ := pick_ok c hc 0 0 40 (by omega) (by omega) (by omega)
  obtain ⟨r2, a2, s2, e2, _, _, b2, b2'⟩ := pick_ok c hc a1 s1 (wrap64 ((wrap64 (1 + r1)) + 1)) (by omega) (by omega) (wrap_lt _)
  obtain ⟨r3, a3, s3, e3, _, _, b3, b3'⟩ := pick_ok c hc a2 s2 (wrap64 (1 + r1)) (by omega) (by omega) (wrap_lt _)
  obtain ⟨r4, a4, s4, e4, _, _, b4, b4'⟩ := pick_ok c hc a3 s3 (wrap64 (1 + r1)) (by omega) (by omega) (wrap_lt _)
  obtain ⟨r5, a5, s5, e5, _, _, b5, b5'⟩ := pick_ok c hc a4 s4 16 (by omega) (by omega) (by omega)
  have hj : ∀ (a s lv use gain full : Int), 0 ≤ a → a < 1000 → ∃ n, ∀ k : Nat, spec_DrawChargePlan.j0 (k + 1) c a s lv use gain full = some (lv, use, gain, full, n) := by
    intro a s lv use gain full h0 h1
    obtain ⟨r6, a6, s6, e6, _, _, b6, b6'⟩ := pick_ok c hc a s 40 (by omega) (by omega) (by omega)
    obtain ⟨b, a7, s7, e7, b7, b7'⟩ := one_ok c hc a6 s6 12 (by omega) (by omega) (by omega)
    cases b with
    | true =>
      obtain ⟨r8, a8, s8, e8, _, b8, b8'⟩ := among_ok c hc a7 s7 [(-1), 200, 201] (by simp) (by simp) (by omega) (by omega)
      exact ⟨r8, fun k => by simp only [spec_DrawChargePlan.j0, e6, e7, e8, Option.bind_some, if_true]⟩
    | false => exact ⟨r6, fun k => by simp only [spec_DrawChargePlan.j0, e6, e7, Option.bind_some, Bool.false_eq_true, if_false]⟩
  by_cases c0 : r5 = 0
  · obtain ⟨r6, a6, s6, e6, _, b6, b6'⟩ := among_ok c hc a5 s5 [10000, 10001, 0] (by simp) (by simp) (by omega) (by omega)
    obtain ⟨n, hn⟩ := hj a6 s6 r2 (wrap64 (1 + r3)) (wrap64 (1 + r4)) r6 (by omega) (by omega)
    exact ⟨r2, wrap64 (1 + r3), wrap64 (1 + r4), r6, n, Ev.at 1 0 (fun k _ => by simp only [spec_DrawChargePlan.f, e1, e2, e3, e4, e5, Option.bind_some]; rw [if_pos c0]; simp only [e6, Option.bind_some, hn])⟩
  · by_cases c1 : r5 = 1
    · obtain ⟨r6, a6, s6, e6, _, _, b6, b6'⟩ := pick_ok c hc a5 s5 2 (by omega) (by omega) (by omega)
      obtain ⟨n, hn⟩ := hj a6 s6 (wrap64 ((wrap64 (1 + r1)) + r6)) (wrap64 (1 + r3)) (wrap64 (1 + r4)) (wrap64 (1 + r1)) (by omega) (by omega)
      exact ⟨wrap64 ((wrap64 (1 + r1)) + r6), wrap64 (1 + r3), wrap64 (1 + r4), wrap64 (1 + r1), n, Ev.at 1 0 (fun k _ => by simp only [spec_DrawChargePlan.f, e1, e2, e3, e4, e5, Option.bind_some]; rw [if_neg c0, if_pos c1]; simp only [e6, Option.bind_some, hn])⟩
    · by_cases c2 : r5 = 2
      · obtain ⟨r6, a6, s6, e6, _, b6, b6'⟩ := among_ok c hc a5 s5 [0, wrap64 (1 + r1), wrap64 ((wrap64 (1 + r1)) + 1)] (by simp) (by simp) (by omega) (by omega)
        obtain ⟨n, hn⟩ := hj a6 s6 r2 (wrap64 (1 + r3)) r6 (wrap64 (1 + r1)) (by omega) (by omega)
        exact ⟨r2, wrap64 (1 + r3), r6, wrap64 (1 + r1), n, Ev.at 1 0 (fun k _ => by simp only [spec_DrawChargePlan.f, e1, e2, e3, e4, e5, Option.bind_some]; rw [if_neg c0, if_neg c1, if_pos c2]; simp only [e6, Option.bind_some, hn])⟩
      · obtain ⟨n, hn⟩ := hj a5 s5 r2 (wrap64 (1 + r3)) (wrap64 (1 + r4)) (wrap64 (1 + r1)) (by omega) (by omega)
        exact ⟨r2, wrap64 (1 + r3), wrap64 (1 + r4), wrap64 (1 + r1), n, Ev.at 1 0 (fun k _ => by simp only [spec_DrawChargePlan.f, e1, e2, e3, e4, e5, Option.bind_some]; rw [if_neg c0, if_neg c1, if_neg c2]; simp only [hn])⟩
theorem FnCharge : laws_FnCharge.Pure := by
  intro c hc0 hc1 hc2
  by_cases hn : (c.length : Int) > 1048576
  · exact ⟨0, by simp only [laws_FnCharge.f, hn, if_true]⟩
  have hc : Bytes c := fun x hx => by
    have := hc2 x hx
    simp only [Lit.wf, IntKind.min, IntKind.max, IntKind.signed, IntKind.bits, Bool.and_eq_true, decide_eq_true_eq, Bool.false_eq_true, if_false] at this
    omega
  obtain ⟨lv, use, gain, full, n, K1, e1⟩ := draw_ok c hc
  obtain ⟨K2, e2⟩ := impl_charge lv use gain full n
  obtain ⟨K3, e3⟩ := spec_charge lv use gain full n
  by_cases h : chargeOk lv use gain full n = true
  · rw [if_pos h] at e2 e3
    simp only [chargeOk, decide_eq_true_eq] at h
    obtain ⟨K4, e4⟩ := fine_ev use gain full lv n.toNat (by omega) (by omega) (by omega) (by omega) (by omega)
    have hlen : ((plan use gain full lv n.toNat).1.length : Int) = n := by rw [plan_len]; omega
    refine ⟨K1 + K2 + K3 + K4, ?_⟩
    have e1' := e1 (K1 + K2 + K3 + K4) (by omega)
    have e2' := e2 (K1 + K2 + K3 + K4) (by omega)
    have e3' := e3 (K1 + K2 + K3 + K4) (by omega)
    have e4' := e4 (K1 + K2 + K3 + K4) (by omega)
    simp only at e1' e2' e3' e4'
    simp only [laws_FnCharge.f, hn, if_false, e1', e2', e3', Option.bind_some, bne_self_eq_false, Bool.false_eq_true, if_true, hlen, e4']
  · rw [if_neg h] at e2 e3
    refine ⟨K1 + K2 + K3, ?_⟩
    have e1' := e1 (K1 + K2 + K3) (by omega)
    have e2' := e2 (K1 + K2 + K3) (by omega)
    have e3' := e3 (K1 + K2 + K3) (by omega)
    simp only at e1' e2' e3'
    simp only [laws_FnCharge.f, hn, if_false, e1', e2', e3', Option.bind_some, bne_self_eq_false, Bool.false_eq_true]

end Go.Proofs.Ytlilbhngffibeaa.Pure
