/- 'FnExactCycleOf': what the program's function and the reference's answer, told over numbers and lists alone, meets the law at every input within the kinds' own bounds; no other condition. -/
import Derived.Test.YtlilbhngffibeaaPFnExactCycleOfx3
import Derived.Test.YtlilbhngffibeaaPlain
namespace Go.Proofs.Ytlilbhngffibeaa.Pure
open Go.RowKit Go.Proofs.Ytlilbhngffibeaa.PFnExactCycleOf Go.Proofs.Ytlilbhngffibeaa.Plain Go.Proofs.YtlilbhngffibeaaW.PrintWords Go.Proofs.YtlilbhngffibeaaW.PrintLast
set_option linter.unusedVariables false
set_option linter.unusedSimpArgs false

theorem szChoreS_eq (l : List (S85)) (h : l.length ≤ 140737488351232) (n : Int) (h0 : 0 ≤ n) (h1 : n ≤ 1048576) : laws_szChoreS.f l n = some (if (l.length : Int) > n then -1 else n - l.length) := by
  unfold laws_szChoreS.f
  rw [wrap_in (by omega) (by omega)]
  split <;> split <;> first | rfl | (exfalso; omega)
def cChoreS (x : S85) : S83 := ⟨x.f0, x.f1, x.f2⟩
theorem toChoreS_ev (l : List S85) (h : l.length ≤ 1048576) : Ev (fun k => laws_toChoreS.f k l) (l.map cChoreS) := by
  have := to_loop (fun k acc i => laws_toChoreS.l0 k l acc i) cChoreS l z83 (fun k acc => by simp [laws_toChoreS.l0]) (fun i hi => ⟨0, fun k _ acc hacc => by
    have h1 : (i : Int) < (l.length : Int) := by omega
    have h2 : (0 : Int) ≤ (i : Int) := by omega
    have h3 : (i : Int) < (acc.length : Int) := by omega
    have h4 : rd_T85 l (i : Int) = l[i] := by simp [rd_T85, hi]
    simp only [laws_toChoreS.l0, laws_toChore.f, h1, h2, h3, h4, if_true, Option.bind_some, wrap_succ i (by omega), toNat_i]
    rfl⟩)
  exact Ev.congr (fun k => by
    have h5 : l.length ≤ 100000000 := by omega
    simp only [laws_toChoreS.f, toNat_i]
    rw [if_pos (by omega), if_pos (by omega)]) this
theorem eqChoreS_ev (l : List (S83)) (h : l.length < 9223372036854775807) : Ev (fun k => laws_eqChoreS.f k l l) true := by
  have := eq_loop (fun k i => laws_eqChoreS.l0 k l l i) l.length true (fun k => by simp [laws_eqChoreS.l0]) (fun i hi => ⟨0, fun k _ => by
    have h1 : (i : Int) < (l.length : Int) := by omega
    have h2 : (0 : Int) ≤ (i : Int) := by omega
    simp only [laws_eqChoreS.l0, laws_eqChore.f, h1, h2, if_true, Option.bind_some, wrap_succ i (by omega), bne_self_eq_false, Bool.false_eq_true, if_false]⟩)
  exact Ev.congr (fun k => by simp only [laws_eqChoreS.f, if_true]) this
theorem between_eq (a lo hi : Int) : impl_between.f a lo hi = some (decide (lo ≤ a ∧ a ≤ hi)) := by
  unfold impl_between.f
  split <;> simp <;> omega
def okChore (x : S83) : Bool := decide (1 ≤ x.f0 ∧ x.f0 ≤ 60 ∧ 1 ≤ x.f1 ∧ x.f1 ≤ x.f0 ∧ x.f1 ≤ x.f2 ∧ x.f2 ≤ x.f0)
def goodChores (l : List S83) : Bool := decide (1 ≤ l.length ∧ l.length ≤ 6) && (List.range l.length).all (fun i => okChore (rd_T83 l i))
theorem spec_chores (l : List S83) (hb : l.length ≤ 1099511627776) : Ev (fun k => spec_GoodChores.f k l) (goodChores l) := by
  have hl := all_loop (fun k i => spec_GoodChores.l0 k l (l.length : Int) i) l.length (fun i => okChore (rd_T83 l i)) true false
    (Ev.next ⟨0, fun k _ => by simp [spec_GoodChores.l0]⟩)
    (fun i hi hp => ⟨0, fun k _ => by
      have h1 : (i : Int) < (l.length : Int) := by omega
      have h2 : (0 : Int) ≤ (i : Int) := by omega
      simp only [okChore, decide_eq_true_eq] at hp
      simp only [spec_GoodChores.l0, h1, h2, if_true, wrap_succ i (by omega)]
      rw [if_neg (by omega), if_neg (by omega), if_neg (by omega), if_neg (by omega), if_neg (by omega), if_neg (by omega)]⟩)
    (fun i hi hp => ⟨0, fun k _ => by
      have h1 : (i : Int) < (l.length : Int) := by omega
      have h2 : (0 : Int) ≤ (i : Int) := by omega
      simp only [okChore, decide_eq_false_iff_not] at hp
      simp only [spec_GoodChores.l0, h1, h2, if_true]
      repeat' split
      all_goals first | rfl | (exfalso; omega)⟩)
  obtain ⟨K, hK⟩ := hl
  refine ⟨K + 1, fun k hk => ?_⟩
  obtain ⟨m, rfl⟩ : ∃ m, k = m + 1 := ⟨k - 1, by omega⟩
  have hk' := hK m (by omega)
  simp only [spec_GoodChores.f, spec_GoodChores.j0, hk', goodChores]
  generalize (List.range l.length).all (fun (i : Nat) => okChore (rd_T83 l (i : Int))) = q
  by_cases h1 : 1 ≤ l.length
  · by_cases h6 : l.length ≤ 6
    · have e1 : ¬ ((l.length : Int) < 1) := by omega
      have e2 : ¬ ((l.length : Int) > 6) := by omega
      cases q <;> simp [e1, e2, h1, h6]
    · have e1 : ¬ ((l.length : Int) < 1) := by omega
      have e2 : ((l.length : Int) > 6) := by omega
      cases q <;> simp [e1, e2, h1, h6]
  · have e1 : ((l.length : Int) < 1) := by omega
    simp [e1, h1]
theorem impl_chores (l : List S83) (hb : l.length ≤ 1099511627776) : Ev (fun k => impl_GoodChores.f k l) (goodChores l) := by
  have hl := all_loop (fun k i => impl_GoodChores.l0 k l l (l.length : Int) i) l.length (fun i => okChore (rd_T83 l i)) (decide (1 ≤ l.length ∧ l.length ≤ 6)) false
    (Ev.next ⟨0, fun k _ => by
      have h1 : ¬ (l.length : Int) < (l.length : Int) := by omega
      simp only [impl_GoodChores.l0, h1, if_false, between_eq, Option.bind_some, Option.some.injEq]
      apply decide_eq_decide.2
      omega⟩)
    (fun i hi hp => ⟨0, fun k _ => by
      have h1 : (i : Int) < (l.length : Int) := by omega
      have h2 : (0 : Int) ≤ (i : Int) := by omega
      simp only [okChore, decide_eq_true_eq] at hp
      simp only [impl_GoodChores.l0, h1, h2, if_true, wrap_succ i (by omega), between_eq, Option.bind_some, decide_eq_true_eq]
      rw [if_pos (by omega), if_pos (by omega), if_pos (by omega)]⟩)
    (fun i hi hp => ⟨0, fun k _ => by
      have h1 : (i : Int) < (l.length : Int) := by omega
      have h2 : (0 : Int) ≤ (i : Int) := by omega
      simp only [okChore, decide_eq_false_iff_not] at hp
      simp only [impl_GoodChores.l0, h1, h2, if_true, between_eq, Option.bind_some, decide_eq_true_eq]
      repeat' split
      all_goals first | rfl | (exfalso; omega)⟩)
  refine Ev.congr (f := fun k => impl_GoodChores.l0 k l l (l.length : Int) 0) (fun k => rfl) ?_
  have e : (if (List.range l.length).all (fun i => okChore (rd_T83 l i)) = true then decide (1 ≤ l.length ∧ l.length ≤ 6) else false) = goodChores l := by
    unfold goodChores
    cases (List.range l.length).all (fun i => okChore (rd_T83 l i)) <;> simp
  rw [← e]
  exact hl
theorem impl_gcd_ev : ∀ (b a : Nat), a < 9223372036854775808 → b < 9223372036854775808 → Ev (fun k => impl_gcd.l0 k (a : Int) (b : Int)) ((Nat.gcd a b : Nat) : Int) := by
  intro b
  induction b using Nat.strongRecOn with
  | _ b ih =>
    intro a ha hb
    by_cases h0 : b = 0
    · subst h0
      refine Ev.at 1 0 (fun k _ => ?_)
      simp only [impl_gcd.l0]
      rw [if_pos (by rfl), Nat.gcd_zero_right, wrap_in (by omega) (by omega)]
      congr 1
      unfold mx
      split <;> omega
    · have hr := ih (a % b) (Nat.mod_lt _ (by omega)) b hb (Nat.lt_of_lt_of_le (Nat.mod_lt _ (by omega)) (by omega))
      rw [show Nat.gcd b (a % b) = Nat.gcd a b by rw [Nat.gcd_comm b, ← Nat.gcd_rec, Nat.gcd_comm]] at hr
      refine Ev.back 1 0 (fun k _ => ?_) hr
      simp only [impl_gcd.l0]
      rw [if_neg (by omega), ← Int.ofNat_tmod]
theorem spec_gcd_ev : ∀ (b a : Nat), Ev (fun k => spec_l4Gcd.l0 k (a : Int) (b : Int)) ((Nat.gcd a b : Nat) : Int) := by
  intro b
  induction b using Nat.strongRecOn with
  | _ b ih =>
    intro a
    by_cases h0 : b = 0
    · subst h0
      refine Ev.at 1 0 (fun k _ => ?_)
      simp only [spec_l4Gcd.l0]
      rw [if_pos (by rfl), Nat.gcd_zero_right]
    · have hr := ih (a % b) (Nat.mod_lt _ (by omega)) b
      rw [show Nat.gcd b (a % b) = Nat.gcd a b by rw [Nat.gcd_comm b, ← Nat.gcd_rec, Nat.gcd_comm]] at hr
      refine Ev.back 1 0 (fun k _ => ?_) hr
      simp only [spec_l4Gcd.l0]
      rw [if_neg (by omega), ← Int.ofNat_tmod]
theorem gcd_low (n p : Nat) (hn : 1 ≤ n) (hp : 1 ≤ p) : n ≤ n / Nat.gcd n p * p := by
  obtain ⟨c, hc⟩ := Nat.gcd_dvd_left n p
  have hg : 0 < Nat.gcd n p := Nat.gcd_pos_of_pos_left _ (by omega)
  have h1 : n / Nat.gcd n p * Nat.gcd n p = n := Nat.div_mul_cancel (Nat.gcd_dvd_left n p)
  have h2 : Nat.gcd n p ≤ p := Nat.le_of_dvd (by omega) (Nat.gcd_dvd_right n p)
  calc n = n / Nat.gcd n p * Nat.gcd n p := h1.symm
    _ ≤ n / Nat.gcd n p * p := Nat.mul_le_mul_left _ h2
theorem cyc_val (n p : Nat) (hn : n ≤ 1000000) (hp : 1 ≤ p ∧ p ≤ 60) (h1 : 1 ≤ n) : wrap64 ((wrap64 (Int.tdiv (n : Int) ((Nat.gcd n p : Nat) : Int))) * (p : Int)) = ((n / Nat.gcd n p * p : Nat) : Int) := by
  have h3 : n / Nat.gcd n p ≤ n := Nat.div_le_self _ _
  have h4 : n / Nat.gcd n p * p ≤ 1000000 * 60 := Nat.mul_le_mul (by omega) hp.2
  rw [← Int.ofNat_tdiv]
  generalize n / Nat.gcd n p = q at *
  have e1 : wrap64 (q : Int) = (q : Int) := wrap_in (by omega) (by omega)
  rw [e1, ← Int.natCast_mul]
  exact wrap_in (by omega) (by omega)
theorem cyc_val' (n p : Nat) (hn : n ≤ 46656000000) (hp : 1 ≤ p ∧ p ≤ 60) : wrap64 ((wrap64 (Int.tdiv (n : Int) ((Nat.gcd n p : Nat) : Int))) * (p : Int)) = ((n / Nat.gcd n p * p : Nat) : Int) := by
  have h3 : n / Nat.gcd n p ≤ n := Nat.div_le_self _ _
  have h4 : n / Nat.gcd n p * p ≤ 46656000000 * 60 := Nat.mul_le_mul (by omega) hp.2
  rw [← Int.ofNat_tdiv]
  generalize n / Nat.gcd n p = q at *
  have e1 : wrap64 (q : Int) = (q : Int) := wrap_in (by omega) (by omega)
  rw [e1, ← Int.natCast_mul]
  exact wrap_in (by omega) (by omega)
/-- The cycle, step by step. -/
def cyc (l : List S83) : Nat → Nat
  | 0 => 1
  | i + 1 => cyc l i / Nat.gcd (cyc l i) ((rd_T83 l (i : Int)).f0).toNat * ((rd_T83 l (i : Int)).f0).toNat
theorem cyc_facts (l : List S83) (hg : ∀ i, i < l.length → okChore (rd_T83 l (i : Int)) = true) : ∀ i, i ≤ l.length → 1 ≤ cyc l i ∧ cyc l i ≤ 60 ^ i
  | 0, _ => by simp [cyc]
  | i + 1, hi => by
    have h := cyc_facts l hg i (by omega)
    have h3 := hg i (by omega)
    simp only [okChore, decide_eq_true_eq] at h3
    have hp : 1 ≤ ((rd_T83 l (i : Int)).f0).toNat ∧ ((rd_T83 l (i : Int)).f0).toNat ≤ 60 := by omega
    have hlow := gcd_low (cyc l i) ((rd_T83 l (i : Int)).f0).toNat h.1 hp.1
    have h5 : cyc l i / Nat.gcd (cyc l i) ((rd_T83 l (i : Int)).f0).toNat ≤ cyc l i := Nat.div_le_self _ _
    refine ⟨by show 1 ≤ cyc l i / _ * _; omega, ?_⟩
    rw [Nat.pow_succ]
    exact Nat.mul_le_mul (Nat.le_trans h5 h.2) hp.2
theorem cyc_mono (l : List S83) (hg : ∀ i, i < l.length → okChore (rd_T83 l (i : Int)) = true) (i : Nat) (hi : i < l.length) : cyc l i ≤ cyc l (i + 1) := by
  have h := cyc_facts l hg i (by omega)
  have h3 := hg i hi
  simp only [okChore, decide_eq_true_eq] at h3
  exact gcd_low (cyc l i) ((rd_T83 l (i : Int)).f0).toNat h.1 (by omega)
theorem cyc_le (l : List S83) (hg : ∀ i, i < l.length → okChore (rd_T83 l (i : Int)) = true) (i : Nat) : ∀ d, i + d ≤ l.length → cyc l i ≤ cyc l (i + d)
  | 0, _ => Nat.le_refl _
  | d + 1, h => Nat.le_trans (cyc_le l hg i d (by omega)) (cyc_mono l hg (i + d) (by omega))
theorem pow60 (i : Nat) (h : i ≤ 6) : 60 ^ i ≤ 46656000000 := by
  have : 60 ^ i ≤ 60 ^ 6 := Nat.pow_le_pow_right (by omega) h
  omega
theorem impl_step (l : List S83) (hg : ∀ i, i < l.length → okChore (rd_T83 l (i : Int)) = true) (h6 : l.length ≤ 6) (i : Nat) (hi : i < l.length) :
    ∃ K, ∀ k, K ≤ k → impl_CycleOf.l0 (k + 1) ((cyc l i : Nat) : Int) l (l.length : Int) (i : Int) = impl_CycleOf.l0 k ((cyc l (i + 1) : Nat) : Int) l (l.length : Int) ((i + 1 : Nat) : Int) := by
  have hf := cyc_facts l hg i (by omega)
  have hb := pow60 i (by omega)
  have h3 := hg i hi
  simp only [okChore, decide_eq_true_eq] at h3
  obtain ⟨p, hp⟩ : ∃ p : Nat, (rd_T83 l (i : Int)).f0 = (p : Int) := ⟨((rd_T83 l (i : Int)).f0).toNat, by omega⟩
  obtain ⟨K, hK⟩ := impl_gcd_ev p (cyc l i) (by omega) (by omega)
  have h1 : (i : Int) < (l.length : Int) := by omega
  have h2 : (0 : Int) ≤ (i : Int) := by omega
  have h4 : ¬ ((Nat.gcd (cyc l i) p : Nat) : Int) = 0 := by
    have : 0 < Nat.gcd (cyc l i) p := Nat.gcd_pos_of_pos_left _ (by omega)
    omega
  have e : cyc l (i + 1) = cyc l i / Nat.gcd (cyc l i) p * p := by show cyc l i / Nat.gcd (cyc l i) _ * _ = _; rw [hp, Int.toNat_natCast]
  refine ⟨K, fun k hk => ?_⟩
  have hK' := hK k hk
  simp only [impl_CycleOf.l0, impl_gcd.f, h1, h2, if_true, hp, hK', Option.bind_some, h4, if_false, wrap_succ i (by omega)]
  rw [cyc_val' _ _ (by omega) (by omega), e]
theorem spec_step (l : List S83) (hg : ∀ i, i < l.length → okChore (rd_T83 l (i : Int)) = true) (h6 : l.length ≤ 6) (i : Nat) (hi : i < l.length) :
    ∃ K, ∀ k, K ≤ k → spec_l25Cycle.l0 (k + 1) ((cyc l i : Nat) : Int) l (l.length : Int) (i : Int) = if ((cyc l (i + 1) : Nat) : Int) > 1000000 then some (0, false) else spec_l25Cycle.l0 k ((cyc l (i + 1) : Nat) : Int) l (l.length : Int) ((i + 1 : Nat) : Int) := by
  have hf := cyc_facts l hg i (by omega)
  have hb := pow60 i (by omega)
  have h3 := hg i hi
  simp only [okChore, decide_eq_true_eq] at h3
  obtain ⟨p, hp⟩ : ∃ p : Nat, (rd_T83 l (i : Int)).f0 = (p : Int) := ⟨((rd_T83 l (i : Int)).f0).toNat, by omega⟩
  obtain ⟨K, hK⟩ := spec_gcd_ev p (cyc l i)
  have h1 : (i : Int) < (l.length : Int) := by omega
  have h2 : (0 : Int) ≤ (i : Int) := by omega
  have h4 : ¬ ((Nat.gcd (cyc l i) p : Nat) : Int) = 0 := by
    have : 0 < Nat.gcd (cyc l i) p := Nat.gcd_pos_of_pos_left _ (by omega)
    omega
  have h7 : ¬ (((cyc l i : Nat) : Int) < 0) := by omega
  have h8 : ¬ ((p : Int) < 0) := by omega
  have e : cyc l (i + 1) = cyc l i / Nat.gcd (cyc l i) p * p := by show cyc l i / Nat.gcd (cyc l i) _ * _ = _; rw [hp, Int.toNat_natCast]
  refine ⟨K, fun k hk => ?_⟩
  have hK' := hK k hk
  simp only [spec_l25Cycle.l0, spec_l4Gcd.f, spec_l4Abs.f, h1, h2, if_true, hp, hK', Option.bind_some, h4, h7, h8, if_false, wrap_succ i (by omega)]
  rw [cyc_val' _ _ (by omega) (by omega), e]
theorem both_cycle (l : List S83) (hg : ∀ i, i < l.length → okChore (rd_T83 l (i : Int)) = true) (h6 : l.length ≤ 6) : ∃ r, Ev (fun k => impl_CycleOf.l0 k 1 l (l.length : Int) 0) r ∧ Ev (fun k => spec_l25Cycle.l0 k 1 l (l.length : Int) 0) r := by
  have hi := run_loop (fun k i (s : Int) => impl_CycleOf.l0 k s l (l.length : Int) i) l.length (fun i => ((cyc l i : Nat) : Int)) (if ((cyc l l.length : Nat) : Int) > 1000000 then (0, false) else (((cyc l l.length : Nat) : Int), true))
    (Ev.at 1 0 (fun k _ => by
      have h1 : ¬ ((l.length : Int) < (l.length : Int)) := by omega
      simp only [impl_CycleOf.l0, h1, if_false]
      split <;> rfl)) (fun i hi => impl_step l hg h6 i hi) 0 (Nat.zero_le _)
  refine ⟨_, hi, ?_⟩
  have key : ∀ (d i : Nat), i + d = l.length → ((cyc l i : Nat) : Int) ≤ 1000000 → Ev (fun k => spec_l25Cycle.l0 k ((cyc l i : Nat) : Int) l (l.length : Int) (i : Int)) (if ((cyc l l.length : Nat) : Int) > 1000000 then (0, false) else (((cyc l l.length : Nat) : Int), true)) := by
    intro d
    induction d with
    | zero =>
      intro i hi hc
      obtain rfl : i = l.length := by omega
      have h1 : ¬ ((l.length : Int) < (l.length : Int)) := by omega
      have h2 : ¬ (((cyc l l.length : Nat) : Int) > 1000000) := by omega
      exact Ev.at 1 0 (fun k _ => by simp only [spec_l25Cycle.l0, h1, h2, if_false])
    | succ d ih =>
      intro i hi hc
      obtain ⟨K, hK⟩ := spec_step l hg h6 i (by omega)
      by_cases hb : ((cyc l (i + 1) : Nat) : Int) > 1000000
      · have hle := cyc_le l hg (i + 1) d (by omega)
        have h2 : ((cyc l l.length : Nat) : Int) > 1000000 := by rw [show l.length = i + 1 + d by omega]; omega
        rw [if_pos h2]
        exact Ev.at 1 K (fun k hk => by rw [hK k hk, if_pos hb])
      · exact Ev.back 1 K (fun k hk => by rw [hK k hk, if_neg hb]) (ih (i + 1) (by omega) (by omega))
  exact key l.length 0 (by omega) (by simp [cyc])
theorem FnExactCycleOf : ∀ (l0 : List (S85)), ((∀ (zl0 : S85), zl0 ∈ l0 → ((Lit.int .i64 zl0.f0).wf = true ∧ (Lit.int .i64 zl0.f1).wf = true ∧ (Lit.int .i64 zl0.f2).wf = true)) ∧ l0.length * 24 ≤ 140737488351232) → ∃ k, laws_FnExactCycleOf.f k l0 = some true := by
  intro l ⟨_, hl⟩
  have hs := szChoreS_eq l (by omega) 1048576 (by omega) (by omega)
  by_cases hn : (l.length : Int) > 1048576
  · exact ⟨0, by simp [laws_FnExactCycleOf.f, hs, hn]⟩
  · have hn' : ¬ ((1048576 : Int) - l.length < 0) := by omega
    obtain ⟨K1, h1⟩ := toChoreS_ev l (by omega)
    obtain ⟨K2, h2⟩ := spec_chores (l.map cChoreS) (by rw [List.length_map]; omega)
    obtain ⟨K3, h3⟩ := impl_chores (l.map cChoreS) (by rw [List.length_map]; omega)
    obtain ⟨K4, h4⟩ := eqChoreS_ev (l.map cChoreS) (by rw [List.length_map]; omega)
    have hj : ∀ k, K1 + K4 ≤ k → laws_FnExactCycleOf.j0 (k + 1) l (l.map cChoreS) false = some true := by
      intro k hk
      simp (disch := omega) only [laws_FnExactCycleOf.j0, h1, h4, Option.bind_some, Bool.false_eq_true, if_false, if_true]
    have both : ∃ r K, ∀ k, K ≤ k → spec_CycleOf.f k (l.map cChoreS) = some r ∧ impl_CycleOf.f k (l.map cChoreS) = some r := by
      by_cases hg : goodChores (l.map cChoreS) = true
      · have hg' := hg
        unfold goodChores at hg'
        rw [Bool.and_eq_true, range_all, decide_eq_true_eq] at hg'
        obtain ⟨r, ⟨K5, h5⟩, ⟨K6, h6⟩⟩ := both_cycle (l.map cChoreS) hg'.2 hg'.1.2
        refine ⟨r, K2 + K3 + K5 + K6, fun k hk => ?_⟩
        have h5' := h5 k (by omega)
        have h6' := h6 k (by omega)
        simp (disch := omega) only [spec_CycleOf.f, impl_CycleOf.f, spec_l25Cycle.f, h2, h3, hg, Option.bind_some, if_true, h5', h6', and_self]
      · refine ⟨(0, false), K2 + K3, fun k hk => ?_⟩
        simp (disch := omega) only [spec_CycleOf.f, impl_CycleOf.f, h2, h3, hg, Option.bind_some, if_false, Bool.false_eq_true, and_self]
    obtain ⟨⟨r1, r2⟩, K5, h5⟩ := both
    refine ⟨K1 + K2 + K3 + K4 + K5 + 1, ?_⟩
    have hj' := hj (K1 + K2 + K3 + K4 + K5) (by omega)
    have h5' := h5 (K1 + K2 + K3 + K4 + K5 + 1) (by omega)
    simp (disch := omega) only [laws_FnExactCycleOf.f, hs, hn, if_false, Option.bind_some, hn', h1, h5', if_true, bne_self_eq_false, hj']

end Go.Proofs.Ytlilbhngffibeaa.Pure
