/- 'FnExactDemandAt': what the program's function and the reference's answer, told over numbers and lists alone, meets the law at every input within the kinds' own bounds; no other condition. -/
import Derived.Test.YtlilbhngffibeaaPFnExactDemandAtx3
import Derived.Test.YtlilbhngffibeaaPlain
namespace Go.Proofs.Ytlilbhngffibeaa.Pure
open Go.RowKit Go.Proofs.Ytlilbhngffibeaa.PFnExactDemandAt Go.Proofs.Ytlilbhngffibeaa.Plain Go.Proofs.YtlilbhngffibeaaW.PrintWords Go.Proofs.YtlilbhngffibeaaW.PrintLast
set_option linter.unusedVariables false
set_option linter.unusedSimpArgs false

theorem szChoreS_eq (l : List (S85)) (h : l.length ≤ 140737488351232) (n : Int) (h0 : 0 ≤ n) (h1 : n ≤ 1048576) : laws_szChoreS.f l n = some (if (l.length : Int) > n then -1 else n - l.length) := by
  unfold laws_szChoreS.f
  rw [wrap_in (by omega) (by omega)]
  split <;> split <;> first | rfl | (exfalso; omega)
def cChoreS (x : S85) : S83 := ⟨x.f0, x.f1, x.f2⟩
theorem toChoreS_ev (l : List S85) (h : l.length ≤ 1048576) : Ev (fun k => laws_toChoreS.f k l) (l.map cChoreS) := by
  have := to_loop (fun k acc i => laws_toChoreS.l0 k l acc i) cChoreS l z83 (fun k acc => by simp [laws_toChoreS.l0]) (fun i hi => ⟨0, fun k _ acc hacc => by
    have h1 : (i : Int) < (l.length : Int) := by omega
    have h2 : (0 : Int) ≤ (i : Int) := by omega
    have h3 : (i : Int) < (acc.length : Int) := by omega
    have h4 : rd_T85 l (i : Int) = l[i] := by simp [rd_T85, hi]
    simp only [laws_toChoreS.l0, laws_toChore.f, h1, h2, h3, h4, if_true, Option.bind_some, wrap_succ i (by omega), toNat_i]
    rfl⟩)
  exact Ev.congr (fun k => by
    have h5 : l.length ≤ 100000000 := by omega
    simp only [laws_toChoreS.f, toNat_i]
    rw [if_pos (by omega), if_pos (by omega)]) this
theorem eqChoreS_ev (l : List (S83)) (h : l.length < 9223372036854775807) : Ev (fun k => laws_eqChoreS.f k l l) true := by
  have := eq_loop (fun k i => laws_eqChoreS.l0 k l l i) l.length true (fun k => by simp [laws_eqChoreS.l0]) (fun i hi => ⟨0, fun k _ => by
    have h1 : (i : Int) < (l.length : Int) := by omega
    have h2 : (0 : Int) ≤ (i : Int) := by omega
    simp only [laws_eqChoreS.l0, laws_eqChore.f, h1, h2, if_true, Option.bind_some, wrap_succ i (by omega), bne_self_eq_false, Bool.false_eq_true, if_false]⟩)
  exact Ev.congr (fun k => by simp only [laws_eqChoreS.f, if_true]) this
theorem between_eq (a lo hi : Int) : impl_between.f a lo hi = some (decide (lo ≤ a ∧ a ≤ hi)) := by
  unfold impl_between.f
  split <;> simp <;> omega
def okChore (x : S83) : Bool := decide (1 ≤ x.f0 ∧ x.f0 ≤ 60 ∧ 1 ≤ x.f1 ∧ x.f1 ≤ x.f0 ∧ x.f1 ≤ x.f2 ∧ x.f2 ≤ x.f0)
def goodChores (l : List S83) : Bool := decide (1 ≤ l.length ∧ l.length ≤ 6) && (List.range l.length).all (fun i => okChore (rd_T83 l i))
theorem spec_chores (l : List S83) (hb : l.length ≤ 1099511627776) : Ev (fun k => spec_GoodChores.f k l) (goodChores l) := by
  have hl := all_loop (fun k i => spec_GoodChores.l0 k l (l.length : Int) i) l.length (fun i => okChore (rd_T83 l i)) true false
    (Ev.next ⟨0, fun k _ => by simp [spec_GoodChores.l0]⟩)
    (fun i hi hp => ⟨0, fun k _ => by
      have h1 : (i : Int) < (l.length : Int) := by omega
      have h2 : (0 : Int) ≤ (i : Int) := by omega
      simp only [okChore, decide_eq_true_eq] at hp
      simp only [spec_GoodChores.l0, h1, h2, if_true, wrap_succ i (by omega)]
      rw [if_neg (by omega), if_neg (by omega), if_neg (by omega), if_neg (by omega), if_neg (by omega), if_neg (by omega)]⟩)
    (fun i hi hp => ⟨0, fun k _ => by
      have h1 : (i : Int) < (l.length : Int) := by omega
      have h2 : (0 : Int) ≤ (i : Int) := by omega
      simp only [okChore, decide_eq_false_iff_not] at hp
      simp only [spec_GoodChores.l0, h1, h2, if_true]
      repeat' split
      all_goals first | rfl | (exfalso; omega)⟩)
  obtain ⟨K, hK⟩ := hl
  refine ⟨K + 1, fun k hk => ?_⟩
  obtain ⟨m, rfl⟩ : ∃ m, k = m + 1 := ⟨k - 1, by omega⟩
  have hk' := hK m (by omega)
  simp only [spec_GoodChores.f, spec_GoodChores.j0, hk', goodChores]
  generalize (List.range l.length).all (fun (i : Nat) => okChore (rd_T83 l (i : Int))) = q
  by_cases h1 : 1 ≤ l.length
  · by_cases h6 : l.length ≤ 6
    · have e1 : ¬ ((l.length : Int) < 1) := by omega
      have e2 : ¬ ((l.length : Int) > 6) := by omega
      cases q <;> simp [e1, e2, h1, h6]
    · have e1 : ¬ ((l.length : Int) < 1) := by omega
      have e2 : ((l.length : Int) > 6) := by omega
      cases q <;> simp [e1, e2, h1, h6]
  · have e1 : ((l.length : Int) < 1) := by omega
    simp [e1, h1]
theorem impl_chores (l : List S83) (hb : l.length ≤ 1099511627776) : Ev (fun k => impl_GoodChores.f k l) (goodChores l) := by
  have hl := all_loop (fun k i => impl_GoodChores.l0 k l l (l.length : Int) i) l.length (fun i => okChore (rd_T83 l i)) (decide (1 ≤ l.length ∧ l.length ≤ 6)) false
    (Ev.next ⟨0, fun k _ => by
      have h1 : ¬ (l.length : Int) < (l.length : Int) := by omega
      simp only [impl_GoodChores.l0, h1, if_false, between_eq, Option.bind_some, Option.some.injEq]
      apply decide_eq_decide.2
      omega⟩)
    (fun i hi hp => ⟨0, fun k _ => by
      have h1 : (i : Int) < (l.length : Int) := by omega
      have h2 : (0 : Int) ≤ (i : Int) := by omega
      simp only [okChore, decide_eq_true_eq] at hp
      simp only [impl_GoodChores.l0, h1, h2, if_true, wrap_succ i (by omega), between_eq, Option.bind_some, decide_eq_true_eq]
      rw [if_pos (by omega), if_pos (by omega), if_pos (by omega)]⟩)
    (fun i hi hp => ⟨0, fun k _ => by
      have h1 : (i : Int) < (l.length : Int) := by omega
      have h2 : (0 : Int) ≤ (i : Int) := by omega
      simp only [okChore, decide_eq_false_iff_not] at hp
      simp only [impl_GoodChores.l0, h1, h2, if_true, between_eq, Option.bind_some, decide_eq_true_eq]
      repeat' split
      all_goals first | rfl | (exfalso; omega)⟩)
  refine Ev.congr (f := fun k => impl_GoodChores.l0 k l l (l.length : Int) 0) (fun k => rfl) ?_
  have e : (if (List.range l.length).all (fun i => okChore (rd_T83 l i)) = true then decide (1 ≤ l.length ∧ l.length ≤ 6) else false) = goodChores l := by
    unfold goodChores
    cases (List.range l.length).all (fun i => okChore (rd_T83 l i)) <;> simp
  rw [← e]
  exact hl
theorem demand_same : ∀ (k : Nat) (t s : Int) (l : List S83) (n i : Int), impl_demand.l0 k t s l n i = spec_l25Demand.l0 k t s l n i
  | 0, _, _, _, _, _ => rfl
  | k + 1, t, s, l, n, i => by simp only [impl_demand.l0, spec_l25Demand.l0, demand_same k]
theorem demand_ends (t : Int) (l : List S83) (hb : l.length ≤ 1099511627776) (hg : (List.range l.length).all (fun i => okChore (rd_T83 l i)) = true) : ∃ r, Ev (fun k => spec_l25Demand.f k l t) r := by
  rw [range_all] at hg
  obtain ⟨r, _, h⟩ := one_while (fun k (s : Int × Int) => spec_l25Demand.l0 k t s.1 l (l.length : Int) s.2) (fun d s => ∃ i : Nat, s.2 = (i : Int) ∧ i + d = l.length) (fun _ => True)
    (by
      rintro d ⟨s, j⟩ ⟨i, hj, hd⟩
      obtain rfl : j = (i : Int) := hj
      by_cases hi : i < l.length
      · right
        have h1 : (i : Int) < (l.length : Int) := by omega
        have h2 : (0 : Int) ≤ (i : Int) := by omega
        have h3 := hg i hi
        simp only [okChore, decide_eq_true_eq] at h3
        have h4 : ¬ (rd_T83 l (i : Int)).f0 = 0 := by omega
        by_cases h5 : (rd_T83 l (i : Int)).f2 ≤ t
        · refine ⟨d - 1, (wrap64 (s + (wrap64 ((rd_T83 l (i : Int)).f1 * (wrap64 ((wrap64 (Int.tdiv (wrap64 (t - (rd_T83 l (i : Int)).f2)) (rd_T83 l (i : Int)).f0)) + 1))))), ((i + 1 : Nat) : Int)), by omega, ⟨i + 1, rfl, by omega⟩, fun r hr => Ev.back 1 0 (fun k _ => ?_) hr⟩
          simp only [spec_l25Demand.l0, h1, h2, if_true, if_false, h4, h5, wrap_succ i (by omega)]
        · refine ⟨d - 1, (s, ((i + 1 : Nat) : Int)), by omega, ⟨i + 1, rfl, by omega⟩, fun r hr => Ev.back 1 0 (fun k _ => ?_) hr⟩
          simp only [spec_l25Demand.l0, h1, h2, if_true, if_false, h5, wrap_succ i (by omega)]
      · left
        have h1 : ¬ (i : Int) < (l.length : Int) := by omega
        exact ⟨s, trivial, Ev.at 1 0 (fun k _ => by simp only [spec_l25Demand.l0, h1, if_false])⟩) l.length (0, 0) ⟨0, rfl, by omega⟩
  exact ⟨r, h⟩
theorem FnExactDemandAt : ∀ (l0 : List (S85)) (a1 : Int), ((∀ (zl0 : S85), zl0 ∈ l0 → ((Lit.int .i64 zl0.f0).wf = true ∧ (Lit.int .i64 zl0.f1).wf = true ∧ (Lit.int .i64 zl0.f2).wf = true)) ∧ l0.length * 24 ≤ 140737488351232) → (Lit.int .i64 a1).wf = true → ∃ k, laws_FnExactDemandAt.f k l0 a1 = some true := by
  intro l t ⟨_, hl⟩ _
  have hs := szChoreS_eq l (by omega) 1048576 (by omega) (by omega)
  by_cases hn : (l.length : Int) > 1048576
  · exact ⟨0, by simp [laws_FnExactDemandAt.f, hs, hn]⟩
  · have hn' : ¬ ((1048576 : Int) - l.length < 0) := by omega
    obtain ⟨K1, h1⟩ := toChoreS_ev l (by omega)
    obtain ⟨K2, h2⟩ := spec_chores (l.map cChoreS) (by rw [List.length_map]; omega)
    obtain ⟨K3, h3⟩ := impl_chores (l.map cChoreS) (by rw [List.length_map]; omega)
    obtain ⟨K4, h4⟩ := eqChoreS_ev (l.map cChoreS) (by rw [List.length_map]; omega)
    have hj : ∀ k, K1 + K4 ≤ k → laws_FnExactDemandAt.j0 (k + 1) l (l.map cChoreS) false = some true := by
      intro k hk
      simp (disch := omega) only [laws_FnExactDemandAt.j0, h1, h4, Option.bind_some, Bool.false_eq_true, if_false, if_true]
    have both : ∃ r K, ∀ k, K ≤ k → spec_DemandAt.f k (l.map cChoreS) t = some r ∧ impl_DemandAt.f k (l.map cChoreS) t = some r := by
      by_cases hg : goodChores (l.map cChoreS) = true
      · obtain ⟨r, K5, h5⟩ := demand_ends t (l.map cChoreS) (by rw [List.length_map]; omega) (by unfold goodChores at hg; rw [Bool.and_eq_true] at hg; exact hg.2)
        by_cases ht : 0 ≤ t ∧ t ≤ 1000000
        · refine ⟨(r, true), K2 + K3 + K5, fun k hk => ?_⟩
          have e1 : ¬ t < 0 := by omega
          have e2 : ¬ t > 1000000 := by omega
          have h6 : impl_demand.f k (l.map cChoreS) t = spec_l25Demand.f k (l.map cChoreS) t := demand_same _ _ _ _ _ _
          simp (disch := omega) only [spec_DemandAt.f, impl_DemandAt.f, h2, h3, h5, h6, hg, Option.bind_some, if_true, e1, e2, if_false, between_eq, ht, and_self, decide_true]
        · refine ⟨(0, false), K2 + K3, fun k hk => ?_⟩
          simp (disch := omega) only [spec_DemandAt.f, impl_DemandAt.f, h2, h3, hg, Option.bind_some, if_true, between_eq]
          have e : decide (0 ≤ t ∧ t ≤ 1000000) = false := decide_eq_false ht
          rw [e]
          constructor
          · split
            · rfl
            · split
              · rfl
              · exfalso; omega
          · rfl
      · refine ⟨(0, false), K2 + K3, fun k hk => ?_⟩
        simp (disch := omega) only [spec_DemandAt.f, impl_DemandAt.f, h2, h3, hg, Option.bind_some, if_false, Bool.false_eq_true, and_self]
    obtain ⟨⟨r1, r2⟩, K5, h5⟩ := both
    refine ⟨K1 + K2 + K3 + K4 + K5 + 1, ?_⟩
    have hj' := hj (K1 + K2 + K3 + K4 + K5) (by omega)
    have h5' := h5 (K1 + K2 + K3 + K4 + K5 + 1) (by omega)
    simp (disch := omega) only [laws_FnExactDemandAt.f, hs, hn, if_false, Option.bind_some, hn', h1, h5', if_true, bne_self_eq_false, hj']

end Go.Proofs.Ytlilbhngffibeaa.Pure
