/- 'FnExactGoodChores': what the program's function and the reference's answer, told over numbers and lists alone, meets the law at every input within the kinds' own bounds; no other condition. -/
import Derived.Test.YtlilbhngffibeaaPFnExactGoodChoresx2
import Derived.Test.YtlilbhngffibeaaPlain
namespace Go.Proofs.Ytlilbhngffibeaa.Pure
open Go.RowKit Go.Proofs.Ytlilbhngffibeaa.PFnExactGoodChores Go.Proofs.Ytlilbhngffibeaa.Plain Go.Proofs.YtlilbhngffibeaaW.PrintWords Go.Proofs.YtlilbhngffibeaaW.PrintLast
set_option linter.unusedVariables false
set_option linter.unusedSimpArgs false

theorem szChoreS_eq (l : List (S85)) (h : l.length ≤ 140737488351232) (n : Int) (h0 : 0 ≤ n) (h1 : n ≤ 1048576) : laws_szChoreS.f l n = some (if (l.length : Int) > n then -1 else n - l.length) := by
  unfold laws_szChoreS.f
  rw [wrap_in (by omega) (by omega)]
  split <;> split <;> first | rfl | (exfalso; omega)
def cChoreS (x : S85) : S83 := ⟨x.f0, x.f1, x.f2⟩
theorem toChoreS_ev (l : List S85) (h : l.length ≤ 1048576) : Ev (fun k => laws_toChoreS.f k l) (l.map cChoreS) := by
  have := to_loop (fun k acc i => laws_toChoreS.l0 k l acc i) cChoreS l z83 (fun k acc => by simp [laws_toChoreS.l0]) (fun i hi => ⟨0, fun k _ acc hacc => by
    have h1 : (i : Int) < (l.length : Int) := by omega
    have h2 : (0 : Int) ≤ (i : Int) := by omega
    have h3 : (i : Int) < (acc.length : Int) := by omega
    have h4 : rd_T85 l (i : Int) = l[i] := by simp [rd_T85, hi]
    simp only [laws_toChoreS.l0, laws_toChore.f, h1, h2, h3, h4, if_true, Option.bind_some, wrap_succ i (by omega), toNat_i]
    rfl⟩)
  exact Ev.congr (fun k => by
    have h5 : l.length ≤ 100000000 := by omega
    simp only [laws_toChoreS.f, toNat_i]
    rw [if_pos (by omega), if_pos (by omega)]) this
theorem eqChoreS_ev (l : List (S83)) (h : l.length < 9223372036854775807) : Ev (fun k => laws_eqChoreS.f k l l) true := by
  have := eq_loop (fun k i => laws_eqChoreS.l0 k l l i) l.length true (fun k => by simp [laws_eqChoreS.l0]) (fun i hi => ⟨0, fun k _ => by
    have h1 : (i : Int) < (l.length : Int) := by omega
    have h2 : (0 : Int) ≤ (i : Int) := by omega
    simp only [laws_eqChoreS.l0, laws_eqChore.f, h1, h2, if_true, Option.bind_some, wrap_succ i (by omega), bne_self_eq_false, Bool.false_eq_true, if_false]⟩)
  exact Ev.congr (fun k => by simp only [laws_eqChoreS.f, if_true]) this
theorem between_eq (a lo hi : Int) : impl_between.f a lo hi = some (decide (lo ≤ a ∧ a ≤ hi)) := by
  unfold impl_between.f
  split <;> simp <;> omega
def okChore (x : S83) : Bool := decide (1 ≤ x.f0 ∧ x.f0 ≤ 60 ∧ 1 ≤ x.f1 ∧ x.f1 ≤ x.f0 ∧ x.f1 ≤ x.f2 ∧ x.f2 ≤ x.f0)
def goodChores (l : List S83) : Bool := decide (1 ≤ l.length ∧ l.length ≤ 6) && (List.range l.length).all (fun i => okChore (rd_T83 l i))
theorem spec_chores (l : List S83) (hb : l.length ≤ 1099511627776) : Ev (fun k => spec_GoodChores.f k l) (goodChores l) := by
  have hl := all_loop (fun k i => spec_GoodChores.l0 k l (l.length : Int) i) l.length (fun i => okChore (rd_T83 l i)) true false
    (Ev.next ⟨0, fun k _ => by simp [spec_GoodChores.l0]⟩)
    (fun i hi hp => ⟨0, fun k _ => by
      have h1 : (i : Int) < (l.length : Int) := by omega
      have h2 : (0 : Int) ≤ (i : Int) := by omega
      simp only [okChore, decide_eq_true_eq] at hp
      simp only [spec_GoodChores.l0, h1, h2, if_true, wrap_succ i (by omega)]
      rw [if_neg (by omega), if_neg (by omega), if_neg (by omega), if_neg (by omega), if_neg (by omega), if_neg (by omega)]⟩)
    (fun i hi hp => ⟨0, fun k _ => by
      have h1 : (i : Int) < (l.length : Int) := by omega
      have h2 : (0 : Int) ≤ (i : Int) := by omega
      simp only [okChore, decide_eq_false_iff_not] at hp
      simp only [spec_GoodChores.l0, h1, h2, if_true]
      repeat' split
      all_goals first | rfl | (exfalso; omega)⟩)
  obtain ⟨K, hK⟩ := hl
  refine ⟨K + 1, fun k hk => ?_⟩
  obtain ⟨m, rfl⟩ : ∃ m, k = m + 1 := ⟨k - 1, by omega⟩
  have hk' := hK m (by omega)
  simp only [spec_GoodChores.f, spec_GoodChores.j0, hk', goodChores]
  generalize (List.range l.length).all (fun (i : Nat) => okChore (rd_T83 l (i : Int))) = q
  by_cases h1 : 1 ≤ l.length
  · by_cases h6 : l.length ≤ 6
    · have e1 : ¬ ((l.length : Int) < 1) := by omega
      have e2 : ¬ ((l.length : Int) > 6) := by omega
      cases q <;> simp [e1, e2, h1, h6]
    · have e1 : ¬ ((l.length : Int) < 1) := by omega
      have e2 : ((l.length : Int) > 6) := by omega
      cases q <;> simp [e1, e2, h1, h6]
  · have e1 : ((l.length : Int) < 1) := by omega
    simp [e1, h1]
theorem impl_chores (l : List S83) (hb : l.length ≤ 1099511627776) : Ev (fun k => impl_GoodChores.f k l) (goodChores l) := by
  have hl := all_loop (fun k i => impl_GoodChores.l0 k l l (l.length : Int) i) l.length (fun i => okChore (rd_T83 l i)) (decide (1 ≤ l.length ∧ l.length ≤ 6)) false
    (Ev.next ⟨0, fun k _ => by
      have h1 : ¬ (l.length : Int) < (l.length : Int) := by omega
      simp only [impl_GoodChores.l0, h1, if_false, between_eq, Option.bind_some, Option.some.injEq]
      apply decide_eq_decide.2
      omega⟩)
    (fun i hi hp => ⟨0, fun k _ => by
      have h1 : (i : Int) < (l.length : Int) := by omega
      have h2 : (0 : Int) ≤ (i : Int) := by omega
      simp only [okChore, decide_eq_true_eq] at hp
      simp only [impl_GoodChores.l0, h1, h2, if_true, wrap_succ i (by omega), between_eq, Option.bind_some, decide_eq_true_eq]
      rw [if_pos (by omega), if_pos (by omega), if_pos (by omega)]⟩)
    (fun i hi hp => ⟨0, fun k _ => by
      have h1 : (i : Int) < (l.length : Int) := by omega
      have h2 : (0 : Int) ≤ (i : Int) := by omega
      simp only [okChore, decide_eq_false_iff_not] at hp
      simp only [impl_GoodChores.l0, h1, h2, if_true, between_eq, Option.bind_some, decide_eq_true_eq]
      repeat' split
      all_goals first | rfl | (exfalso; omega)⟩)
  refine Ev.congr (f := fun k => impl_GoodChores.l0 k l l (l.length : Int) 0) (fun k => rfl) ?_
  have e : (if (List.range l.length).all (fun i => okChore (rd_T83 l i)) = true then decide (1 ≤ l.length ∧ l.length ≤ 6) else false) = goodChores l := by
    unfold goodChores
    cases (List.range l.length).all (fun i => okChore (rd_T83 l i)) <;> simp
  rw [← e]
  exact hl
theorem FnExactGoodChores : ∀ (l0 : List (S85)), ((∀ (zl0 : S85), zl0 ∈ l0 → ((Lit.int .i64 zl0.f0).wf = true ∧ (Lit.int .i64 zl0.f1).wf = true ∧ (Lit.int .i64 zl0.f2).wf = true)) ∧ l0.length * 24 ≤ 140737488351232) → ∃ k, laws_FnExactGoodChores.f k l0 = some true := by
  intro l ⟨_, hl⟩
  have hs := szChoreS_eq l (by omega) 1048576 (by omega) (by omega)
  by_cases hn : (l.length : Int) > 1048576
  · exact ⟨0, by simp [laws_FnExactGoodChores.f, hs, hn]⟩
  · have hn' : ¬ ((1048576 : Int) - l.length < 0) := by omega
    obtain ⟨K1, h1⟩ := toChoreS_ev l (by omega)
    obtain ⟨K2, h2⟩ := spec_chores (l.map cChoreS) (by rw [List.length_map]; omega)
    obtain ⟨K3, h3⟩ := impl_chores (l.map cChoreS) (by rw [List.length_map]; omega)
    obtain ⟨K4, h4⟩ := eqChoreS_ev (l.map cChoreS) (by rw [List.length_map]; omega)
    refine ⟨K1 + K2 + K3 + K4, ?_⟩
    simp (disch := omega) only [laws_FnExactGoodChores.f, hs, hn, if_false, Option.bind_some, hn', h1, h2, h3, h4]
    simp

end Go.Proofs.Ytlilbhngffibeaa.Pure
