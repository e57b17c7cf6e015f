/- 'FnExactStopBound': what the program's function and the reference's answer, told over numbers and lists alone, meets the law at every input within the kinds' own bounds; no other condition. -/
import Derived.Test.YtlilbhngffibeaaPFnExactStopBoundx1
import Derived.Test.YtlilbhngffibeaaPlain
namespace Go.Proofs.Ytlilbhngffibeaa.Pure
open Go.RowKit Go.Proofs.Ytlilbhngffibeaa.PFnExactStopBound Go.Proofs.Ytlilbhngffibeaa.Plain Go.Proofs.YtlilbhngffibeaaW.PrintWords Go.Proofs.YtlilbhngffibeaaW.PrintLast
set_option linter.unusedVariables false
set_option linter.unusedSimpArgs false

theorem between_eq (a lo hi : Int) : impl_between.f a lo hi = some (decide (lo ≤ a ∧ a ≤ hi)) := by
  unfold impl_between.f
  split <;> simp <;> omega
def gearOk (a b c d e : Int) : Bool := decide (a ≥ 0 ∧ a ≤ 10 ∧ c ≥ 1 ∧ c ≤ 10 ∧ b ≥ c ∧ b ≤ 30 ∧ d ≥ 1 ∧ d ≤ 1000 ∧ e ≥ 1 ∧ e ≤ 1000)
theorem spec_gear (a b c d e : Int) : spec_GoodGear.f a b c d e = some (gearOk a b c d e) := by
  unfold spec_GoodGear.f gearOk
  repeat' split
  all_goals (simp only [Option.some.injEq]; first | (rw [eq_comm, decide_eq_false_iff_not]; omega) | (apply decide_eq_decide.2; omega))
theorem impl_gear (a b c d e : Int) : impl_GoodGear.f a b c d e = some (gearOk a b c d e) := by
  simp only [impl_GoodGear.f, between_eq, Option.bind_some, decide_eq_true_eq, gearOk]
  repeat' split
  all_goals (simp only [Option.some.injEq]; first | (rw [eq_comm, decide_eq_false_iff_not]; omega) | (apply decide_eq_decide.2; omega))
theorem FnExactStopBound : ∀ (a0_0 : Int) (a0_1 : Int) (a0_2 : Int) (a0_3 : Int) (a0_4 : Int), (Lit.int .i64 a0_0).wf = true → (Lit.int .i64 a0_1).wf = true → (Lit.int .i64 a0_2).wf = true → (Lit.int .i64 a0_3).wf = true → (Lit.int .i64 a0_4).wf = true → laws_FnExactStopBound.f a0_0 a0_1 a0_2 a0_3 a0_4 = some true := by
  intro a b c d e _ _ _ _ _
  simp only [laws_FnExactStopBound.f, laws_toGear.f, spec_StopBound.f, impl_StopBound.f, spec_gear, impl_gear, Option.bind_some]
  cases h : gearOk a b c d e with
  | false => simp
  | true =>
    have hd : ¬ d = 0 := by
      simp only [gearOk, decide_eq_true_eq] at h
      omega
    simp [hd]

end Go.Proofs.Ytlilbhngffibeaa.Pure
