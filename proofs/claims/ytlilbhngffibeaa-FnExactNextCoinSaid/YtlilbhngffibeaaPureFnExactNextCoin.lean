/- 'FnExactNextCoin': what the program's function and the reference's answer, told over numbers and lists alone, meets the law at every input within the kinds' own bounds; no other condition. -/
import Derived.Test.YtlilbhngffibeaaPFnExactNextCoinx1
import Derived.Test.YtlilbhngffibeaaPlain
namespace Go.Proofs.Ytlilbhngffibeaa.Pure
open Go.RowKit Go.Proofs.Ytlilbhngffibeaa.PFnExactNextCoin Go.Proofs.Ytlilbhngffibeaa.Plain Go.Proofs.YtlilbhngffibeaaW.PrintWords Go.Proofs.YtlilbhngffibeaaW.PrintLast
set_option linter.unusedVariables false
set_option linter.unusedSimpArgs false

theorem between_eq (a lo hi : Int) : impl_between.f a lo hi = some (decide (lo ≤ a ∧ a ≤ hi)) := by
  unfold impl_between.f
  split <;> simp <;> omega
theorem FnExactNextCoin : laws_FnExactNextCoin.Pure := by
  intro a _
  have h : spec_l28Seed.f a = some (decide (0 ≤ a ∧ a ≤ 2147483647)) := by
    unfold spec_l28Seed.f
    split <;> simp <;> omega
  simp only [laws_FnExactNextCoin.f, spec_NextCoin.f, impl_NextCoin.f, impl_goodSeed.f, between_eq, h, Option.bind_some]
  cases decide (0 ≤ a ∧ a ≤ 2147483647) <;> simp

end Go.Proofs.Ytlilbhngffibeaa.Pure
