import Derived.Test.YtkigjidjbjbjlaaQFnExactModeStepx1
namespace Go.Proofs.Ytkigjidjbjbjlaa.Pure
open Go.RowKit Go.Proofs.Ytkigjidjbjbjlaa.PFnExactModeStep Go.Proofs.YtkigjidjbjbjlaaW.PrintWords Go.Proofs.YtkigjidjbjbjlaaW.PrintLast

theorem FnExactModeStep.idx_cases (s : ByteArray) : idx modeKs s =
    (if s.data.toList = [111, 110] then some 0 else if s.data.toList = [103, 111] then some 1 else if s.data.toList = [104, 117, 114, 116] then some 2 else if s.data.toList = [104, 101, 97, 108] then some 3
      else if s.data.toList = [115, 116, 111, 112] then some 4 else if s.data.toList = [114, 101, 115, 101, 116] then some 5 else if s.data.toList = [111, 102, 102] then some 6 else none) := by
  simp only [modeKs, idx]
  repeat' split
  all_goals rfl

set_option maxHeartbeats 4000000 in
theorem FnExactModeStep.same (a0 : Int) (a1 : ByteArray) : spec_ModeStep.f 6 a0 a1 = impl_ModeStep.f a0 a1 ∧ ∃ v, impl_ModeStep.f a0 a1 = some v := by
  by_cases hr : 0 ≤ a0 ∧ a0 ≤ 4
  · have e1 : spec_l26Mode.f a0 = some true := by unfold spec_l26Mode.f; rw [if_pos hr.1]; simp [hr.2]
    have e2 : impl_between.f a0 0 4 = some true := by unfold impl_between.f; rw [if_pos hr.1]; simp [hr.2]
    refine ⟨?_, by unfold impl_ModeStep.f; rw [e2]; simp⟩
    unfold spec_ModeStep.f impl_ModeStep.f find2
    rw [e1, e2, FnExactModeStep.idx_cases]
    simp only [Option.bind_some, if_true, spec_ModeStep.j0, spec_ModeStep.j1, spec_ModeStep.j2, spec_ModeStep.j3, spec_ModeStep.j4, ByteArray.toList_eq]
    generalize a1.data.toList = s
    have h5 : a0 = 0 ∨ a0 = 1 ∨ a0 = 2 ∨ a0 = 3 ∨ a0 = 4 := by omega
    by_cases k1 : s = [111, 102, 102]
    · subst k1; rcases h5 with rfl | rfl | rfl | rfl | rfl <;> decide
    by_cases k2 : s = [111, 110]
    · subst k2; rcases h5 with rfl | rfl | rfl | rfl | rfl <;> decide
    by_cases k3 : s = [103, 111]
    · subst k3; rcases h5 with rfl | rfl | rfl | rfl | rfl <;> decide
    by_cases k4 : s = [104, 117, 114, 116]
    · subst k4; rcases h5 with rfl | rfl | rfl | rfl | rfl <;> decide
    by_cases k5 : s = [104, 101, 97, 108]
    · subst k5; rcases h5 with rfl | rfl | rfl | rfl | rfl <;> decide
    by_cases k6 : s = [115, 116, 111, 112]
    · subst k6; rcases h5 with rfl | rfl | rfl | rfl | rfl <;> decide
    by_cases k7 : s = [114, 101, 115, 101, 116]
    · subst k7; rcases h5 with rfl | rfl | rfl | rfl | rfl <;> decide
    simp [k1, k2, k3, k4, k5, k6, k7]
  · have e1 : spec_l26Mode.f a0 = some false := by
      unfold spec_l26Mode.f
      split
      · rw [decide_eq_false (by omega)]
      · rfl
    have e2 : impl_between.f a0 0 4 = some false := by
      unfold impl_between.f
      split
      · rw [decide_eq_false (by omega)]
      · rfl
    unfold spec_ModeStep.f impl_ModeStep.f
    rw [e1, e2]
    exact ⟨rfl, -1, rfl⟩

theorem FnExactModeStep : laws_FnExactModeStep.Pure := by
  intro a0 a1 _ _
  refine ⟨6, ?_⟩
  unfold laws_FnExactModeStep.f
  by_cases c : (a1.size : Int) > 1048576
  · rw [if_pos c]
  rw [if_neg c]
  obtain ⟨e, v, hv⟩ := FnExactModeStep.same a0 a1
  rw [e, hv]
  simp

end Go.Proofs.Ytkigjidjbjbjlaa.Pure
