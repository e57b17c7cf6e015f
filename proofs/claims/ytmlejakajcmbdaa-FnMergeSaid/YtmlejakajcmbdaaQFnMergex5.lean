-- Written by this session's own program for the law FnMerge; it began as the print's text.
import Derived.Test.YtmlejakajcmbdaaQFnMergex0
import Derived.Test.YtmlejakajcmbdaaQFnMergex1
import Derived.Test.YtmlejakajcmbdaaQFnMergex4
namespace Go.Proofs.Ytmlejakajcmbdaa.PFnMerge
open Go.RowKit Go.Proofs.YtmlejakajcmbdaaW.PrintWords Go.Proofs.YtmlejakajcmbdaaW.PrintLast Go.Proofs.YtmlejakajcmbdaaW.PrintMore
attribute [local go_sem] max2_int min2_int max_two min_two max_three min_three max_four min_four   -- for this text's walks alone
set_option linter.unusedVariables false
set_option linter.unusedSimpArgs false

attribute [local go_sem high] eqA48
/-! ### impl_MergeStamped: function 26 -/
mutual
def impl_MergeStamped.l0 : Nat → List (S48) → List (S48) → List (List (S48)) → Int → Int → Option ((List (S48)) × Bool)
  | 0, _, _, _, _, _ => none
  | k + 1, x0, x1, x12, x13, x14 => if x14 < x13 then (if 0 ≤ x14 then (if x14 < (x12.length : Int) then (if ((rd_L3 x12 x14).length : Int) > 40 then (some (([] : List (S48)), false)) else (impl_MergeStamped.l1 k x0 x1 (rd_L3 x12 x14) 1 x12 x13 x14)) else (none)) else (none)) else (impl_MergeStamped.l2 k x0 x1 ([] : List (S48)))
def impl_MergeStamped.l1 : Nat → List (S48) → List (S48) → List (S48) → Int → List (List (S48)) → Int → Int → Option ((List (S48)) × Bool)
  | 0, _, _, _, _, _, _, _ => none
  | k + 1, x0, x1, x7, x8, x12, x13, x14 => if x8 < (x7.length : Int) then (if 0 ≤ (wrap64 (x8 - 1)) then (if (wrap64 (x8 - 1)) < (x7.length : Int) then (if 0 ≤ x8 then ((impl_before.f ((rd_T48 x7 (wrap64 (x8 - 1))).f0) ((rd_T48 x7 (wrap64 (x8 - 1))).f1) ((rd_T48 x7 (wrap64 (x8 - 1))).f2) ((rd_T48 x7 x8).f0) ((rd_T48 x7 x8).f1) ((rd_T48 x7 x8).f2)).bind fun t162 => (if t162 = true then (impl_MergeStamped.l1 k x0 x1 x7 (wrap64 (x8 + 1)) x12 x13 x14) else (some (([] : List (S48)), false)))) else (none)) else (none)) else (none)) else (impl_MergeStamped.l0 k x0 x1 x12 x13 (wrap64 (x14 + 1)))
def impl_MergeStamped.l2 : Nat → List (S48) → List (S48) → List (S48) → Option ((List (S48)) × Bool)
  | 0, _, _, _ => none
  | k + 1, x0, x1, x9 => if (x0.length : Int) > 0 then (impl_MergeStamped.j3 k x0 x1 x9 true) else (impl_MergeStamped.j3 k x0 x1 x9 (decide ((x1.length : Int) > 0)))
def impl_MergeStamped.j3 : Nat → List (S48) → List (S48) → List (S48) → Bool → Option ((List (S48)) × Bool)
  | 0, _, _, _, _ => none
  | k + 1, x0, x1, x9, x46 => if x46 = true then (if (x1.length : Int) = 0 then (impl_MergeStamped.j4 k x0 x1 x9 true) else (if (x0.length : Int) > 0 then (if 0 < (x0.length : Int) then (if 0 < (x1.length : Int) then ((impl_before.f ((rd_T48 x0 0).f0) ((rd_T48 x0 0).f1) ((rd_T48 x0 0).f2) ((rd_T48 x1 0).f0) ((rd_T48 x1 0).f1) ((rd_T48 x1 0).f2)).bind fun t165 => (impl_MergeStamped.j4 k x0 x1 x9 t165)) else (none)) else (none)) else (impl_MergeStamped.j4 k x0 x1 x9 false))) else (some (x9, true))
def impl_MergeStamped.j4 : Nat → List (S48) → List (S48) → List (S48) → Bool → Option ((List (S48)) × Bool)
  | 0, _, _, _, _ => none
  | k + 1, x0, x1, x9, x57 => if x57 = true then (if 0 < (x0.length : Int) then (if x9.length < 5864062014805 then (if 1 ≤ (x0.length : Int) then (impl_MergeStamped.l2 k (x0.drop 1) x1 (x9 ++ [(⟨(rd_T48 x0 0).f0, (rd_T48 x0 0).f1, (rd_T48 x0 0).f2⟩ : S48)])) else (none)) else (none)) else (none)) else (if (x0.length : Int) = 0 then (impl_MergeStamped.j5 k x0 x1 x9 true) else (if 0 < (x1.length : Int) then (if 0 < (x0.length : Int) then ((impl_before.f ((rd_T48 x1 0).f0) ((rd_T48 x1 0).f1) ((rd_T48 x1 0).f2) ((rd_T48 x0 0).f0) ((rd_T48 x0 0).f1) ((rd_T48 x0 0).f2)).bind fun t177 => (impl_MergeStamped.j5 k x0 x1 x9 t177)) else (none)) else (none)))
def impl_MergeStamped.j5 : Nat → List (S48) → List (S48) → List (S48) → Bool → Option ((List (S48)) × Bool)
  | 0, _, _, _, _ => none
  | k + 1, x0, x1, x9, x83 => if x83 = true then (if 0 < (x1.length : Int) then (if x9.length < 5864062014805 then (if 1 ≤ (x1.length : Int) then (impl_MergeStamped.l2 k x0 (x1.drop 1) (x9 ++ [(⟨(rd_T48 x1 0).f0, (rd_T48 x1 0).f1, (rd_T48 x1 0).f2⟩ : S48)])) else (none)) else (none)) else (none)) else (if 0 < (x0.length : Int) then (if 0 < (x1.length : Int) then (if (!(((rd_T48 x0 0).f0) == ((rd_T48 x1 0).f0)) || (!(((rd_T48 x0 0).f1) == ((rd_T48 x1 0).f1)) || (!(((rd_T48 x0 0).f2) == ((rd_T48 x1 0).f2))))) = true then (some (([] : List (S48)), false)) else (if x9.length < 5864062014805 then (if 1 ≤ (x0.length : Int) then (if 1 ≤ (x1.length : Int) then (impl_MergeStamped.l2 k (x0.drop 1) (x1.drop 1) (x9 ++ [(⟨(rd_T48 x0 0).f0, (rd_T48 x0 0).f1, (rd_T48 x0 0).f2⟩ : S48)])) else (none)) else (none)) else (none))) else (none)) else (none))
end
def impl_MergeStamped.f (k : Nat) (l0 : List (S48)) (l1 : List (S48)) : Option ((List (S48)) × Bool) := (some (([l0, l1] : List (List (S48))) : List (List (S48)))).bind fun y156 => (impl_MergeStamped.l0 k l0 l1 y156 (y156.length : Int) 0)
theorem impl_MergeStamped.mono_l : ∀ k, (∀ y0 y1 y2 y3 y4, LeO (impl_MergeStamped.l0 k y0 y1 y2 y3 y4) (impl_MergeStamped.l0 (k + 1) y0 y1 y2 y3 y4)) ∧ (∀ y0 y1 y2 y3 y4 y5 y6, LeO (impl_MergeStamped.l1 k y0 y1 y2 y3 y4 y5 y6) (impl_MergeStamped.l1 (k + 1) y0 y1 y2 y3 y4 y5 y6)) ∧ (∀ y0 y1 y2, LeO (impl_MergeStamped.l2 k y0 y1 y2) (impl_MergeStamped.l2 (k + 1) y0 y1 y2)) ∧ (∀ y0 y1 y2 y3, LeO (impl_MergeStamped.j3 k y0 y1 y2 y3) (impl_MergeStamped.j3 (k + 1) y0 y1 y2 y3)) ∧ (∀ y0 y1 y2 y3, LeO (impl_MergeStamped.j4 k y0 y1 y2 y3) (impl_MergeStamped.j4 (k + 1) y0 y1 y2 y3)) ∧ (∀ y0 y1 y2 y3, LeO (impl_MergeStamped.j5 k y0 y1 y2 y3) (impl_MergeStamped.j5 (k + 1) y0 y1 y2 y3))
  | 0 => ⟨fun _ _ _ _ _ r h => by simp [impl_MergeStamped.l0] at h, fun _ _ _ _ _ _ _ r h => by simp [impl_MergeStamped.l1] at h, fun _ _ _ r h => by simp [impl_MergeStamped.l2] at h, fun _ _ _ _ r h => by simp [impl_MergeStamped.j3] at h, fun _ _ _ _ r h => by simp [impl_MergeStamped.j4] at h, fun _ _ _ _ r h => by simp [impl_MergeStamped.j5] at h⟩
  | k + 1 => by
    obtain ⟨ih0, ih1, ih2, ih3, ih4, ih5⟩ := impl_MergeStamped.mono_l k
    refine ⟨?_, ?_, ?_, ?_, ?_, ?_⟩
    · intro y0 y1 y2 y3 y4
      unfold impl_MergeStamped.l0
      repeat' first
      | (with_reducible exact ih0 _ _ _ _ _)
      | (with_reducible exact ih1 _ _ _ _ _ _ _)
      | (with_reducible exact ih2 _ _ _)
      | (with_reducible exact ih3 _ _ _ _)
      | (with_reducible exact ih4 _ _ _ _)
      | (with_reducible exact ih5 _ _ _ _)
      | (with_reducible exact LeO.refl _)
      | (with_reducible exact LeO.none _)
      | (with_reducible refine LeO.ite ?_ ?_)
      | (with_reducible refine LeO.bind ?_ (fun _ => ?_))
      | exact ih0 _ _ _ _ _
      | exact ih1 _ _ _ _ _ _ _
      | exact ih2 _ _ _
      | exact ih3 _ _ _ _
      | exact ih4 _ _ _ _
      | exact ih5 _ _ _ _
      | exact LeO.none _
      | refine LeO.ite ?_ ?_
      | refine LeO.bind ?_ (fun _ => ?_)
    · intro y0 y1 y2 y3 y4 y5 y6
      unfold impl_MergeStamped.l1
      repeat' first
      | (with_reducible exact ih0 _ _ _ _ _)
      | (with_reducible exact ih1 _ _ _ _ _ _ _)
      | (with_reducible exact ih2 _ _ _)
      | (with_reducible exact ih3 _ _ _ _)
      | (with_reducible exact ih4 _ _ _ _)
      | (with_reducible exact ih5 _ _ _ _)
      | (with_reducible exact LeO.refl _)
      | (with_reducible exact LeO.none _)
      | (with_reducible refine LeO.ite ?_ ?_)
      | (with_reducible refine LeO.bind ?_ (fun _ => ?_))
      | exact ih0 _ _ _ _ _
      | exact ih1 _ _ _ _ _ _ _
      | exact ih2 _ _ _
      | exact ih3 _ _ _ _
      | exact ih4 _ _ _ _
      | exact ih5 _ _ _ _
      | exact LeO.none _
      | refine LeO.ite ?_ ?_
      | refine LeO.bind ?_ (fun _ => ?_)
    · intro y0 y1 y2
      unfold impl_MergeStamped.l2
      repeat' first
      | (with_reducible exact ih0 _ _ _ _ _)
      | (with_reducible exact ih1 _ _ _ _ _ _ _)
      | (with_reducible exact ih2 _ _ _)
      | (with_reducible exact ih3 _ _ _ _)
      | (with_reducible exact ih4 _ _ _ _)
      | (with_reducible exact ih5 _ _ _ _)
      | (with_reducible exact LeO.refl _)
      | (with_reducible exact LeO.none _)
      | (with_reducible refine LeO.ite ?_ ?_)
      | (with_reducible refine LeO.bind ?_ (fun _ => ?_))
      | exact ih0 _ _ _ _ _
      | exact ih1 _ _ _ _ _ _ _
      | exact ih2 _ _ _
      | exact ih3 _ _ _ _
      | exact ih4 _ _ _ _
      | exact ih5 _ _ _ _
      | exact LeO.none _
      | refine LeO.ite ?_ ?_
      | refine LeO.bind ?_ (fun _ => ?_)
    · intro y0 y1 y2 y3
      unfold impl_MergeStamped.j3
      repeat' first
      | (with_reducible exact ih0 _ _ _ _ _)
      | (with_reducible exact ih1 _ _ _ _ _ _ _)
      | (with_reducible exact ih2 _ _ _)
      | (with_reducible exact ih3 _ _ _ _)
      | (with_reducible exact ih4 _ _ _ _)
      | (with_reducible exact ih5 _ _ _ _)
      | (with_reducible exact LeO.refl _)
      | (with_reducible exact LeO.none _)
      | (with_reducible refine LeO.ite ?_ ?_)
      | (with_reducible refine LeO.bind ?_ (fun _ => ?_))
      | exact ih0 _ _ _ _ _
      | exact ih1 _ _ _ _ _ _ _
      | exact ih2 _ _ _
      | exact ih3 _ _ _ _
      | exact ih4 _ _ _ _
      | exact ih5 _ _ _ _
      | exact LeO.none _
      | refine LeO.ite ?_ ?_
      | refine LeO.bind ?_ (fun _ => ?_)
    · intro y0 y1 y2 y3
      unfold impl_MergeStamped.j4
      repeat' first
      | (with_reducible exact ih0 _ _ _ _ _)
      | (with_reducible exact ih1 _ _ _ _ _ _ _)
      | (with_reducible exact ih2 _ _ _)
      | (with_reducible exact ih3 _ _ _ _)
      | (with_reducible exact ih4 _ _ _ _)
      | (with_reducible exact ih5 _ _ _ _)
      | (with_reducible exact LeO.refl _)
      | (with_reducible exact LeO.none _)
      | (with_reducible refine LeO.ite ?_ ?_)
      | (with_reducible refine LeO.bind ?_ (fun _ => ?_))
      | exact ih0 _ _ _ _ _
      | exact ih1 _ _ _ _ _ _ _
      | exact ih2 _ _ _
      | exact ih3 _ _ _ _
      | exact ih4 _ _ _ _
      | exact ih5 _ _ _ _
      | exact LeO.none _
      | refine LeO.ite ?_ ?_
      | refine LeO.bind ?_ (fun _ => ?_)
    · intro y0 y1 y2 y3
      unfold impl_MergeStamped.j5
      repeat' first
      | (with_reducible exact ih0 _ _ _ _ _)
      | (with_reducible exact ih1 _ _ _ _ _ _ _)
      | (with_reducible exact ih2 _ _ _)
      | (with_reducible exact ih3 _ _ _ _)
      | (with_reducible exact ih4 _ _ _ _)
      | (with_reducible exact ih5 _ _ _ _)
      | (with_reducible exact LeO.refl _)
      | (with_reducible exact LeO.none _)
      | (with_reducible refine LeO.ite ?_ ?_)
      | (with_reducible refine LeO.bind ?_ (fun _ => ?_))
      | exact ih0 _ _ _ _ _
      | exact ih1 _ _ _ _ _ _ _
      | exact ih2 _ _ _
      | exact ih3 _ _ _ _
      | exact ih4 _ _ _ _
      | exact ih5 _ _ _ _
      | exact LeO.none _
      | refine LeO.ite ?_ ?_
      | refine LeO.bind ?_ (fun _ => ?_)
theorem impl_MergeStamped.mono : ∀ a0 a1 k, LeO (impl_MergeStamped.f k a0 a1) (impl_MergeStamped.f (k + 1) a0 a1) := by
  intro a0 a1 k
  obtain ⟨ih0, ih1, ih2, ih3, ih4, ih5⟩ := impl_MergeStamped.mono_l k
  unfold impl_MergeStamped.f
  repeat' first
      | (with_reducible exact ih0 _ _ _ _ _)
      | (with_reducible exact ih1 _ _ _ _ _ _ _)
      | (with_reducible exact ih2 _ _ _)
      | (with_reducible exact ih3 _ _ _ _)
      | (with_reducible exact ih4 _ _ _ _)
      | (with_reducible exact ih5 _ _ _ _)
      | (with_reducible exact LeO.refl _)
      | (with_reducible exact LeO.none _)
      | (with_reducible refine LeO.ite ?_ ?_)
      | (with_reducible refine LeO.bind ?_ (fun _ => ?_))
      | exact ih0 _ _ _ _ _
      | exact ih1 _ _ _ _ _ _ _
      | exact ih2 _ _ _
      | exact ih3 _ _ _ _
      | exact ih4 _ _ _ _
      | exact ih5 _ _ _ _
      | exact LeO.none _
      | refine LeO.ite ?_ ?_
      | refine LeO.bind ?_ (fun _ => ?_)
def impl_MergeStamped.T9 : Bool × List (List Nat × List Nat) := (true, [([], []), ([], []), ([1], [1]), ([0, 2], [0, 2]), ([3], [3]), ([], []), ([], []), ([5, 6], [5, 6]), ([7], [7]), ([4, 8], [4, 8]), ([9], [9])])
def impl_MergeStamped.B9 : List Nat := [0, 0, 2, 7, 15, 0, 0, 96, 224, 511, 1023]
theorem impl_MergeStamped.tab9 : rtab .any (opsOf Try.f26 9) = impl_MergeStamped.T9 := by kernel_rfl
theorem impl_MergeStamped.bits9 : waitsOk impl_MergeStamped.T9.2 impl_MergeStamped.B9 = true := by kernel_rfl
def impl_MergeStamped.T14 : Bool × List (List Nat × List Nat) := (true, [([], []), ([], []), ([1], [1]), ([2], [2]), ([3], [3]), ([0, 4], [0, 4]), ([], []), ([6], [6]), ([], []), ([8], [8]), ([5, 5, 0, 1, 2, 3, 4, 5], [0, 5]), ([7, 10, 0, 1, 2, 3, 4, 5, 6, 7, 10], [1, 6, 7]), ([9, 11, 0, 1, 2, 3, 4, 5, 6, 7, 8, 9, 10, 11], [8, 9])])
def impl_MergeStamped.B14 : List Nat := [0, 0, 2, 6, 14, 31, 0, 64, 0, 256, 63, 1279, 4095]
theorem impl_MergeStamped.tab14 : rtab .any (opsOf Try.f26 14) = impl_MergeStamped.T14 := by kernel_rfl
theorem impl_MergeStamped.bits14 : waitsOk impl_MergeStamped.T14.2 impl_MergeStamped.B14 = true := by kernel_rfl
def impl_MergeStamped.T15 : Bool × List (List Nat × List Nat) := (true, [([], []), ([0], [0]), ([1], [1]), ([2], [2]), ([3], [3]), ([4, 3], [3, 4]), ([5, 3], [3, 5]), ([6, 3, 3], [3, 6]), ([7], [7]), ([8, 7], [7, 8]), ([9, 7], [7, 9]), ([7], [7]), ([11, 7], [7, 11]), ([12, 7], [7, 12]), ([10, 13, 7, 7], [7, 10, 13]), ([7, 14, 3], [3, 7, 14]), ([3, 15], [3, 15]), ([16, 14], [16])])
def impl_MergeStamped.B15 : List Nat := [0, 1, 3, 7, 15, 31, 63, 127, 255, 511, 1023, 255, 2303, 6399, 16383, 32767, 65535, 131071]
theorem impl_MergeStamped.tab15 : rtab .any (opsOf Try.f26 15) = impl_MergeStamped.T15 := by kernel_rfl
theorem impl_MergeStamped.bits15 : waitsOk impl_MergeStamped.T15.2 impl_MergeStamped.B15 = true := by kernel_rfl
def impl_MergeStamped.T16 : Bool × List (List Nat × List Nat) := (true, [([], []), ([], []), ([1], [1]), ([2], [2]), ([3], [3]), ([0, 4], [0, 4]), ([], []), ([6], [6]), ([5, 5, 0, 1, 2, 3, 4, 5], [0, 5]), ([7, 8, 0, 1, 2, 3, 4, 5, 6, 7, 8], [1, 6, 7])])
def impl_MergeStamped.B16 : List Nat := [0, 0, 2, 6, 14, 31, 0, 64, 63, 511]
theorem impl_MergeStamped.tab16 : rtab .any (opsOf Try.f26 16) = impl_MergeStamped.T16 := by kernel_rfl
theorem impl_MergeStamped.bits16 : waitsOk impl_MergeStamped.T16.2 impl_MergeStamped.B16 = true := by kernel_rfl
def impl_MergeStamped.T17 : Bool × List (List Nat × List Nat) := (true, [([], []), ([0], [0]), ([1], [1]), ([2], [2]), ([3], [3]), ([4, 3], [3, 4]), ([5, 3], [3, 5]), ([3], [3]), ([7, 3], [3, 7]), ([8, 3], [3, 8]), ([6, 9, 3, 3], [3, 6, 9]), ([3, 10], [3, 10]), ([11, 10], [11])])
def impl_MergeStamped.B17 : List Nat := [0, 1, 3, 7, 15, 31, 63, 15, 143, 399, 1023, 2047, 4095]
theorem impl_MergeStamped.tab17 : rtab .any (opsOf Try.f26 17) = impl_MergeStamped.T17 := by kernel_rfl
theorem impl_MergeStamped.bits17 : waitsOk impl_MergeStamped.T17.2 impl_MergeStamped.B17 = true := by kernel_rfl
def impl_MergeStamped.T18 : Bool × List (List Nat × List Nat) := (true, [([], []), ([], []), ([1], [1]), ([2], [2]), ([3], [3]), ([0, 4], [0, 4]), ([], []), ([6], [6]), ([5, 5, 0, 1, 2, 3, 4, 5], [0, 5]), ([7, 8, 0, 1, 2, 3, 4, 5, 6, 7, 8], [1, 6, 7])])
def impl_MergeStamped.B18 : List Nat := [0, 0, 2, 6, 14, 31, 0, 64, 63, 511]
theorem impl_MergeStamped.tab18 : rtab .any (opsOf Try.f26 18) = impl_MergeStamped.T18 := by kernel_rfl
theorem impl_MergeStamped.bits18 : waitsOk impl_MergeStamped.T18.2 impl_MergeStamped.B18 = true := by kernel_rfl
def impl_MergeStamped.T19 : Bool × List (List Nat × List Nat) := (true, [([], []), ([0], [0]), ([1], [1]), ([], []), ([3], [3]), ([4], [4]), ([2, 5], [2, 5]), ([6], [6])])
def impl_MergeStamped.B19 : List Nat := [0, 1, 3, 0, 8, 24, 63, 127]
theorem impl_MergeStamped.tab19 : rtab .any (opsOf Try.f26 19) = impl_MergeStamped.T19 := by kernel_rfl
theorem impl_MergeStamped.bits19 : waitsOk impl_MergeStamped.T19.2 impl_MergeStamped.B19 = true := by kernel_rfl
set_option maxHeartbeats 8000000 in
set_option maxRecDepth 100000 in
theorem impl_MergeStamped.calls (k : Nat) (P0_ : Nat → Prop) (A0 : Option Addr) (c0 : Nat) (l0 : List (S48)) (P1_ : Nat → Prop) (A1 : Option Addr) (c1 : Nat) (l1 : List (S48)) (r1 : List (S48)) (r2 : Bool) (w : World) (hs0 : Kd.V k48 48 w w.heap.size (fun k_ => P0_ k_) (.slice A0 l0.length c0) l0) (hs1 : Kd.V k48 48 w w.heap.size (fun k_ => P1_ k_) (.slice A1 l1.length c1) l1) (h : impl_MergeStamped.f k l0 l1 = some (r1, r2)) :
    Calls Try.prog 26 #[.slice A0 l0.length c0, .slice A1 l1.length c1] w fun e w' => ∃ v0_ : Value, e = .returned (.tuple #[v0_, .bool r2]) ∧ Kd.R k48 48 w' w.heap.size (fun k_ => (w.heap.size ≤ k_)) v0_ r1 ∧ Below w.heap.size w w' := by
  have hu48 := Try.underlying48
  have HO0 := Aside0.mk (show Kd.V k48 48 w w.heap.size (fun k_ => ((P0_ k_ ∨ P1_ k_) ∨ w.heap.size ≤ k_)) (.slice A0 l0.length c0) l0 from Kd.V_mono hs0 (fun k_ hk => .inl (.inl hk)))
  have HO1 := Aside0.mk (show Kd.V k48 48 w w.heap.size (fun k_ => ((P0_ k_ ∨ P1_ k_) ∨ w.heap.size ≤ k_)) (.slice A1 l1.length c1) l1 from Kd.V_mono hs1 (fun k_ hk => .inl (.inr hk)))
  have HB := Aside0.mk (Below.refl w.heap.size w)
  have H : ((some (([l0, l1] : List (List (S48))) : List (List (S48)))).bind fun y156 => (impl_MergeStamped.l0 k l0 l1 y156 (y156.length : Int) 0)) = some (r1, r2) := h
  clear h
  obtain ⟨y156, hy156⟩ : ∃ y_ : List (List (S48)), y_ = (([l0, l1] : List (List (S48)))) := ⟨_, rfl⟩
  replace H : (impl_MergeStamped.l0 k l0 l1 y156 (y156.length : Int) 0) = some (r1, r2) := by first | (rw [hy156]; with_reducible exact H) | (have H2_ := (Option.bind_some _ _).symm.trans H; rw [hy156]; with_reducible exact H2_) | (have H2_ := (Option.bind_some _ _).symm.trans H; with_reducible exact H2_) | with_reducible exact H | (rw [hy156]; exact H) | exact H
  have Ny156 := Aside0.mk hy156
  clear hy156
  have H' := Aside0.mk H
  clear H
  go_enter Try.func26, Try.ntmps26
  go_wp2_with (first | ((with_reducible refine gate_dst (N := 12) rfl ?_); (try (refine gate_guard (by rfl) ?_; dsimp only)); refine Kd.N_lit (Kd.slice 48 k48) _ 42 ?hg (N' := 12) ?hd (xs := ([l0, l1] : List (List (S48)))) (inner := [.slice A0 l0.length c0, .slice A1 l1.length c1]) (ok := (fun k_ => ((P0_ k_ ∨ P1_ k_) ∨ w.heap.size ≤ k_))) (okp := (fun k_ => ((P0_ k_ ∨ P1_ k_) ∨ w.heap.size ≤ k_))) ?hr ?hp (fun _ hk => hk) ((show ∀ k_, w.heap.size ≤ k_ → (fun k_ => ((P0_ k_ ∨ P1_ k_) ∨ w.heap.size ≤ k_)) k_ from fun k_ hk => (.inr (Nat.le_trans (below_size (by repeat (first | (with_reducible first | exact HB.out | apply below_alloc | apply pw_below_drewN | apply below_drew1) | exact HB.out))) hk))) _ (Nat.le_refl _)) (Below.refl _ _) (Nat.le_refl _) (by simp) ?_; (case hd => rfl); (case hg => rfl); (case hr => first | (go_simp; done) | (go_simp; rfl)); (case hp => exact (Reps.one (show Kd.FK (Kd.slice 48 k48) _ _ l0 [.slice A0 l0.length c0] from (Kd.FK_slice_mk (Kd.V_reads' (Kd.V_mono (ok' := (fun k_ => ((P0_ k_ ∨ P1_ k_) ∨ w.heap.size ≤ k_))) (HO0.out) (fun k_ hk => hk))).2.1 (Kd.V_F (Kd.V_mono (ok' := (fun k_ => ((P0_ k_ ∨ P1_ k_) ∨ w.heap.size ≤ k_))) (HO0.out) (fun k_ hk => hk))))) (Reps.one (show Kd.FK (Kd.slice 48 k48) _ _ l1 [.slice A1 l1.length c1] from (Kd.FK_slice_mk (Kd.V_reads' (Kd.V_mono (ok' := (fun k_ => ((P0_ k_ ∨ P1_ k_) ∨ w.heap.size ≤ k_))) (HO1.out) (fun k_ hk => hk))).2.1 (Kd.V_F (Kd.V_mono (ok' := (fun k_ => ((P0_ k_ ∨ P1_ k_) ∨ w.heap.size ≤ k_))) (HO1.out) (fun k_ hk => hk))))) (Reps.none _ _)))); intro v157 w3 ho4 hb hg_ hnew_; clear hg_ hnew_; (first | rw [← Ny156.out] at ho4 | (simp only [Int.reduceToNat] at ho4; rw [← Ny156.out] at ho4)); have n0_ := Aside0.mk (Kd.V_elder' (by (with_reducible repeat (first | apply Kd.V_alloc | apply Kd.V_drewN | apply Kd.V_drew)); exact HO0.out) (Kd.N_base ho4) hb); have n1_ := Aside0.mk (Kd.V_elder' (by (with_reducible repeat (first | apply Kd.V_alloc | apply Kd.V_drewN | apply Kd.V_drew)); exact HO1.out) (Kd.N_base ho4) hb); have n2_ := Aside0.mk (Kd.N_lower ho4 (below_size (by repeat (first | (with_reducible first | exact HB.out | apply below_alloc | apply pw_below_drewN | apply below_drew1) | exact HB.out)))); have n3_ := Aside0.mk (below_step (by repeat (first | (with_reducible first | exact HB.out | apply below_alloc | apply pw_below_drewN | apply below_drew1) | exact HB.out)) hb); clear HO0; clear HO1; clear HB; have HO0 := n0_; have HO1 := n1_; have HO158 := n2_; have HB := n3_; clear n0_ n1_ n2_ n3_; clear hb ho4; obtain ⟨Ao5, co5, eo5⟩ := Kd.N_slice HO158.out; subst eo5))
  go_loopg [14] k (fun kq v14 w' => ∃ (x14_1 : Int), v14 = .int .i64 x14_1 ∧ Aside0 (impl_MergeStamped.l0 kq l0 l1 y156 (y156.length : Int) x14_1 = some (r1, r2)) ∧ Aside0 (kq ≤ k) ∧ Aside0 (Kd.V k48 48 w' w.heap.size (fun k_ => ((P0_ k_ ∨ P1_ k_) ∨ w.heap.size ≤ k_) ∧ some k_ ≠ ((.slice Ao5 y156.length co5) : Value).ownBlock) (.slice A0 l0.length c0) l0) ∧ Aside0 (Kd.V k48 48 w' w.heap.size (fun k_ => ((P0_ k_ ∨ P1_ k_) ∨ w.heap.size ≤ k_) ∧ some k_ ≠ ((.slice Ao5 y156.length co5) : Value).ownBlock) (.slice A1 l1.length c1) l1) ∧ Aside0 (Kd.N (Kd.slice 48 k48) 42 w' w.heap.size (fun k_ => ((P0_ k_ ∨ P1_ k_) ∨ w.heap.size ≤ k_)) (.slice Ao5 y156.length co5) y156) ∧ Aside0 (Below w.heap.size w w'))
  case atStart => exact ⟨(0), (by first | rfl | (simp; done) | (simp [*]; done)), H', ⟨Nat.le_refl _⟩, ⟨by (with_reducible repeat (first | apply Kd.V_alloc | apply Kd.V_drewN | apply Kd.V_drew)); exact HO0.out⟩, ⟨by (with_reducible repeat (first | apply Kd.V_alloc | apply Kd.V_drewN | apply Kd.V_drew)); exact HO1.out⟩, ⟨by (with_reducible repeat (first | apply Kd.N_alloc | apply Kd.N_drewN | apply Kd.N_drew)); exact HO158.out⟩, ⟨by repeat (first | (with_reducible first | exact HB.out | apply below_alloc | apply pw_below_drewN | apply below_drew1) | exact HB.out)⟩⟩
  case round =>
    clear H'
    try clear c1
    try clear c2
    try clear p2
    obtain ⟨x14_1, rfl, HA, HK1, HO_0, HO_1, HO_12, HB⟩ := hrel
    cases gk with
    | zero => exact absurd HA.out (by simp [impl_MergeStamped.l0])
    | succ k1 =>
      have H := HA.out
      clear HA
      simp only [impl_MergeStamped.l0] at H
      by_cases c6 : x14_1 < (y156.length : Int)
      · rw [if_pos c6] at H
        have c6b0 : decide (x14_1 < (y156.length : Int)) = true := decide_eq_true c6
        clear c6
        by_cases c7 : 0 ≤ x14_1
        · rw [if_pos c7] at H
          have c7b0 : decide (0 ≤ x14_1) = true := decide_eq_true c7
          clear c7
          by_cases c8 : x14_1 < (y156.length : Int)
          · rw [if_pos c8] at H
            have c8b0 : decide (x14_1 < (y156.length : Int)) = true := decide_eq_true c8
            clear c8
            by_cases c9 : ((rd_L3 y156 x14_1).length : Int) > 40
            · rw [if_pos c9] at H
              have c9b0 : decide (40 < ((rd_L3 y156 x14_1).length : Int)) = true := decide_eq_true c9
              have c9b1 : decide (40 < (rd_L3 y156 x14_1).length) = true := decide_eq_true (by omega)
              clear c9
              simp only [Option.some.injEq, Prod.mk.injEq] at H
              obtain ⟨rfl, rfl⟩ := H
              have p159 : 0 ≤ (x14_1 : Int) := of_decide_eq_true (by first | (with_reducible assumption) | assumption)
              have q159 : x14_1 < (y156.length : Int) := of_decide_eq_true (by first | (with_reducible assumption) | assumption)
              obtain ⟨ad159, A159_0, c159_0, e159, hx159_0, hl159_0, hi159_0⟩ := at_L3 (Kd.N_reads' HO_12.out).2.2 x14_1 p159 q159
              cases e159
              obtain ⟨ce159, hce159, hMe159, hcc159⟩ := Kd.N_get HO_12.out [] x14_1 p159 (by first | exact q159 | exact of_decide_eq_true (by first | (with_reducible assumption) | assumption) | (have e_ := (Kd.N_reads' HO_12.out).1; omega))
              obtain ⟨ua159_0, uc159_0, rfl, ul159_0, ge159_0⟩ := Kd.FK_slice_open hMe159
              have hv159_0 := hcc159 0 _ rfl
              rw [Nat.add_zero, show ((Kd.slice 48 k48)).sz = 1 from rfl, Nat.mul_one] at hv159_0
              replace hv159_0 := Option.some.inj (hv159_0.symm.trans hx159_0)
              injection hv159_0 with hva_ hvn_ hvc_
              rw [hva_] at ge159_0
              rw [hvc_] at ul159_0
              have HL159_0 := Aside0.mk (show Kd.V k48 48 _ w.heap.size _ _ (rd_L3 y156 x14_1) from Kd.V_mk ul159_0 ge159_0)
              clear hva_ hvn_ hvc_ ge159_0 ul159_0
              clear hcc159 hce159
              have HR159_0 := Aside0.mk hi159_0
              have HC159_0 := Aside0.mk hl159_0
              clear hi159_0 hl159_0
              replace p159 := eq_true p159
              replace q159 := eq_true q159
              go_wp2
              go_ret2
              exact ⟨_, by first | rfl | (simp [errW_none, errW_some] <;> rfl) | (simp [*, errW_none, errW_some] <;> rfl), by first | exact Kd.R_nil _ _ _ _ _ | exact Kd.N_nil _ _ _ _ _ | exact Kd.V_nil _ _ _ _ _ | exact Kd.Q_nil _ _ _ _ _ | exact Kd.S_nil _ _ _ _ _, by repeat (first | (with_reducible first | exact HB.out | apply below_alloc | apply pw_below_drewN | apply below_drew1) | exact HB.out)⟩
            · rw [if_neg c9] at H
              have c9b0 : decide (40 < ((rd_L3 y156 x14_1).length : Int)) = false := decide_eq_false c9
              have c9b1 : decide (40 < (rd_L3 y156 x14_1).length) = false := decide_eq_false (by omega)
              clear c9
              have H' := Aside0.mk H
              clear H
              have p159 : 0 ≤ (x14_1 : Int) := of_decide_eq_true (by first | (with_reducible assumption) | assumption)
              have q159 : x14_1 < (y156.length : Int) := of_decide_eq_true (by first | (with_reducible assumption) | assumption)
              obtain ⟨ad159, A159_0, c159_0, e159, hx159_0, hl159_0, hi159_0⟩ := at_L3 (Kd.N_reads' HO_12.out).2.2 x14_1 p159 q159
              cases e159
              obtain ⟨ce159, hce159, hMe159, hcc159⟩ := Kd.N_get HO_12.out [] x14_1 p159 (by first | exact q159 | exact of_decide_eq_true (by first | (with_reducible assumption) | assumption) | (have e_ := (Kd.N_reads' HO_12.out).1; omega))
              obtain ⟨ua159_0, uc159_0, rfl, ul159_0, ge159_0⟩ := Kd.FK_slice_open hMe159
              have hv159_0 := hcc159 0 _ rfl
              rw [Nat.add_zero, show ((Kd.slice 48 k48)).sz = 1 from rfl, Nat.mul_one] at hv159_0
              replace hv159_0 := Option.some.inj (hv159_0.symm.trans hx159_0)
              injection hv159_0 with hva_ hvn_ hvc_
              rw [hva_] at ge159_0
              rw [hvc_] at ul159_0
              have HL159_0 := Aside0.mk (show Kd.V k48 48 _ w.heap.size _ _ (rd_L3 y156 x14_1) from Kd.V_mk ul159_0 ge159_0)
              clear hva_ hvn_ hvc_ ge159_0 ul159_0
              clear hcc159 hce159
              have HR159_0 := Aside0.mk hi159_0
              have HC159_0 := Aside0.mk hl159_0
              clear hi159_0 hl159_0
              replace p159 := eq_true p159
              replace q159 := eq_true q159
              go_wp2
              go_loopg [8] k1 (fun kq v8 w' => ∃ (x8_2 : Int), v8 = .int .i64 x8_2 ∧ Aside0 (impl_MergeStamped.l1 kq l0 l1 (rd_L3 y156 x14_1) x8_2 y156 (y156.length : Int) x14_1 = some (r1, r2)) ∧ Aside0 (kq ≤ k1) ∧ Aside0 (Kd.V k48 48 w' w.heap.size (fun k_ => ((P0_ k_ ∨ P1_ k_) ∨ w.heap.size ≤ k_) ∧ some k_ ≠ ((.slice (some ad159) y156.length co5) : Value).ownBlock) (.slice A0 l0.length c0) l0) ∧ Aside0 (Kd.V k48 48 w' w.heap.size (fun k_ => ((P0_ k_ ∨ P1_ k_) ∨ w.heap.size ≤ k_) ∧ some k_ ≠ ((.slice (some ad159) y156.length co5) : Value).ownBlock) (.slice A1 l1.length c1) l1) ∧ Aside0 (Kd.N (Kd.slice 48 k48) 42 w' w.heap.size (fun k_ => ((P0_ k_ ∨ P1_ k_) ∨ w.heap.size ≤ k_)) (.slice (some ad159) y156.length co5) y156) ∧ Aside0 (Kd.C k48 w' A159_0 (rd_L3 y156 x14_1).length (rd_L3 y156 x14_1)) ∧ Aside0 (Below w.heap.size w w'))
              case atStart => exact ⟨(1), (by first | rfl | (simp; done) | (simp [*]; done)), H', ⟨Nat.le_refl _⟩, ⟨by (with_reducible repeat (first | apply Kd.V_alloc | apply Kd.V_drewN | apply Kd.V_drew)); exact HO_0.out⟩, ⟨by (with_reducible repeat (first | apply Kd.V_alloc | apply Kd.V_drewN | apply Kd.V_drew)); exact HO_1.out⟩, ⟨by (with_reducible repeat (first | apply Kd.N_alloc | apply Kd.N_drewN | apply Kd.N_drew)); exact HO_12.out⟩, ⟨by repeat (first | (with_reducible exact HR159_0.out) | (with_reducible refine Kd.C_alloc ?_ _) | (with_reducible refine Kd.C_drewN ?_ _) | (with_reducible refine Kd.C_drew ?_) | exact HR159_0.out)⟩, ⟨by repeat (first | (with_reducible first | exact HB.out | apply below_alloc | apply pw_below_drewN | apply below_drew1) | exact HB.out)⟩⟩
              case round =>
                clear H'
                try clear c1
                try clear p1
                try clear q1
                try clear hx1
                try clear c2
                try clear p2
                try clear c6
                try clear c6b0
                try clear c7
                try clear c7b0
                try clear c8
                try clear c8b0
                try clear c9
                try clear c9b0
                try clear c9b1
                try clear hx159_0
                try clear p159
                try clear p2
                try clear q159
                obtain ⟨x8_2, rfl, HA, HK2, HO_0, HO_1, HO_12, HR159_0, HB⟩ := hrel
                cases gk with
                | zero => exact absurd HA.out (by simp [impl_MergeStamped.l1])
                | succ k2 =>
                  have H := HA.out
                  clear HA
                  simp only [impl_MergeStamped.l1] at H
                  by_cases c10 : x8_2 < ((rd_L3 y156 x14_1).length : Int)
                  · rw [if_pos c10] at H
                    have c10b0 : decide (x8_2 < ((rd_L3 y156 x14_1).length : Int)) = true := decide_eq_true c10
                    clear c10
                    obtain ⟨ji11, hji11⟩ : ∃ j_ : Int, (wrap64 (x8_2 - 1)) = j_ := ⟨_, rfl⟩
                    replace H : (if 0 ≤ (ji11) then (if (ji11) < ((rd_L3 y156 x14_1).length : Int) then (if 0 ≤ x8_2 then ((impl_before.f ((rd_T48 (rd_L3 y156 x14_1) (ji11)).f0) ((rd_T48 (rd_L3 y156 x14_1) (ji11)).f1) ((rd_T48 (rd_L3 y156 x14_1) (ji11)).f2) ((rd_T48 (rd_L3 y156 x14_1) x8_2).f0) ((rd_T48 (rd_L3 y156 x14_1) x8_2).f1) ((rd_T48 (rd_L3 y156 x14_1) x8_2).f2)).bind fun t162 => (if t162 = true then (impl_MergeStamped.l1 k2 l0 l1 (rd_L3 y156 x14_1) (wrap64 (x8_2 + 1)) y156 (y156.length : Int) x14_1) else (some (([] : List (S48)), false)))) else (none)) else (none)) else (none)) = some (r1, r2) := by first | (rw [hji11] at H; exact H) | (simp only [hji11] at H ⊢; exact H)
                    have hji11w : (IntKind.i64.wrap (x8_2 - 1)) = ji11 := (i64_w _).trans hji11
                    by_cases c12 : 0 ≤ (ji11)
                    · rw [if_pos c12] at H
                      have c12b0 : decide (0 ≤ (ji11)) = true := decide_eq_true c12
                      clear c12
                      by_cases c13 : (ji11) < ((rd_L3 y156 x14_1).length : Int)
                      · rw [if_pos c13] at H
                        have c13b0 : decide ((ji11) < ((rd_L3 y156 x14_1).length : Int)) = true := decide_eq_true c13
                        clear c13
                        by_cases c14 : 0 ≤ x8_2
                        · rw [if_pos c14] at H
                          have c14b0 : decide (0 ≤ x8_2) = true := decide_eq_true c14
                          clear c14
                          replace H := Option.bind_eq_some_iff.mp H
                          obtain ⟨t162, A150, H⟩ := H
                          replace H : (if t162 = true then (impl_MergeStamped.l1 k2 l0 l1 (rd_L3 y156 x14_1) (wrap64 (x8_2 + 1)) y156 (y156.length : Int) x14_1) else (some (([] : List (S48)), false))) = some (r1, r2) := H
                          have A15 := Aside0.mk A150
                          clear A150
                          by_cases c16 : t162 = true
                          · subst c16
                            have H1 : (impl_MergeStamped.l1 k2 l0 l1 (rd_L3 y156 x14_1) (wrap64 (x8_2 + 1)) y156 (y156.length : Int) x14_1) = some (r1, r2) := by rw [if_pos rfl] at H; exact H
                            clear H
                            have H := H1
                            clear H1
                            have H' := Aside0.mk H
                            clear H
                            try go_wp2
                            have n0_ := Aside0.mk (Kd.V_drew HO_0.out)
                            have n1_ := Aside0.mk (Kd.V_drew HO_1.out)
                            have n2_ := Aside0.mk (Kd.N_drew HO_12.out)
                            have n3_ := Aside0.mk (Kd.C_drew HR159_0.out)
                            have n4_ := Aside0.mk (below_drew1 HB.out)
                            clear HO_0
                            clear HO_1
                            clear HO_12
                            clear HR159_0
                            clear HB
                            have HO_0 := n0_
                            have HO_1 := n1_
                            have HO_12 := n2_
                            have HR159_0 := n3_
                            have HB := n4_
                            clear n0_ n1_ n2_ n3_ n4_
                            have p160 : 0 ≤ ((ji11) : Int) := of_decide_eq_true (by first | (with_reducible assumption) | assumption)
                            have q160 : (ji11) < ((rd_L3 y156 x14_1).length : Int) := of_decide_eq_true (by first | (with_reducible assumption) | assumption)
                            obtain ⟨ad160, e160, hx160_0, hx160_1, hx160_2⟩ := at_T48 HR159_0.out (ji11) p160 q160
                            have hw160_2 := hx160_2
                            have hw160_1 := hx160_1
                            have hw160_0 := hx160_0
                            cases e160
                            (first | replace hx160_0 := (HB.out.cell (World.block_lt_of_cell? w _ hx160_0)).trans hx160_0 | skip)
                            (first | replace hx160_1 := (HB.out.cell (World.block_lt_of_cell? w _ hx160_1)).trans hx160_1 | skip)
                            (first | replace hx160_2 := (HB.out.cell (World.block_lt_of_cell? w _ hx160_2)).trans hx160_2 | skip)
                            replace p160 := eq_true p160
                            replace q160 := eq_true q160
                            have p161 : 0 ≤ (x8_2 : Int) := of_decide_eq_true (by first | (with_reducible assumption) | assumption)
                            have q161 : x8_2 < ((rd_L3 y156 x14_1).length : Int) := of_decide_eq_true (by first | (with_reducible assumption) | assumption)
                            obtain ⟨ad161, e161, hx161_0, hx161_1, hx161_2⟩ := at_T48 HR159_0.out x8_2 p161 q161
                            have hw161_2 := hx161_2
                            have hw161_1 := hx161_1
                            have hw161_0 := hx161_0
                            obtain rfl : ad160 = ad161 := (by injection e161)
                            (first | replace hx161_0 := (HB.out.cell (World.block_lt_of_cell? w _ hx161_0)).trans hx161_0 | skip)
                            (first | replace hx161_1 := (HB.out.cell (World.block_lt_of_cell? w _ hx161_1)).trans hx161_1 | skip)
                            (first | replace hx161_2 := (HB.out.cell (World.block_lt_of_cell? w _ hx161_2)).trans hx161_2 | skip)
                            replace p161 := eq_true p161
                            replace q161 := eq_true q161
                            refine start_ (n := 11) (S := fun w' => w'.cell? (ad160.add (((ji11)).toNat * 3)) = some (.int .i64 ((rd_T48 (rd_L3 y156 x14_1) (ji11)).f0)) ∧ w'.cell? ⟨(ad160.add (((ji11)).toNat * 3)).block, (ad160.add (((ji11)).toNat * 3)).off + 1, none⟩ = some (.int .i64 ((rd_T48 (rd_L3 y156 x14_1) (ji11)).f1)) ∧ w'.cell? ⟨(ad160.add (((ji11)).toNat * 3)).block, (ad160.add (((ji11)).toNat * 3)).off + 2, none⟩ = some (.int .i64 ((rd_T48 (rd_L3 y156 x14_1) (ji11)).f2)) ∧ w'.cell? (ad160.add ((x8_2).toNat * 3)) = some (.int .i64 ((rd_T48 (rd_L3 y156 x14_1) x8_2).f0)) ∧ w'.cell? ⟨(ad160.add ((x8_2).toNat * 3)).block, (ad160.add ((x8_2).toNat * 3)).off + 1, none⟩ = some (.int .i64 ((rd_T48 (rd_L3 y156 x14_1) x8_2).f1)) ∧ w'.cell? ⟨(ad160.add ((x8_2).toNat * 3)).block, (ad160.add ((x8_2).toNat * 3)).off + 2, none⟩ = some (.int .i64 ((rd_T48 (rd_L3 y156 x14_1) x8_2).f2))) (ds := []) #[false, false, false, false, false, false, false, false, false, false, false] (by kernel_rfl) rfl rfl ⟨(by first | exact (HB.out.cell (World.block_lt_of_cell? w _ hw160_0)).trans hw160_0 | exact hw160_0 | (obtain ⟨ad_, e_, h0_, h1_, h2_⟩ := at_T48 HR159_0.out (ji11) (by first | exact of_eq_true p160 | exact of_decide_eq_true (by assumption)) (by first | exact of_eq_true q160 | exact of_decide_eq_true (by assumption)); cases e_; first | exact h0_ | exact h1_ | exact h2_)), (by first | exact (HB.out.cell (World.block_lt_of_cell? w _ hw160_1)).trans hw160_1 | exact hw160_1 | (obtain ⟨ad_, e_, h0_, h1_, h2_⟩ := at_T48 HR159_0.out (ji11) (by first | exact of_eq_true p160 | exact of_decide_eq_true (by assumption)) (by first | exact of_eq_true q160 | exact of_decide_eq_true (by assumption)); cases e_; first | exact h0_ | exact h1_ | exact h2_)), (by first | exact (HB.out.cell (World.block_lt_of_cell? w _ hw160_2)).trans hw160_2 | exact hw160_2 | (obtain ⟨ad_, e_, h0_, h1_, h2_⟩ := at_T48 HR159_0.out (ji11) (by first | exact of_eq_true p160 | exact of_decide_eq_true (by assumption)) (by first | exact of_eq_true q160 | exact of_decide_eq_true (by assumption)); cases e_; first | exact h0_ | exact h1_ | exact h2_)), (by first | exact (HB.out.cell (World.block_lt_of_cell? w _ hw161_0)).trans hw161_0 | exact hw161_0 | (obtain ⟨ad_, e_, h0_, h1_, h2_⟩ := at_T48 HR159_0.out x8_2 (by first | exact of_eq_true p161 | exact of_decide_eq_true (by assumption)) (by first | exact of_eq_true q161 | exact of_decide_eq_true (by assumption)); cases e_; first | exact h0_ | exact h1_ | exact h2_)), (by first | exact (HB.out.cell (World.block_lt_of_cell? w _ hw161_1)).trans hw161_1 | exact hw161_1 | (obtain ⟨ad_, e_, h0_, h1_, h2_⟩ := at_T48 HR159_0.out x8_2 (by first | exact of_eq_true p161 | exact of_decide_eq_true (by assumption)) (by first | exact of_eq_true q161 | exact of_decide_eq_true (by assumption)); cases e_; first | exact h0_ | exact h1_ | exact h2_)), (by first | exact (HB.out.cell (World.block_lt_of_cell? w _ hw161_2)).trans hw161_2 | exact hw161_2 | (obtain ⟨ad_, e_, h0_, h1_, h2_⟩ := at_T48 HR159_0.out x8_2 (by first | exact of_eq_true p161 | exact of_decide_eq_true (by assumption)) (by first | exact of_eq_true q161 | exact of_decide_eq_true (by assumption)); cases e_; first | exact h0_ | exact h1_ | exact h2_))⟩ (fun hHeld => ?_); refine with_tabW impl_MergeStamped.tab9 impl_MergeStamped.bits9 (fun HT_ HW_ => ?_)
                            generalize wr.drew = w17 at HO_0 HO_1 HO_12 HR159_0 HB hx160_0 hx160_1 hx160_2 hx161_0 hx161_1 hx161_2 hHeld ⊢
                            refine pure_ (i := 0) (N := some 27) (v := ?_) (a' := ?_) #[true, false, false, false, false, false, false, false, false, false, false] rfl rfl (any_of HT_.out (by kernel_rfl)) (fun _ _ _ h => h) (Or.inl ⟨by rfl, ?_⟩) ?_ ?_
                            rotate_left
                            · intro w'
                              go_simp
                              with_reducible rfl
                            rotate_left
                            · simp only [Act.put, List.setIfInBounds_toArray, List.set_cons_zero, List.set_cons_succ, i64_w, i32_w]
                              rfl
                            refine pure_ (i := 1) (N := some 28) (v := ?_) (a' := ?_) #[true, true, false, false, false, false, false, false, false, false, false] rfl rfl (any_of HT_.out (by kernel_rfl)) (fun _ _ _ h => h) (Or.inl ⟨by rfl, ?_⟩) ?_ ?_
                            rotate_left
                            · intro w'
                              go_simp
                              with_reducible rfl
                            rotate_left
                            · simp only [Act.put, List.setIfInBounds_toArray, List.set_cons_zero, List.set_cons_succ, i64_w, i32_w]
                              rfl
                            refine pure_ (i := 2) (N := some 29) (v := ?_) (a' := ?_) #[true, true, true, false, false, false, false, false, false, false, false] rfl rfl (any_of HT_.out (by kernel_rfl)) (fun _ _ _ h => h) (Or.inl ⟨by rfl, ?_⟩) ?_ ?_
                            rotate_left
                            · intro w'
                              go_simp
                              with_reducible rfl
                            rotate_left
                            · simp only [Act.put, List.setIfInBounds_toArray, List.set_cons_zero, List.set_cons_succ, i64_w, i32_w]
                              rfl
                            refine pure_ (i := 3) (N := some 30) (v := ?_) (a' := ?_) #[true, true, true, true, false, false, false, false, false, false, false] rfl rfl (any_of HT_.out (by kernel_rfl)) (fun _ _ _ h => h) (Or.inl ⟨by rfl, ?_⟩) ?_ ?_
                            rotate_left
                            · intro w'
                              go_simp
                              with_reducible rfl
                            rotate_left
                            · simp only [Act.put, List.setIfInBounds_toArray, List.set_cons_zero, List.set_cons_succ, i64_w, i32_w]
                              rfl
                            refine pure_ (i := 5) (N := some 32) (v := ?_) (a' := ?_) #[true, true, true, true, false, true, false, false, false, false, false] rfl rfl (any_of HT_.out (by kernel_rfl)) (fun _ _ _ h => h) (Or.inl ⟨by rfl, ?_⟩) ?_ ?_
                            rotate_left
                            · intro w'
                              go_simp
                              with_reducible rfl
                            rotate_left
                            · simp only [Act.put, List.setIfInBounds_toArray, List.set_cons_zero, List.set_cons_succ, i64_w, i32_w]
                              rfl
                            refine pure_ (i := 6) (N := some 33) (v := ?_) (a' := ?_) #[true, true, true, true, false, true, true, false, false, false, false] rfl rfl (any_of HT_.out (by kernel_rfl)) (fun _ _ _ h => h) (Or.inl ⟨by rfl, ?_⟩) ?_ ?_
                            rotate_left
                            · intro w'
                              go_simp
                              with_reducible rfl
                            rotate_left
                            · simp only [Act.put, List.setIfInBounds_toArray, List.set_cons_zero, List.set_cons_succ, i64_w, i32_w]
                              rfl
                            refine pure_ (i := 7) (N := some 34) (v := ?_) (a' := ?_) #[true, true, true, true, false, true, true, true, false, false, false] rfl rfl (any_of HT_.out (by kernel_rfl)) (fun _ _ _ h => h) (Or.inl ⟨by rfl, ?_⟩) ?_ ?_
                            rotate_left
                            · intro w'
                              go_simp
                              with_reducible rfl
                            rotate_left
                            · simp only [Act.put, List.setIfInBounds_toArray, List.set_cons_zero, List.set_cons_succ, i64_w, i32_w]
                              rfl
                            refine take_ (i := 4) (N := some 31) (v := ?_) (a' := ?_) #[true, true, true, true, true, true, true, true, false, false, false] rfl rfl (take_ofW HT_.out HW_.out (by kernel_rfl)) (fun _ _ _ h => h) (Or.inl ⟨by rfl, ?_⟩) hHeld ?_ ?_
                            rotate_left
                            · rintro w' ⟨s0, s1, s2, s3, s4, s5⟩
                              go_simp
                              with_reducible rfl
                            rotate_left
                            · simp only [Act.put, List.setIfInBounds_toArray, List.set_cons_zero, List.set_cons_succ, i64_w, i32_w]
                              rfl
                            refine take_ (i := 8) (N := some 35) (v := ?_) (a' := ?_) #[true, true, true, true, true, true, true, true, true, false, false] rfl rfl (take_ofW HT_.out HW_.out (by kernel_rfl)) (fun _ _ _ h => h) (Or.inl ⟨by rfl, ?_⟩) hHeld ?_ ?_
                            rotate_left
                            · rintro w' ⟨s0, s1, s2, s3, s4, s5⟩
                              go_simp
                              with_reducible rfl
                            rotate_left
                            · simp only [Act.put, List.setIfInBounds_toArray, List.set_cons_zero, List.set_cons_succ, i64_w, i32_w]
                              rfl
                            refine one_ (i := 9) (N := some 36) #[true, true, true, true, true, true, true, true, true, true, false] rfl rfl (one_of HT_.out (by kernel_rfl)) (by decide) (fun K hK => ?_)
                            refine goes_ Try.func55 (by kernel_rfl) rfl #[.agg #[.int .i64 ((rd_T48 (rd_L3 y156 x14_1) (ji11)).f0), .int .i64 ((rd_T48 (rd_L3 y156 x14_1) (ji11)).f1), .int .i64 ((rd_T48 (rd_L3 y156 x14_1) (ji11)).f2)], .agg #[.int .i64 ((rd_T48 (rd_L3 y156 x14_1) x8_2).f0), .int .i64 ((rd_T48 (rd_L3 y156 x14_1) x8_2).f1), .int .i64 ((rd_T48 (rd_L3 y156 x14_1) x8_2).f2)]] (by rfl) rfl rfl (by (try simp only [List.map_toArray, List.map_cons, List.map_nil]); first | done | (simp only [hji11]; rfl) | rfl | (simp only [List.length_drop, List.length_take]; rfl)) ?_
                            with_reducible refine (impl_before.calls ((rd_T48 (rd_L3 y156 x14_1) (ji11)).f0) ((rd_T48 (rd_L3 y156 x14_1) (ji11)).f1) ((rd_T48 (rd_L3 y156 x14_1) (ji11)).f2) ((rd_T48 (rd_L3 y156 x14_1) x8_2).f0) ((rd_T48 (rd_L3 y156 x14_1) x8_2).f1) ((rd_T48 (rd_L3 y156 x14_1) x8_2).f2) true _ A15.out).mono ?_
                            rintro e w18 ⟨rfl, hb⟩
                            refine ⟨_, rfl, ?_⟩
                            have n0_ := Aside0.mk (Kd.V_below (by (with_reducible repeat (first | apply Kd.V_alloc | apply Kd.V_drewN | apply Kd.V_drew)); exact HO_0.out) hb)
                            have n1_ := Aside0.mk (Kd.V_below (by (with_reducible repeat (first | apply Kd.V_alloc | apply Kd.V_drewN | apply Kd.V_drew)); exact HO_1.out) hb)
                            have n2_ := Aside0.mk (Kd.N_below (by (with_reducible repeat (first | apply Kd.N_alloc | apply Kd.N_drewN | apply Kd.N_drew)); exact HO_12.out) hb)
                            have n3_ := Aside0.mk (Kd.C_below (by repeat (first | (with_reducible exact HR159_0.out) | (with_reducible refine Kd.C_alloc ?_ _) | (with_reducible refine Kd.C_drewN ?_ _) | (with_reducible refine Kd.C_drew ?_) | exact HR159_0.out)) hb)
                            have n4_ := Aside0.mk (below_step (by repeat (first | (with_reducible first | exact HB.out | apply below_alloc | apply pw_below_drewN | apply below_drew1) | exact HB.out)) hb)
                            clear HO_0
                            clear HO_1
                            clear HO_12
                            clear HR159_0
                            clear HB
                            have HO_0 := n0_
                            have HO_1 := n1_
                            have HO_12 := n2_
                            have HR159_0 := n3_
                            have HB := n4_
                            clear n0_ n1_ n2_ n3_ n4_
                            (try clear hb)
                            (try clear hb2)
                            (try clear hk)
                            (try clear hi)
                            refine hK.out _ _ ⟨(by first | exact (HB.out.cell (World.block_lt_of_cell? w _ hw160_0)).trans hw160_0 | exact hw160_0 | (obtain ⟨ad_, e_, h0_, h1_, h2_⟩ := at_T48 HR159_0.out (ji11) (by first | exact of_eq_true p160 | exact of_decide_eq_true (by assumption)) (by first | exact of_eq_true q160 | exact of_decide_eq_true (by assumption)); cases e_; first | exact h0_ | exact h1_ | exact h2_)), (by first | exact (HB.out.cell (World.block_lt_of_cell? w _ hw160_1)).trans hw160_1 | exact hw160_1 | (obtain ⟨ad_, e_, h0_, h1_, h2_⟩ := at_T48 HR159_0.out (ji11) (by first | exact of_eq_true p160 | exact of_decide_eq_true (by assumption)) (by first | exact of_eq_true q160 | exact of_decide_eq_true (by assumption)); cases e_; first | exact h0_ | exact h1_ | exact h2_)), (by first | exact (HB.out.cell (World.block_lt_of_cell? w _ hw160_2)).trans hw160_2 | exact hw160_2 | (obtain ⟨ad_, e_, h0_, h1_, h2_⟩ := at_T48 HR159_0.out (ji11) (by first | exact of_eq_true p160 | exact of_decide_eq_true (by assumption)) (by first | exact of_eq_true q160 | exact of_decide_eq_true (by assumption)); cases e_; first | exact h0_ | exact h1_ | exact h2_)), (by first | exact (HB.out.cell (World.block_lt_of_cell? w _ hw161_0)).trans hw161_0 | exact hw161_0 | (obtain ⟨ad_, e_, h0_, h1_, h2_⟩ := at_T48 HR159_0.out x8_2 (by first | exact of_eq_true p161 | exact of_decide_eq_true (by assumption)) (by first | exact of_eq_true q161 | exact of_decide_eq_true (by assumption)); cases e_; first | exact h0_ | exact h1_ | exact h2_)), (by first | exact (HB.out.cell (World.block_lt_of_cell? w _ hw161_1)).trans hw161_1 | exact hw161_1 | (obtain ⟨ad_, e_, h0_, h1_, h2_⟩ := at_T48 HR159_0.out x8_2 (by first | exact of_eq_true p161 | exact of_decide_eq_true (by assumption)) (by first | exact of_eq_true q161 | exact of_decide_eq_true (by assumption)); cases e_; first | exact h0_ | exact h1_ | exact h2_)), (by first | exact (HB.out.cell (World.block_lt_of_cell? w _ hw161_2)).trans hw161_2 | exact hw161_2 | (obtain ⟨ad_, e_, h0_, h1_, h2_⟩ := at_T48 HR159_0.out x8_2 (by first | exact of_eq_true p161 | exact of_decide_eq_true (by assumption)) (by first | exact of_eq_true q161 | exact of_decide_eq_true (by assumption)); cases e_; first | exact h0_ | exact h1_ | exact h2_))⟩ (fun hHeld => ?_)
                            clear hK K
                            refine norm_ (a' := ?_) ?_ ?_
                            rotate_left
                            · show Act.put _ (some 36) _ = _
                              simp only [Act.put, List.setIfInBounds_toArray, List.set_cons_zero, List.set_cons_succ, i64_w, i32_w]
                              rfl
                            refine pure_ (i := 10) (N := some 37) (v := ?_) (a' := ?_) #[true, true, true, true, true, true, true, true, true, true, true] rfl rfl (any_of HT_.out (by kernel_rfl)) (fun _ _ _ h => h) (Or.inl ⟨by rfl, ?_⟩) ?_ ?_
                            rotate_left
                            · intro w'
                              go_simp
                              with_reducible rfl
                            rotate_left
                            · simp only [Act.put, List.setIfInBounds_toArray, List.set_cons_zero, List.set_cons_succ, i64_w, i32_w]
                              rfl
                            refine done_ (done_of HT_.out (by kernel_rfl)) ?_
                            try go_wp2
                            go_roundg k2
                            case measure => have := HK1.out; have := HK2.out; omega
                            case rel => exact ⟨(wrap64 (x8_2 + 1)), (by first | rfl | (simp; done) | (simp [*]; done)), H', ⟨by have := HK1.out; have := HK2.out; omega⟩, ⟨by (with_reducible repeat (first | apply Kd.V_alloc | apply Kd.V_drewN | apply Kd.V_drew)); exact HO_0.out⟩, ⟨by (with_reducible repeat (first | apply Kd.V_alloc | apply Kd.V_drewN | apply Kd.V_drew)); exact HO_1.out⟩, ⟨by (with_reducible repeat (first | apply Kd.N_alloc | apply Kd.N_drewN | apply Kd.N_drew)); exact HO_12.out⟩, ⟨by repeat (first | (with_reducible exact HR159_0.out) | (with_reducible refine Kd.C_alloc ?_ _) | (with_reducible refine Kd.C_drewN ?_ _) | (with_reducible refine Kd.C_drew ?_) | exact HR159_0.out)⟩, ⟨by repeat (first | (with_reducible first | exact HB.out | apply below_alloc | apply pw_below_drewN | apply below_drew1) | exact HB.out)⟩⟩
                          · replace c16 := Bool.eq_false_iff.mpr c16
                            subst c16
                            have H1 : (some (([] : List (S48)), false)) = some (r1, r2) := by rw [if_neg (show ¬ (false = true) by decide)] at H; exact H
                            clear H
                            have H := H1
                            clear H1
                            simp only [Option.some.injEq, Prod.mk.injEq] at H
                            obtain ⟨rfl, rfl⟩ := H
                            try go_wp2
                            have n0_ := Aside0.mk (Kd.V_drew HO_0.out)
                            have n1_ := Aside0.mk (Kd.V_drew HO_1.out)
                            have n2_ := Aside0.mk (Kd.N_drew HO_12.out)
                            have n3_ := Aside0.mk (Kd.C_drew HR159_0.out)
                            have n4_ := Aside0.mk (below_drew1 HB.out)
                            clear HO_0
                            clear HO_1
                            clear HO_12
                            clear HR159_0
                            clear HB
                            have HO_0 := n0_
                            have HO_1 := n1_
                            have HO_12 := n2_
                            have HR159_0 := n3_
                            have HB := n4_
                            clear n0_ n1_ n2_ n3_ n4_
                            have p160 : 0 ≤ ((ji11) : Int) := of_decide_eq_true (by first | (with_reducible assumption) | assumption)
                            have q160 : (ji11) < ((rd_L3 y156 x14_1).length : Int) := of_decide_eq_true (by first | (with_reducible assumption) | assumption)
                            obtain ⟨ad160, e160, hx160_0, hx160_1, hx160_2⟩ := at_T48 HR159_0.out (ji11) p160 q160
                            have hw160_2 := hx160_2
                            have hw160_1 := hx160_1
                            have hw160_0 := hx160_0
                            cases e160
                            (first | replace hx160_0 := (HB.out.cell (World.block_lt_of_cell? w _ hx160_0)).trans hx160_0 | skip)
                            (first | replace hx160_1 := (HB.out.cell (World.block_lt_of_cell? w _ hx160_1)).trans hx160_1 | skip)
                            (first | replace hx160_2 := (HB.out.cell (World.block_lt_of_cell? w _ hx160_2)).trans hx160_2 | skip)
                            replace p160 := eq_true p160
                            replace q160 := eq_true q160
                            have p161 : 0 ≤ (x8_2 : Int) := of_decide_eq_true (by first | (with_reducible assumption) | assumption)
                            have q161 : x8_2 < ((rd_L3 y156 x14_1).length : Int) := of_decide_eq_true (by first | (with_reducible assumption) | assumption)
                            obtain ⟨ad161, e161, hx161_0, hx161_1, hx161_2⟩ := at_T48 HR159_0.out x8_2 p161 q161
                            have hw161_2 := hx161_2
                            have hw161_1 := hx161_1
                            have hw161_0 := hx161_0
                            obtain rfl : ad160 = ad161 := (by injection e161)
                            (first | replace hx161_0 := (HB.out.cell (World.block_lt_of_cell? w _ hx161_0)).trans hx161_0 | skip)
                            (first | replace hx161_1 := (HB.out.cell (World.block_lt_of_cell? w _ hx161_1)).trans hx161_1 | skip)
                            (first | replace hx161_2 := (HB.out.cell (World.block_lt_of_cell? w _ hx161_2)).trans hx161_2 | skip)
                            replace p161 := eq_true p161
                            replace q161 := eq_true q161
                            refine start_ (n := 11) (S := fun w' => w'.cell? (ad160.add (((ji11)).toNat * 3)) = some (.int .i64 ((rd_T48 (rd_L3 y156 x14_1) (ji11)).f0)) ∧ w'.cell? ⟨(ad160.add (((ji11)).toNat * 3)).block, (ad160.add (((ji11)).toNat * 3)).off + 1, none⟩ = some (.int .i64 ((rd_T48 (rd_L3 y156 x14_1) (ji11)).f1)) ∧ w'.cell? ⟨(ad160.add (((ji11)).toNat * 3)).block, (ad160.add (((ji11)).toNat * 3)).off + 2, none⟩ = some (.int .i64 ((rd_T48 (rd_L3 y156 x14_1) (ji11)).f2)) ∧ w'.cell? (ad160.add ((x8_2).toNat * 3)) = some (.int .i64 ((rd_T48 (rd_L3 y156 x14_1) x8_2).f0)) ∧ w'.cell? ⟨(ad160.add ((x8_2).toNat * 3)).block, (ad160.add ((x8_2).toNat * 3)).off + 1, none⟩ = some (.int .i64 ((rd_T48 (rd_L3 y156 x14_1) x8_2).f1)) ∧ w'.cell? ⟨(ad160.add ((x8_2).toNat * 3)).block, (ad160.add ((x8_2).toNat * 3)).off + 2, none⟩ = some (.int .i64 ((rd_T48 (rd_L3 y156 x14_1) x8_2).f2))) (ds := []) #[false, false, false, false, false, false, false, false, false, false, false] (by kernel_rfl) rfl rfl ⟨(by first | exact (HB.out.cell (World.block_lt_of_cell? w _ hw160_0)).trans hw160_0 | exact hw160_0 | (obtain ⟨ad_, e_, h0_, h1_, h2_⟩ := at_T48 HR159_0.out (ji11) (by first | exact of_eq_true p160 | exact of_decide_eq_true (by assumption)) (by first | exact of_eq_true q160 | exact of_decide_eq_true (by assumption)); cases e_; first | exact h0_ | exact h1_ | exact h2_)), (by first | exact (HB.out.cell (World.block_lt_of_cell? w _ hw160_1)).trans hw160_1 | exact hw160_1 | (obtain ⟨ad_, e_, h0_, h1_, h2_⟩ := at_T48 HR159_0.out (ji11) (by first | exact of_eq_true p160 | exact of_decide_eq_true (by assumption)) (by first | exact of_eq_true q160 | exact of_decide_eq_true (by assumption)); cases e_; first | exact h0_ | exact h1_ | exact h2_)), (by first | exact (HB.out.cell (World.block_lt_of_cell? w _ hw160_2)).trans hw160_2 | exact hw160_2 | (obtain ⟨ad_, e_, h0_, h1_, h2_⟩ := at_T48 HR159_0.out (ji11) (by first | exact of_eq_true p160 | exact of_decide_eq_true (by assumption)) (by first | exact of_eq_true q160 | exact of_decide_eq_true (by assumption)); cases e_; first | exact h0_ | exact h1_ | exact h2_)), (by first | exact (HB.out.cell (World.block_lt_of_cell? w _ hw161_0)).trans hw161_0 | exact hw161_0 | (obtain ⟨ad_, e_, h0_, h1_, h2_⟩ := at_T48 HR159_0.out x8_2 (by first | exact of_eq_true p161 | exact of_decide_eq_true (by assumption)) (by first | exact of_eq_true q161 | exact of_decide_eq_true (by assumption)); cases e_; first | exact h0_ | exact h1_ | exact h2_)), (by first | exact (HB.out.cell (World.block_lt_of_cell? w _ hw161_1)).trans hw161_1 | exact hw161_1 | (obtain ⟨ad_, e_, h0_, h1_, h2_⟩ := at_T48 HR159_0.out x8_2 (by first | exact of_eq_true p161 | exact of_decide_eq_true (by assumption)) (by first | exact of_eq_true q161 | exact of_decide_eq_true (by assumption)); cases e_; first | exact h0_ | exact h1_ | exact h2_)), (by first | exact (HB.out.cell (World.block_lt_of_cell? w _ hw161_2)).trans hw161_2 | exact hw161_2 | (obtain ⟨ad_, e_, h0_, h1_, h2_⟩ := at_T48 HR159_0.out x8_2 (by first | exact of_eq_true p161 | exact of_decide_eq_true (by assumption)) (by first | exact of_eq_true q161 | exact of_decide_eq_true (by assumption)); cases e_; first | exact h0_ | exact h1_ | exact h2_))⟩ (fun hHeld => ?_); refine with_tabW impl_MergeStamped.tab9 impl_MergeStamped.bits9 (fun HT_ HW_ => ?_)
                            generalize wr.drew = w19 at HO_0 HO_1 HO_12 HR159_0 HB hx160_0 hx160_1 hx160_2 hx161_0 hx161_1 hx161_2 hHeld ⊢
                            refine pure_ (i := 0) (N := some 27) (v := ?_) (a' := ?_) #[true, false, false, false, false, false, false, false, false, false, false] rfl rfl (any_of HT_.out (by kernel_rfl)) (fun _ _ _ h => h) (Or.inl ⟨by rfl, ?_⟩) ?_ ?_
                            rotate_left
                            · intro w'
                              go_simp
                              with_reducible rfl
                            rotate_left
                            · simp only [Act.put, List.setIfInBounds_toArray, List.set_cons_zero, List.set_cons_succ, i64_w, i32_w]
                              rfl
                            refine pure_ (i := 1) (N := some 28) (v := ?_) (a' := ?_) #[true, true, false, false, false, false, false, false, false, false, false] rfl rfl (any_of HT_.out (by kernel_rfl)) (fun _ _ _ h => h) (Or.inl ⟨by rfl, ?_⟩) ?_ ?_
                            rotate_left
                            · intro w'
                              go_simp
                              with_reducible rfl
                            rotate_left
                            · simp only [Act.put, List.setIfInBounds_toArray, List.set_cons_zero, List.set_cons_succ, i64_w, i32_w]
                              rfl
                            refine pure_ (i := 2) (N := some 29) (v := ?_) (a' := ?_) #[true, true, true, false, false, false, false, false, false, false, false] rfl rfl (any_of HT_.out (by kernel_rfl)) (fun _ _ _ h => h) (Or.inl ⟨by rfl, ?_⟩) ?_ ?_
                            rotate_left
                            · intro w'
                              go_simp
                              with_reducible rfl
                            rotate_left
                            · simp only [Act.put, List.setIfInBounds_toArray, List.set_cons_zero, List.set_cons_succ, i64_w, i32_w]
                              rfl
                            refine pure_ (i := 3) (N := some 30) (v := ?_) (a' := ?_) #[true, true, true, true, false, false, false, false, false, false, false] rfl rfl (any_of HT_.out (by kernel_rfl)) (fun _ _ _ h => h) (Or.inl ⟨by rfl, ?_⟩) ?_ ?_
                            rotate_left
                            · intro w'
                              go_simp
                              with_reducible rfl
                            rotate_left
                            · simp only [Act.put, List.setIfInBounds_toArray, List.set_cons_zero, List.set_cons_succ, i64_w, i32_w]
                              rfl
                            refine pure_ (i := 5) (N := some 32) (v := ?_) (a' := ?_) #[true, true, true, true, false, true, false, false, false, false, false] rfl rfl (any_of HT_.out (by kernel_rfl)) (fun _ _ _ h => h) (Or.inl ⟨by rfl, ?_⟩) ?_ ?_
                            rotate_left
                            · intro w'
                              go_simp
                              with_reducible rfl
                            rotate_left
                            · simp only [Act.put, List.setIfInBounds_toArray, List.set_cons_zero, List.set_cons_succ, i64_w, i32_w]
                              rfl
                            refine pure_ (i := 6) (N := some 33) (v := ?_) (a' := ?_) #[true, true, true, true, false, true, true, false, false, false, false] rfl rfl (any_of HT_.out (by kernel_rfl)) (fun _ _ _ h => h) (Or.inl ⟨by rfl, ?_⟩) ?_ ?_
                            rotate_left
                            · intro w'
                              go_simp
                              with_reducible rfl
                            rotate_left
                            · simp only [Act.put, List.setIfInBounds_toArray, List.set_cons_zero, List.set_cons_succ, i64_w, i32_w]
                              rfl
                            refine pure_ (i := 7) (N := some 34) (v := ?_) (a' := ?_) #[true, true, true, true, false, true, true, true, false, false, false] rfl rfl (any_of HT_.out (by kernel_rfl)) (fun _ _ _ h => h) (Or.inl ⟨by rfl, ?_⟩) ?_ ?_
                            rotate_left
                            · intro w'
                              go_simp
                              with_reducible rfl
                            rotate_left
                            · simp only [Act.put, List.setIfInBounds_toArray, List.set_cons_zero, List.set_cons_succ, i64_w, i32_w]
                              rfl
                            refine take_ (i := 4) (N := some 31) (v := ?_) (a' := ?_) #[true, true, true, true, true, true, true, true, false, false, false] rfl rfl (take_ofW HT_.out HW_.out (by kernel_rfl)) (fun _ _ _ h => h) (Or.inl ⟨by rfl, ?_⟩) hHeld ?_ ?_
                            rotate_left
                            · rintro w' ⟨s0, s1, s2, s3, s4, s5⟩
                              go_simp
                              with_reducible rfl
                            rotate_left
                            · simp only [Act.put, List.setIfInBounds_toArray, List.set_cons_zero, List.set_cons_succ, i64_w, i32_w]
                              rfl
                            refine take_ (i := 8) (N := some 35) (v := ?_) (a' := ?_) #[true, true, true, true, true, true, true, true, true, false, false] rfl rfl (take_ofW HT_.out HW_.out (by kernel_rfl)) (fun _ _ _ h => h) (Or.inl ⟨by rfl, ?_⟩) hHeld ?_ ?_
                            rotate_left
                            · rintro w' ⟨s0, s1, s2, s3, s4, s5⟩
                              go_simp
                              with_reducible rfl
                            rotate_left
                            · simp only [Act.put, List.setIfInBounds_toArray, List.set_cons_zero, List.set_cons_succ, i64_w, i32_w]
                              rfl
                            refine one_ (i := 9) (N := some 36) #[true, true, true, true, true, true, true, true, true, true, false] rfl rfl (one_of HT_.out (by kernel_rfl)) (by decide) (fun K hK => ?_)
                            refine goes_ Try.func55 (by kernel_rfl) rfl #[.agg #[.int .i64 ((rd_T48 (rd_L3 y156 x14_1) (ji11)).f0), .int .i64 ((rd_T48 (rd_L3 y156 x14_1) (ji11)).f1), .int .i64 ((rd_T48 (rd_L3 y156 x14_1) (ji11)).f2)], .agg #[.int .i64 ((rd_T48 (rd_L3 y156 x14_1) x8_2).f0), .int .i64 ((rd_T48 (rd_L3 y156 x14_1) x8_2).f1), .int .i64 ((rd_T48 (rd_L3 y156 x14_1) x8_2).f2)]] (by rfl) rfl rfl (by (try simp only [List.map_toArray, List.map_cons, List.map_nil]); first | done | (simp only [hji11]; rfl) | rfl | (simp only [List.length_drop, List.length_take]; rfl)) ?_
                            with_reducible refine (impl_before.calls ((rd_T48 (rd_L3 y156 x14_1) (ji11)).f0) ((rd_T48 (rd_L3 y156 x14_1) (ji11)).f1) ((rd_T48 (rd_L3 y156 x14_1) (ji11)).f2) ((rd_T48 (rd_L3 y156 x14_1) x8_2).f0) ((rd_T48 (rd_L3 y156 x14_1) x8_2).f1) ((rd_T48 (rd_L3 y156 x14_1) x8_2).f2) false _ A15.out).mono ?_
                            rintro e w20 ⟨rfl, hb⟩
                            refine ⟨_, rfl, ?_⟩
                            have n0_ := Aside0.mk (Kd.V_below (by (with_reducible repeat (first | apply Kd.V_alloc | apply Kd.V_drewN | apply Kd.V_drew)); exact HO_0.out) hb)
                            have n1_ := Aside0.mk (Kd.V_below (by (with_reducible repeat (first | apply Kd.V_alloc | apply Kd.V_drewN | apply Kd.V_drew)); exact HO_1.out) hb)
                            have n2_ := Aside0.mk (Kd.N_below (by (with_reducible repeat (first | apply Kd.N_alloc | apply Kd.N_drewN | apply Kd.N_drew)); exact HO_12.out) hb)
                            have n3_ := Aside0.mk (Kd.C_below (by repeat (first | (with_reducible exact HR159_0.out) | (with_reducible refine Kd.C_alloc ?_ _) | (with_reducible refine Kd.C_drewN ?_ _) | (with_reducible refine Kd.C_drew ?_) | exact HR159_0.out)) hb)
                            have n4_ := Aside0.mk (below_step (by repeat (first | (with_reducible first | exact HB.out | apply below_alloc | apply pw_below_drewN | apply below_drew1) | exact HB.out)) hb)
                            clear HO_0
                            clear HO_1
                            clear HO_12
                            clear HR159_0
                            clear HB
                            have HO_0 := n0_
                            have HO_1 := n1_
                            have HO_12 := n2_
                            have HR159_0 := n3_
                            have HB := n4_
                            clear n0_ n1_ n2_ n3_ n4_
                            (try clear hb)
                            (try clear hb2)
                            (try clear hk)
                            (try clear hi)
                            refine hK.out _ _ ⟨(by first | exact (HB.out.cell (World.block_lt_of_cell? w _ hw160_0)).trans hw160_0 | exact hw160_0 | (obtain ⟨ad_, e_, h0_, h1_, h2_⟩ := at_T48 HR159_0.out (ji11) (by first | exact of_eq_true p160 | exact of_decide_eq_true (by assumption)) (by first | exact of_eq_true q160 | exact of_decide_eq_true (by assumption)); cases e_; first | exact h0_ | exact h1_ | exact h2_)), (by first | exact (HB.out.cell (World.block_lt_of_cell? w _ hw160_1)).trans hw160_1 | exact hw160_1 | (obtain ⟨ad_, e_, h0_, h1_, h2_⟩ := at_T48 HR159_0.out (ji11) (by first | exact of_eq_true p160 | exact of_decide_eq_true (by assumption)) (by first | exact of_eq_true q160 | exact of_decide_eq_true (by assumption)); cases e_; first | exact h0_ | exact h1_ | exact h2_)), (by first | exact (HB.out.cell (World.block_lt_of_cell? w _ hw160_2)).trans hw160_2 | exact hw160_2 | (obtain ⟨ad_, e_, h0_, h1_, h2_⟩ := at_T48 HR159_0.out (ji11) (by first | exact of_eq_true p160 | exact of_decide_eq_true (by assumption)) (by first | exact of_eq_true q160 | exact of_decide_eq_true (by assumption)); cases e_; first | exact h0_ | exact h1_ | exact h2_)), (by first | exact (HB.out.cell (World.block_lt_of_cell? w _ hw161_0)).trans hw161_0 | exact hw161_0 | (obtain ⟨ad_, e_, h0_, h1_, h2_⟩ := at_T48 HR159_0.out x8_2 (by first | exact of_eq_true p161 | exact of_decide_eq_true (by assumption)) (by first | exact of_eq_true q161 | exact of_decide_eq_true (by assumption)); cases e_; first | exact h0_ | exact h1_ | exact h2_)), (by first | exact (HB.out.cell (World.block_lt_of_cell? w _ hw161_1)).trans hw161_1 | exact hw161_1 | (obtain ⟨ad_, e_, h0_, h1_, h2_⟩ := at_T48 HR159_0.out x8_2 (by first | exact of_eq_true p161 | exact of_decide_eq_true (by assumption)) (by first | exact of_eq_true q161 | exact of_decide_eq_true (by assumption)); cases e_; first | exact h0_ | exact h1_ | exact h2_)), (by first | exact (HB.out.cell (World.block_lt_of_cell? w _ hw161_2)).trans hw161_2 | exact hw161_2 | (obtain ⟨ad_, e_, h0_, h1_, h2_⟩ := at_T48 HR159_0.out x8_2 (by first | exact of_eq_true p161 | exact of_decide_eq_true (by assumption)) (by first | exact of_eq_true q161 | exact of_decide_eq_true (by assumption)); cases e_; first | exact h0_ | exact h1_ | exact h2_))⟩ (fun hHeld => ?_)
                            clear hK K
                            refine norm_ (a' := ?_) ?_ ?_
                            rotate_left
                            · show Act.put _ (some 36) _ = _
                              simp only [Act.put, List.setIfInBounds_toArray, List.set_cons_zero, List.set_cons_succ, i64_w, i32_w]
                              rfl
                            refine pure_ (i := 10) (N := some 37) (v := ?_) (a' := ?_) #[true, true, true, true, true, true, true, true, true, true, true] rfl rfl (any_of HT_.out (by kernel_rfl)) (fun _ _ _ h => h) (Or.inl ⟨by rfl, ?_⟩) ?_ ?_
                            rotate_left
                            · intro w'
                              go_simp
                              with_reducible rfl
                            rotate_left
                            · simp only [Act.put, List.setIfInBounds_toArray, List.set_cons_zero, List.set_cons_succ, i64_w, i32_w]
                              rfl
                            refine done_ (done_of HT_.out (by kernel_rfl)) ?_
                            try go_wp2
                            go_ret2
                            exact ⟨_, by first | rfl | (simp [errW_none, errW_some] <;> rfl) | (simp only [← hji11]; first | rfl | (simp [errW_none, errW_some] <;> rfl)) | (simp [*, errW_none, errW_some] <;> rfl), by first | exact Kd.R_nil _ _ _ _ _ | exact Kd.N_nil _ _ _ _ _ | exact Kd.V_nil _ _ _ _ _ | exact Kd.Q_nil _ _ _ _ _ | exact Kd.S_nil _ _ _ _ _, by repeat (first | (with_reducible first | exact HB.out | apply below_alloc | apply pw_below_drewN | apply below_drew1) | exact HB.out)⟩
                        · rw [if_neg c14] at H
                          exact absurd H (by simp)
                      · rw [if_neg c13] at H
                        exact absurd H (by simp)
                    · rw [if_neg c12] at H
                      exact absurd H (by simp)
                  · rw [if_neg c10] at H
                    have c10b0 : decide (x8_2 < ((rd_L3 y156 x14_1).length : Int)) = false := decide_eq_false c10
                    clear c10
                    have H' := Aside0.mk H
                    clear H
                    go_wp2
                    go_roundg k2
                    case measure => have := HK1.out; have := HK2.out; omega
                    case rel => exact ⟨(wrap64 (x14_1 + 1)), (by first | rfl | (simp; done) | (simp [*]; done)), H', ⟨by have := HK1.out; have := HK2.out; omega⟩, ⟨by (with_reducible repeat (first | apply Kd.V_alloc | apply Kd.V_drewN | apply Kd.V_drew)); exact HO_0.out⟩, ⟨by (with_reducible repeat (first | apply Kd.V_alloc | apply Kd.V_drewN | apply Kd.V_drew)); exact HO_1.out⟩, ⟨by (with_reducible repeat (first | apply Kd.N_alloc | apply Kd.N_drewN | apply Kd.N_drew)); exact HO_12.out⟩, ⟨by repeat (first | (with_reducible first | exact HB.out | apply below_alloc | apply pw_below_drewN | apply below_drew1) | exact HB.out)⟩⟩
          · rw [if_neg c8] at H
            exact absurd H (by simp)
        · rw [if_neg c7] at H
          exact absurd H (by simp)
      · rw [if_neg c6] at H
        have c6b0 : decide (x14_1 < (y156.length : Int)) = false := decide_eq_false c6
        clear c6
        have H' := Aside0.mk H
        clear H
        go_wp2
        go_loopg [0, 1, 9] k1 (fun kq v0 v1 v9 w' => ∃ (x0_2 : List (S48)) (x1_2 : List (S48)) (x9_2 : List (S48)), Aside0 (impl_MergeStamped.l2 kq x0_2 x1_2 x9_2 = some (r1, r2)) ∧ Aside0 (kq ≤ k1) ∧ Aside0 (Kd.V k48 48 w' w.heap.size (fun k_ => ((P0_ k_ ∨ P1_ k_) ∨ w.heap.size ≤ k_) ∧ some k_ ≠ (v9 : Value).ownBlock) v0 x0_2) ∧ Aside0 (Kd.V k48 48 w' w.heap.size (fun k_ => ((P0_ k_ ∨ P1_ k_) ∨ w.heap.size ≤ k_) ∧ some k_ ≠ (v9 : Value).ownBlock) v1 x1_2) ∧ Aside0 (Kd.R k48 48 w' w.heap.size (fun k_ => (w.heap.size ≤ k_)) v9 x9_2) ∧ Aside0 (Below w.heap.size w w'))
        case atStart => exact ⟨(l0), (l1), (([] : List (S48))), H', ⟨Nat.le_refl _⟩, ⟨by (with_reducible repeat (first | apply Kd.V_alloc | apply Kd.V_drewN | apply Kd.V_drew)); exact Kd.V_mono HO_0.out (fun _ hk => ⟨hk.1, (by simp [Value.ownBlock])⟩)⟩, ⟨by (with_reducible repeat (first | apply Kd.V_alloc | apply Kd.V_drewN | apply Kd.V_drew)); exact Kd.V_mono HO_1.out (fun _ hk => ⟨hk.1, (by simp [Value.ownBlock])⟩)⟩, ⟨by first | exact Kd.R_nil _ _ _ _ _ | exact Kd.N_nil _ _ _ _ _ | exact Kd.V_nil _ _ _ _ _ | exact Kd.Q_nil _ _ _ _ _ | exact Kd.S_nil _ _ _ _ _⟩, ⟨by repeat (first | (with_reducible first | exact HB.out | apply below_alloc | apply pw_below_drewN | apply below_drew1) | exact HB.out)⟩⟩
        case round =>
          clear H'
          try clear c1
          try clear p1
          try clear q1
          try clear hx1
          try clear c2
          try clear p2
          try clear c5
          try clear c6
          try clear c6b0
          try clear p6
          try clear c7
          try clear c7b0
          try clear c8
          try clear c8b0
          try clear c9
          try clear c9b0
          try clear c9b1
          try clear c10
          try clear c10b0
          try clear c12
          try clear c12b0
          try clear c13
          try clear c13b0
          try clear c14
          try clear c14b0
          try clear c15
          try clear p15
          try clear q15
          try clear hx15
          try clear c16
          try clear p16
          try clear q16
          try clear hx16
          try clear hx159_0
          try clear hx160_0
          try clear hx160_1
          try clear hx160_2
          try clear hx161_0
          try clear hx161_1
          try clear hx161_2
          try clear p1
          try clear p159
          try clear p160
          try clear p161
          try clear p2
          try clear q1
          try clear q159
          try clear q160
          try clear q161
          obtain ⟨x0_2, x1_2, x9_2, HA, HK2, HO_0, HO_1, HO_9, HB⟩ := hrel
          cases gk with
          | zero => exact absurd HA.out (by simp [impl_MergeStamped.l2])
          | succ k2 =>
            have H := HA.out
            clear HA
            simp only [impl_MergeStamped.l2] at H
            have HC21 := Aside0.mk H
            clear H
            go_upto_region 13 with (fail)
            go_cut [46] (fun v46 wc => ∃ (kq : Nat) (x46_20 : Bool), v46 = .bool x46_20 ∧ Aside0 (impl_MergeStamped.j3 kq x0_2 x1_2 x9_2 x46_20 = some (r1, r2)) ∧ Aside0 (kq ≤ k2) ∧ Aside0 (Kd.V k48 48 wc w.heap.size (fun k_ => ((P0_ k_ ∨ P1_ k_) ∨ w.heap.size ≤ k_) ∧ some k_ ≠ (u9 : Value).ownBlock) u0 x0_2) ∧ Aside0 (Kd.V k48 48 wc w.heap.size (fun k_ => ((P0_ k_ ∨ P1_ k_) ∨ w.heap.size ≤ k_) ∧ some k_ ≠ (u9 : Value).ownBlock) u1 x1_2) ∧ Aside0 (Kd.R k48 48 wc w.heap.size (fun k_ => (w.heap.size ≤ k_)) u9 x9_2) ∧ Aside0 (Below w.heap.size w wc))
            case first =>
              have H := HC21.out
              clear HC21
              by_cases c22 : (x0_2.length : Int) > 0
              · rw [if_pos c22] at H
                have c22b0 : decide (0 < (x0_2.length : Int)) = true := decide_eq_true c22
                have c22b1 : decide (0 < x0_2.length) = true := decide_eq_true (by omega)
                clear c22
                (first | rw [c22b0] | (simp only [i64_w, i32_w]; rw [c22b0]) | skip)
                have H' := Aside0.mk H
                clear H
                obtain ⟨Ao23, co23, eo23⟩ := Kd.V_slice HO_0.out
                subst eo23
                go_wp2
                go_meet
                case rel => exact ⟨_, (true), (by first | rfl | (simp; done) | (simp [*]; done)), H', ⟨by have := HK1.out; have := HK2.out; first | omega | exact Nat.le_refl _⟩, ⟨by (with_reducible repeat (first | apply Kd.V_alloc | apply Kd.V_drewN | apply Kd.V_drew)); exact HO_0.out⟩, ⟨by (with_reducible repeat (first | apply Kd.V_alloc | apply Kd.V_drewN | apply Kd.V_drew)); exact HO_1.out⟩, ⟨by (with_reducible repeat (first | apply Kd.R_alloc | apply Kd.R_drewN | apply Kd.R_drew)); exact HO_9.out⟩, ⟨by repeat (first | (with_reducible first | exact HB.out | apply below_alloc | apply pw_below_drewN | apply below_drew1) | exact HB.out)⟩⟩
              · rw [if_neg c22] at H
                have c22b0 : decide (0 < (x0_2.length : Int)) = false := decide_eq_false c22
                have c22b1 : decide (0 < x0_2.length) = false := decide_eq_false (by omega)
                clear c22
                (first | rw [c22b0] | (simp only [i64_w, i32_w]; rw [c22b0]) | skip)
                have H' := Aside0.mk H
                clear H
                obtain ⟨Ao24, co24, eo24⟩ := Kd.V_slice HO_0.out
                subst eo24
                obtain ⟨Ao25, co25, eo25⟩ := Kd.V_slice HO_1.out
                subst eo25
                go_wp2
                go_meet
                case rel => exact ⟨_, (decide ((x1_2.length : Int) > 0)), (by first | rfl | (simp; done) | (simp [*]; done)), H', ⟨by have := HK1.out; have := HK2.out; first | omega | exact Nat.le_refl _⟩, ⟨by (with_reducible repeat (first | apply Kd.V_alloc | apply Kd.V_drewN | apply Kd.V_drew)); exact HO_0.out⟩, ⟨by (with_reducible repeat (first | apply Kd.V_alloc | apply Kd.V_drewN | apply Kd.V_drew)); exact HO_1.out⟩, ⟨by (with_reducible repeat (first | apply Kd.R_alloc | apply Kd.R_drewN | apply Kd.R_drew)); exact HO_9.out⟩, ⟨by repeat (first | (with_reducible first | exact HB.out | apply below_alloc | apply pw_below_drewN | apply below_drew1) | exact HB.out)⟩⟩
            case rest =>
              clear HC21
              try clear c1
              try clear p1
              try clear q1
              try clear hx1
              try clear c2
              try clear p2
              try clear c5
              try clear c6
              try clear c6b0
              try clear p6
              try clear c7
              try clear c7b0
              try clear c8
              try clear c8b0
              try clear c9
              try clear c9b0
              try clear c9b1
              try clear c10
              try clear c10b0
              try clear c12
              try clear c12b0
              try clear c13
              try clear c13b0
              try clear c14
              try clear c14b0
              try clear c15
              try clear p15
              try clear q15
              try clear hx15
              try clear c16
              try clear p16
              try clear q16
              try clear hx16
              try clear c22
              try clear c22b0
              try clear c22b1
              try clear hx159_0
              try clear hx160_0
              try clear hx160_1
              try clear hx160_2
              try clear hx161_0
              try clear hx161_1
              try clear hx161_2
              try clear p1
              try clear p15
              try clear p159
              try clear p16
              try clear p160
              try clear p161
              try clear p2
              try clear p6
              try clear q1
              try clear q15
              try clear q159
              try clear q16
              try clear q160
              try clear q161
              obtain ⟨kq, x46_20, rfl, HA, HJ20, HO_0, HO_1, HO_9, HB⟩ := hcut
              cases kq with
              | zero => exact absurd HA.out (by simp [impl_MergeStamped.j3])
              | succ kj20 =>
                have H := HA.out
                clear HA
                simp only [impl_MergeStamped.j3] at H
                by_cases c26 : x46_20 = true
                · subst c26
                  have H1 : (if (x1_2.length : Int) = 0 then (impl_MergeStamped.j4 kj20 x0_2 x1_2 x9_2 true) else (if (x0_2.length : Int) > 0 then (if 0 < (x0_2.length : Int) then (if 0 < (x1_2.length : Int) then ((impl_before.f ((rd_T48 x0_2 0).f0) ((rd_T48 x0_2 0).f1) ((rd_T48 x0_2 0).f2) ((rd_T48 x1_2 0).f0) ((rd_T48 x1_2 0).f1) ((rd_T48 x1_2 0).f2)).bind fun t165 => (impl_MergeStamped.j4 kj20 x0_2 x1_2 x9_2 t165)) else (none)) else (none)) else (impl_MergeStamped.j4 kj20 x0_2 x1_2 x9_2 false))) = some (r1, r2) := by rw [if_pos rfl] at H; exact H
                  clear H
                  have H := H1
                  clear H1
                  have HC27 := Aside0.mk H
                  clear H
                  go_upto_region 15 with (fail)
                  go_cut [57] (fun v57 wc => ∃ (kq : Nat) (x57_26 : Bool), v57 = .bool x57_26 ∧ Aside0 (impl_MergeStamped.j4 kq x0_2 x1_2 x9_2 x57_26 = some (r1, r2)) ∧ Aside0 (kq ≤ kj20) ∧ Aside0 (Kd.V k48 48 wc w.heap.size (fun k_ => ((P0_ k_ ∨ P1_ k_) ∨ w.heap.size ≤ k_) ∧ some k_ ≠ (u9 : Value).ownBlock) u0 x0_2) ∧ Aside0 (Kd.V k48 48 wc w.heap.size (fun k_ => ((P0_ k_ ∨ P1_ k_) ∨ w.heap.size ≤ k_) ∧ some k_ ≠ (u9 : Value).ownBlock) u1 x1_2) ∧ Aside0 (Kd.R k48 48 wc w.heap.size (fun k_ => (w.heap.size ≤ k_)) u9 x9_2) ∧ Aside0 (Below w.heap.size w wc))
                  case first =>
                    have H := HC27.out
                    clear HC27
                    by_cases c28 : (x1_2.length : Int) = 0
                    · rw [if_pos c28] at H
                      have c28b0 : ((x1_2.length : Int) == 0) = true := beq_iff_eq.mpr c28
                      have c28b1 : ((x1_2.length : Int) != 0) = false := bne_eq_false_iff_eq.mpr c28
                      clear c28
                      (first | rw [c28b0] | (simp only [i64_w, i32_w]; rw [c28b0]) | skip)
                      have H' := Aside0.mk H
                      clear H
                      try go_wp2
                      have n0_ := Aside0.mk (Kd.V_drew HO_0.out)
                      have n1_ := Aside0.mk (Kd.V_drew HO_1.out)
                      have n2_ := Aside0.mk (Kd.R_drew HO_9.out)
                      have n3_ := Aside0.mk (below_drew1 HB.out)
                      clear HO_0
                      clear HO_1
                      clear HO_9
                      clear HB
                      have HO_0 := n0_
                      have HO_1 := n1_
                      have HO_9 := n2_
                      have HB := n3_
                      clear n0_ n1_ n2_ n3_
                      obtain ⟨Ao30, co30, eo30⟩ := Kd.V_slice HO_1.out
                      (first | subst eo30 | (injection eo30 with f1_ f2_ f3_; have f4_ := f1_.symm; have f5_ := f3_.symm; clear f1_ f2_ f3_; subst f4_; subst f5_))
                      refine start_ (n := 18) (S := fun w' => True) (ds := []) #[false, false, false, false, false, false, false, false, false, false, false, false, false, false, false, false, false, false] (by kernel_rfl) rfl rfl trivial (fun hHeld => ?_); refine with_tabW impl_MergeStamped.tab15 impl_MergeStamped.bits15 (fun HT_ HW_ => ?_)
                      generalize wc.drew = w29 at HO_0 HO_1 HO_9 HB hHeld ⊢
                      refine pure_ (i := 0) (N := some 58) (v := ?_) (a' := ?_) #[true, false, false, false, false, false, false, false, false, false, false, false, false, false, false, false, false, false] rfl rfl (any_of HT_.out (by kernel_rfl)) (fun _ _ _ h => h) (Or.inl ⟨by rfl, ?_⟩) ?_ ?_
                      rotate_left
                      · intro w'
                        go_simp
                        with_reducible rfl
                      rotate_left
                      · simp only [Act.put, List.setIfInBounds_toArray, List.set_cons_zero, List.set_cons_succ, i64_w, i32_w]
                        rfl
                      refine pure_ (i := 1) (N := some 59) (v := ?_) (a' := ?_) #[true, true, false, false, false, false, false, false, false, false, false, false, false, false, false, false, false, false] rfl rfl (any_of HT_.out (by kernel_rfl)) (fun _ _ _ h => h) (Or.inl ⟨by rfl, ?_⟩) ?_ ?_
                      rotate_left
                      · intro w'
                        go_simp
                        with_reducible rfl
                      rotate_left
                      · simp only [Act.put, List.setIfInBounds_toArray, List.set_cons_zero, List.set_cons_succ, i64_w, i32_w]
                        rfl
                      refine pure_ (i := 2) (N := some 60) (v := ?_) (a' := ?_) #[true, true, true, false, false, false, false, false, false, false, false, false, false, false, false, false, false, false] rfl rfl (any_of HT_.out (by kernel_rfl)) (fun _ _ _ h => h) (Or.inl ⟨by rfl, ?_⟩) ?_ ?_
                      rotate_left
                      · intro w'
                        go_simp
                        with_reducible rfl
                      rotate_left
                      · simp only [Act.put, List.setIfInBounds_toArray, List.set_cons_zero, List.set_cons_succ, i64_w, i32_w]
                        rfl
                      refine pure_ (i := 3) (N := some 61) (v := ?_) (a' := ?_) #[true, true, true, true, false, false, false, false, false, false, false, false, false, false, false, false, false, false] rfl rfl (any_of HT_.out (by kernel_rfl)) (fun _ _ _ h => h) (Or.inl ⟨by rfl, ?_⟩) ?_ ?_
                      rotate_left
                      · intro w'
                        go_simp
                        with_reducible rfl
                      rotate_left
                      · simp only [Act.put, List.setIfInBounds_toArray, List.set_cons_zero, List.set_cons_succ, i64_w, i32_w]
                        rfl
                      refine pure_ (i := 4) (N := some 62) (v := undef) (a' := ?_) #[true, true, true, true, true, false, false, false, false, false, false, false, false, false, false, false, false, false] rfl rfl (any_of HT_.out (by kernel_rfl)) (fun _ _ _ h => h) (Or.inr ⟨by rfl, rfl⟩) ?_ ?_
                      rotate_left
                      · simp only [Act.put, List.setIfInBounds_toArray, List.set_cons_zero, List.set_cons_succ, i64_w, i32_w]
                        rfl
                      refine pure_ (i := 5) (N := some 63) (v := undef) (a' := ?_) #[true, true, true, true, true, true, false, false, false, false, false, false, false, false, false, false, false, false] rfl rfl (any_of HT_.out (by kernel_rfl)) (fun _ _ _ h => h) (Or.inr ⟨by rfl, rfl⟩) ?_ ?_
                      rotate_left
                      · simp only [Act.put, List.setIfInBounds_toArray, List.set_cons_zero, List.set_cons_succ, i64_w, i32_w]
                        rfl
                      refine pure_ (i := 6) (N := some 64) (v := undef) (a' := ?_) #[true, true, true, true, true, true, true, false, false, false, false, false, false, false, false, false, false, false] rfl rfl (any_of HT_.out (by kernel_rfl)) (fun _ _ _ h => h) (Or.inr ⟨by rfl, rfl⟩) ?_ ?_
                      rotate_left
                      · simp only [Act.put, List.setIfInBounds_toArray, List.set_cons_zero, List.set_cons_succ, i64_w, i32_w]
                        rfl
                      refine pure_ (i := 7) (N := some 65) (v := undef) (a' := ?_) #[true, true, true, true, true, true, true, true, false, false, false, false, false, false, false, false, false, false] rfl rfl (any_of HT_.out (by kernel_rfl)) (fun _ _ _ h => h) (Or.inr ⟨by rfl, rfl⟩) ?_ ?_
                      rotate_left
                      · simp only [Act.put, List.setIfInBounds_toArray, List.set_cons_zero, List.set_cons_succ, i64_w, i32_w]
                        rfl
                      refine pure_ (i := 8) (N := some 66) (v := undef) (a' := ?_) #[true, true, true, true, true, true, true, true, true, false, false, false, false, false, false, false, false, false] rfl rfl (any_of HT_.out (by kernel_rfl)) (fun _ _ _ h => h) (Or.inr ⟨by rfl, rfl⟩) ?_ ?_
                      rotate_left
                      · simp only [Act.put, List.setIfInBounds_toArray, List.set_cons_zero, List.set_cons_succ, i64_w, i32_w]
                        rfl
                      refine pure_ (i := 9) (N := some 67) (v := undef) (a' := ?_) #[true, true, true, true, true, true, true, true, true, true, false, false, false, false, false, false, false, false] rfl rfl (any_of HT_.out (by kernel_rfl)) (fun _ _ _ h => h) (Or.inr ⟨by rfl, rfl⟩) ?_ ?_
                      rotate_left
                      · simp only [Act.put, List.setIfInBounds_toArray, List.set_cons_zero, List.set_cons_succ, i64_w, i32_w]
                        rfl
                      refine pure_ (i := 10) (N := some 68) (v := undef) (a' := ?_) #[true, true, true, true, true, true, true, true, true, true, true, false, false, false, false, false, false, false] rfl rfl (any_of HT_.out (by kernel_rfl)) (fun _ _ _ h => h) (Or.inr ⟨by rfl, rfl⟩) ?_ ?_
                      rotate_left
                      · simp only [Act.put, List.setIfInBounds_toArray, List.set_cons_zero, List.set_cons_succ, i64_w, i32_w]
                        rfl
                      refine pure_ (i := 11) (N := some 69) (v := undef) (a' := ?_) #[true, true, true, true, true, true, true, true, true, true, true, true, false, false, false, false, false, false] rfl rfl (any_of HT_.out (by kernel_rfl)) (fun _ _ _ h => h) (Or.inr ⟨by rfl, rfl⟩) ?_ ?_
                      rotate_left
                      · simp only [Act.put, List.setIfInBounds_toArray, List.set_cons_zero, List.set_cons_succ, i64_w, i32_w]
                        rfl
                      refine pure_ (i := 12) (N := some 70) (v := undef) (a' := ?_) #[true, true, true, true, true, true, true, true, true, true, true, true, true, false, false, false, false, false] rfl rfl (any_of HT_.out (by kernel_rfl)) (fun _ _ _ h => h) (Or.inr ⟨by rfl, rfl⟩) ?_ ?_
                      rotate_left
                      · simp only [Act.put, List.setIfInBounds_toArray, List.set_cons_zero, List.set_cons_succ, i64_w, i32_w]
                        rfl
                      refine pure_ (i := 13) (N := some 71) (v := undef) (a' := ?_) #[true, true, true, true, true, true, true, true, true, true, true, true, true, true, false, false, false, false] rfl rfl (any_of HT_.out (by kernel_rfl)) (fun _ _ _ h => h) (Or.inr ⟨by rfl, rfl⟩) ?_ ?_
                      rotate_left
                      · simp only [Act.put, List.setIfInBounds_toArray, List.set_cons_zero, List.set_cons_succ, i64_w, i32_w]
                        rfl
                      refine pure_ (i := 14) (N := some 72) (v := undef) (a' := ?_) #[true, true, true, true, true, true, true, true, true, true, true, true, true, true, true, false, false, false] rfl rfl (any_of HT_.out (by kernel_rfl)) (fun _ _ _ h => h) (Or.inr ⟨by rfl, rfl⟩) ?_ ?_
                      rotate_left
                      · simp only [Act.put, List.setIfInBounds_toArray, List.set_cons_zero, List.set_cons_succ, i64_w, i32_w]
                        rfl
                      refine pure_ (i := 15) (N := some 73) (v := undef) (a' := ?_) #[true, true, true, true, true, true, true, true, true, true, true, true, true, true, true, true, false, false] rfl rfl (any_of HT_.out (by kernel_rfl)) (fun _ _ _ h => h) (Or.inr ⟨by rfl, rfl⟩) ?_ ?_
                      rotate_left
                      · simp only [Act.put, List.setIfInBounds_toArray, List.set_cons_zero, List.set_cons_succ, i64_w, i32_w]
                        rfl
                      refine pure_ (i := 16) (N := some 74) (v := ?_) (a' := ?_) #[true, true, true, true, true, true, true, true, true, true, true, true, true, true, true, true, true, false] rfl rfl (any_of HT_.out (by kernel_rfl)) (fun _ _ _ h => h) (Or.inl ⟨by rfl, ?_⟩) ?_ ?_
                      rotate_left
                      · intro w'
                        go_simp
                        with_reducible rfl
                      rotate_left
                      · simp only [Act.put, List.setIfInBounds_toArray, List.set_cons_zero, List.set_cons_succ, i64_w, i32_w]
                        rfl
                      refine pure_ (i := 17) (N := some 57) (v := ?_) (a' := ?_) #[true, true, true, true, true, true, true, true, true, true, true, true, true, true, true, true, true, true] rfl rfl (any_of HT_.out (by kernel_rfl)) (fun _ _ _ h => h) (Or.inl ⟨by rfl, ?_⟩) ?_ ?_
                      rotate_left
                      · intro w'
                        go_simp
                        with_reducible rfl
                      rotate_left
                      · simp only [Act.put, List.setIfInBounds_toArray, List.set_cons_zero, List.set_cons_succ, i64_w, i32_w]
                        rfl
                      refine done_ (done_of HT_.out (by kernel_rfl)) ?_
                      try go_wp2
                      go_meet
                      case rel => exact ⟨_, (true), (by first | rfl | (simp; done) | (simp [*]; done)), H', ⟨by have := HK1.out; have := HK2.out; have := HJ20.out; first | omega | exact Nat.le_refl _⟩, ⟨by (with_reducible repeat (first | apply Kd.V_alloc | apply Kd.V_drewN | apply Kd.V_drew)); exact HO_0.out⟩, ⟨by (with_reducible repeat (first | apply Kd.V_alloc | apply Kd.V_drewN | apply Kd.V_drew)); exact HO_1.out⟩, ⟨by (with_reducible repeat (first | apply Kd.R_alloc | apply Kd.R_drewN | apply Kd.R_drew)); exact HO_9.out⟩, ⟨by repeat (first | (with_reducible first | exact HB.out | apply below_alloc | apply pw_below_drewN | apply below_drew1) | exact HB.out)⟩⟩
                    · rw [if_neg c28] at H
                      have c28b0 : ((x1_2.length : Int) == 0) = false := beq_eq_false_iff_ne.mpr c28
                      have c28b1 : ((x1_2.length : Int) != 0) = true := bne_iff_ne.mpr c28
                      have c28b2 : ¬ (x1_2 = []) := fun h_ => c28 (by rw [h_]; rfl)
                      (first | rw [c28b0] | (simp only [i64_w, i32_w]; rw [c28b0]) | skip)
                      by_cases c31 : (x0_2.length : Int) > 0
                      · rw [if_pos c31] at H
                        have c31b0 : decide (0 < (x0_2.length : Int)) = true := decide_eq_true c31
                        have c31b1 : decide (0 < x0_2.length) = true := decide_eq_true (by omega)
                        clear c31
                        by_cases c32 : 0 < (x0_2.length : Int)
                        · rw [if_pos c32] at H
                          have c32b0 : decide (0 < (x0_2.length : Int)) = true := decide_eq_true c32
                          have c32b1 : decide (0 < x0_2.length) = true := decide_eq_true (by omega)
                          clear c32
                          by_cases c33 : 0 < (x1_2.length : Int)
                          · rw [if_pos c33] at H
                            have c33b0 : decide (0 < (x1_2.length : Int)) = true := decide_eq_true c33
                            have c33b1 : decide (0 < x1_2.length) = true := decide_eq_true (by omega)
                            clear c33
                            replace H := Option.bind_eq_some_iff.mp H
                            obtain ⟨t165, A340, H⟩ := H
                            replace H : (impl_MergeStamped.j4 kj20 x0_2 x1_2 x9_2 t165) = some (r1, r2) := H
                            have A34 := Aside0.mk A340
                            clear A340
                            have H' := Aside0.mk H
                            clear H
                            try go_wp2
                            have n0_ := Aside0.mk (Kd.V_drew HO_0.out)
                            have n1_ := Aside0.mk (Kd.V_drew HO_1.out)
                            have n2_ := Aside0.mk (Kd.R_drew HO_9.out)
                            have n3_ := Aside0.mk (below_drew1 HB.out)
                            clear HO_0
                            clear HO_1
                            clear HO_9
                            clear HB
                            have HO_0 := n0_
                            have HO_1 := n1_
                            have HO_9 := n2_
                            have HB := n3_
                            clear n0_ n1_ n2_ n3_
                            obtain ⟨Ao36, co36, eo36⟩ := Kd.V_slice HO_1.out
                            (first | subst eo36 | (injection eo36 with f1_ f2_ f3_; have f4_ := f1_.symm; have f5_ := f3_.symm; clear f1_ f2_ f3_; subst f4_; subst f5_))
                            obtain ⟨Ao37, co37, eo37⟩ := Kd.V_slice HO_0.out
                            (first | subst eo37 | (injection eo37 with f1_ f2_ f3_; have f4_ := f1_.symm; have f5_ := f3_.symm; clear f1_ f2_ f3_; subst f4_; subst f5_))
                            have p163 : 0 ≤ (0 : Int) := (by omega)
                            have q163 : 0 < (x0_2.length : Int) := of_decide_eq_true (by first | (with_reducible assumption) | assumption)
                            obtain ⟨ad163, e163, hx163_0, hx163_1, hx163_2⟩ := at_T48 (Kd.V_reads' HO_0.out).2.2 0 p163 q163
                            cases e163
                            have qi163 : (0 < x0_2.length) = True := eq_true (by omega)
                            (try rw [show ((0 : Int)).toNat = 0 from rfl] at hx163_0)
                            (try rw [show 0 * 3 = 0 from rfl] at hx163_0)
                            (try rw [Addr.add_zero'] at hx163_0)
                            (try rw [show ((0 : Int)).toNat = 0 from rfl] at hx163_1)
                            (try rw [show 0 * 3 = 0 from rfl] at hx163_1)
                            (try rw [Addr.add_zero'] at hx163_1)
                            (try rw [show ((0 : Int)).toNat = 0 from rfl] at hx163_2)
                            (try rw [show 0 * 3 = 0 from rfl] at hx163_2)
                            (try rw [Addr.add_zero'] at hx163_2)
                            replace p163 := eq_true p163
                            replace q163 := eq_true q163
                            have p164 : 0 ≤ (0 : Int) := (by omega)
                            have q164 : 0 < (x1_2.length : Int) := of_decide_eq_true (by first | (with_reducible assumption) | assumption)
                            obtain ⟨ad164, e164, hx164_0, hx164_1, hx164_2⟩ := at_T48 (Kd.V_reads' HO_1.out).2.2 0 p164 q164
                            cases e164
                            have qi164 : (0 < x1_2.length) = True := eq_true (by omega)
                            (try rw [show ((0 : Int)).toNat = 0 from rfl] at hx164_0)
                            (try rw [show 0 * 3 = 0 from rfl] at hx164_0)
                            (try rw [Addr.add_zero'] at hx164_0)
                            (try rw [show ((0 : Int)).toNat = 0 from rfl] at hx164_1)
                            (try rw [show 0 * 3 = 0 from rfl] at hx164_1)
                            (try rw [Addr.add_zero'] at hx164_1)
                            (try rw [show ((0 : Int)).toNat = 0 from rfl] at hx164_2)
                            (try rw [show 0 * 3 = 0 from rfl] at hx164_2)
                            (try rw [Addr.add_zero'] at hx164_2)
                            replace p164 := eq_true p164
                            replace q164 := eq_true q164
                            refine start_ (n := 18) (S := fun w' => w'.cell? ad163 = some (.int .i64 ((rd_T48 x0_2 0).f0)) ∧ w'.cell? ⟨ad163.block, ad163.off + 1, none⟩ = some (.int .i64 ((rd_T48 x0_2 0).f1)) ∧ w'.cell? ⟨ad163.block, ad163.off + 2, none⟩ = some (.int .i64 ((rd_T48 x0_2 0).f2)) ∧ w'.cell? ad164 = some (.int .i64 ((rd_T48 x1_2 0).f0)) ∧ w'.cell? ⟨ad164.block, ad164.off + 1, none⟩ = some (.int .i64 ((rd_T48 x1_2 0).f1)) ∧ w'.cell? ⟨ad164.block, ad164.off + 2, none⟩ = some (.int .i64 ((rd_T48 x1_2 0).f2))) (ds := []) #[false, false, false, false, false, false, false, false, false, false, false, false, false, false, false, false, false, false] (by kernel_rfl) rfl rfl ⟨hx163_0, hx163_1, hx163_2, hx164_0, hx164_1, hx164_2⟩ (fun hHeld => ?_); refine with_tabW impl_MergeStamped.tab15 impl_MergeStamped.bits15 (fun HT_ HW_ => ?_)
                            generalize wc.drew = w35 at HO_0 HO_1 HO_9 HB hx163_0 hx163_1 hx163_2 hx164_0 hx164_1 hx164_2 hHeld ⊢
                            refine pure_ (i := 0) (N := some 58) (v := ?_) (a' := ?_) #[true, false, false, false, false, false, false, false, false, false, false, false, false, false, false, false, false, false] rfl rfl (any_of HT_.out (by kernel_rfl)) (fun _ _ _ h => h) (Or.inl ⟨by rfl, ?_⟩) ?_ ?_
                            rotate_left
                            · intro w'
                              go_simp
                              with_reducible rfl
                            rotate_left
                            · simp only [Act.put, List.setIfInBounds_toArray, List.set_cons_zero, List.set_cons_succ, i64_w, i32_w]
                              rfl
                            refine pure_ (i := 1) (N := some 59) (v := ?_) (a' := ?_) #[true, true, false, false, false, false, false, false, false, false, false, false, false, false, false, false, false, false] rfl rfl (any_of HT_.out (by kernel_rfl)) (fun _ _ _ h => h) (Or.inl ⟨by rfl, ?_⟩) ?_ ?_
                            rotate_left
                            · intro w'
                              go_simp
                              with_reducible rfl
                            rotate_left
                            · simp only [Act.put, List.setIfInBounds_toArray, List.set_cons_zero, List.set_cons_succ, i64_w, i32_w]
                              rfl
                            refine pure_ (i := 2) (N := some 60) (v := ?_) (a' := ?_) #[true, true, true, false, false, false, false, false, false, false, false, false, false, false, false, false, false, false] rfl rfl (any_of HT_.out (by kernel_rfl)) (fun _ _ _ h => h) (Or.inl ⟨by rfl, ?_⟩) ?_ ?_
                            rotate_left
                            · intro w'
                              go_simp
                              with_reducible rfl
                            rotate_left
                            · simp only [Act.put, List.setIfInBounds_toArray, List.set_cons_zero, List.set_cons_succ, i64_w, i32_w]
                              rfl
                            refine pure_ (i := 3) (N := some 61) (v := ?_) (a' := ?_) #[true, true, true, true, false, false, false, false, false, false, false, false, false, false, false, false, false, false] rfl rfl (any_of HT_.out (by kernel_rfl)) (fun _ _ _ h => h) (Or.inl ⟨by rfl, ?_⟩) ?_ ?_
                            rotate_left
                            · intro w'
                              go_simp
                              with_reducible rfl
                            rotate_left
                            · simp only [Act.put, List.setIfInBounds_toArray, List.set_cons_zero, List.set_cons_succ, i64_w, i32_w]
                              rfl
                            refine pure_ (i := 4) (N := some 62) (v := ?_) (a' := ?_) #[true, true, true, true, true, false, false, false, false, false, false, false, false, false, false, false, false, false] rfl rfl (any_of HT_.out (by kernel_rfl)) (fun _ _ _ h => h) (Or.inl ⟨by rfl, ?_⟩) ?_ ?_
                            rotate_left
                            · intro w'
                              go_simp
                              with_reducible rfl
                            rotate_left
                            · simp only [Act.put, List.setIfInBounds_toArray, List.set_cons_zero, List.set_cons_succ, i64_w, i32_w]
                              rfl
                            refine pure_ (i := 5) (N := some 63) (v := ?_) (a' := ?_) #[true, true, true, true, true, true, false, false, false, false, false, false, false, false, false, false, false, false] rfl rfl (any_of HT_.out (by kernel_rfl)) (fun _ _ _ h => h) (Or.inl ⟨by rfl, ?_⟩) ?_ ?_
                            rotate_left
                            · intro w'
                              go_simp
                              with_reducible rfl
                            rotate_left
                            · simp only [Act.put, List.setIfInBounds_toArray, List.set_cons_zero, List.set_cons_succ, i64_w, i32_w]
                              rfl
                            refine pure_ (i := 6) (N := some 64) (v := ?_) (a' := ?_) #[true, true, true, true, true, true, true, false, false, false, false, false, false, false, false, false, false, false] rfl rfl (any_of HT_.out (by kernel_rfl)) (fun _ _ _ h => h) (Or.inl ⟨by rfl, ?_⟩) ?_ ?_
                            rotate_left
                            · intro w'
                              go_simp
                              with_reducible rfl
                            rotate_left
                            · simp only [Act.put, List.setIfInBounds_toArray, List.set_cons_zero, List.set_cons_succ, i64_w, i32_w]
                              rfl
                            refine pure_ (i := 7) (N := some 65) (v := ?_) (a' := ?_) #[true, true, true, true, true, true, true, true, false, false, false, false, false, false, false, false, false, false] rfl rfl (any_of HT_.out (by kernel_rfl)) (fun _ _ _ h => h) (Or.inl ⟨by rfl, ?_⟩) ?_ ?_
                            rotate_left
                            · intro w'
                              go_simp
                              with_reducible rfl
                            rotate_left
                            · simp only [Act.put, List.setIfInBounds_toArray, List.set_cons_zero, List.set_cons_succ, i64_w, i32_w]
                              rfl
                            refine pure_ (i := 8) (N := some 66) (v := ?_) (a' := ?_) #[true, true, true, true, true, true, true, true, true, false, false, false, false, false, false, false, false, false] rfl rfl (any_of HT_.out (by kernel_rfl)) (fun _ _ _ h => h) (Or.inl ⟨by rfl, ?_⟩) ?_ ?_
                            rotate_left
                            · intro w'
                              go_simp
                              with_reducible rfl
                            rotate_left
                            · simp only [Act.put, List.setIfInBounds_toArray, List.set_cons_zero, List.set_cons_succ, i64_w, i32_w]
                              rfl
                            refine pure_ (i := 9) (N := some 67) (v := ?_) (a' := ?_) #[true, true, true, true, true, true, true, true, true, true, false, false, false, false, false, false, false, false] rfl rfl (any_of HT_.out (by kernel_rfl)) (fun _ _ _ h => h) (Or.inl ⟨by rfl, ?_⟩) ?_ ?_
                            rotate_left
                            · intro w'
                              go_simp
                              with_reducible rfl
                            rotate_left
                            · simp only [Act.put, List.setIfInBounds_toArray, List.set_cons_zero, List.set_cons_succ, i64_w, i32_w]
                              rfl
                            refine pure_ (i := 11) (N := some 69) (v := ?_) (a' := ?_) #[true, true, true, true, true, true, true, true, true, true, false, true, false, false, false, false, false, false] rfl rfl (any_of HT_.out (by kernel_rfl)) (fun _ _ _ h => h) (Or.inl ⟨by rfl, ?_⟩) ?_ ?_
                            rotate_left
                            · intro w'
                              go_simp
                              with_reducible rfl
                            rotate_left
                            · simp only [Act.put, List.setIfInBounds_toArray, List.set_cons_zero, List.set_cons_succ, i64_w, i32_w]
                              rfl
                            refine pure_ (i := 12) (N := some 70) (v := ?_) (a' := ?_) #[true, true, true, true, true, true, true, true, true, true, false, true, true, false, false, false, false, false] rfl rfl (any_of HT_.out (by kernel_rfl)) (fun _ _ _ h => h) (Or.inl ⟨by rfl, ?_⟩) ?_ ?_
                            rotate_left
                            · intro w'
                              go_simp
                              with_reducible rfl
                            rotate_left
                            · simp only [Act.put, List.setIfInBounds_toArray, List.set_cons_zero, List.set_cons_succ, i64_w, i32_w]
                              rfl
                            refine take_ (i := 10) (N := some 68) (v := ?_) (a' := ?_) #[true, true, true, true, true, true, true, true, true, true, true, true, true, false, false, false, false, false] rfl rfl (take_ofW HT_.out HW_.out (by kernel_rfl)) (fun _ _ _ h => h) (Or.inl ⟨by rfl, ?_⟩) hHeld ?_ ?_
                            rotate_left
                            · rintro w' ⟨s0, s1, s2, s3, s4, s5⟩
                              go_simp
                              with_reducible rfl
                            rotate_left
                            · simp only [Act.put, List.setIfInBounds_toArray, List.set_cons_zero, List.set_cons_succ, i64_w, i32_w]
                              rfl
                            refine take_ (i := 13) (N := some 71) (v := ?_) (a' := ?_) #[true, true, true, true, true, true, true, true, true, true, true, true, true, true, false, false, false, false] rfl rfl (take_ofW HT_.out HW_.out (by kernel_rfl)) (fun _ _ _ h => h) (Or.inl ⟨by rfl, ?_⟩) hHeld ?_ ?_
                            rotate_left
                            · rintro w' ⟨s0, s1, s2, s3, s4, s5⟩
                              go_simp
                              with_reducible rfl
                            rotate_left
                            · simp only [Act.put, List.setIfInBounds_toArray, List.set_cons_zero, List.set_cons_succ, i64_w, i32_w]
                              rfl
                            refine one_ (i := 14) (N := some 72) #[true, true, true, true, true, true, true, true, true, true, true, true, true, true, true, false, false, false] rfl rfl (one_of HT_.out (by kernel_rfl)) (by decide) (fun K hK => ?_)
                            refine goes_ Try.func55 (by kernel_rfl) rfl #[.agg #[.int .i64 ((rd_T48 x0_2 0).f0), .int .i64 ((rd_T48 x0_2 0).f1), .int .i64 ((rd_T48 x0_2 0).f2)], .agg #[.int .i64 ((rd_T48 x1_2 0).f0), .int .i64 ((rd_T48 x1_2 0).f1), .int .i64 ((rd_T48 x1_2 0).f2)]] (by rfl) rfl rfl (by (try simp only [List.map_toArray, List.map_cons, List.map_nil]); first | done | rfl | (simp only [List.length_drop, List.length_take]; rfl)) ?_
                            with_reducible refine (impl_before.calls ((rd_T48 x0_2 0).f0) ((rd_T48 x0_2 0).f1) ((rd_T48 x0_2 0).f2) ((rd_T48 x1_2 0).f0) ((rd_T48 x1_2 0).f1) ((rd_T48 x1_2 0).f2) t165 _ A34.out).mono ?_
                            rintro e w38 ⟨rfl, hb⟩
                            have HS0_ := (hb.cell (World.block_lt_of_cell? _ _ (hHeld.1))).trans (hHeld.1)
                            have HS1_ := (hb.cell (World.block_lt_of_cell? _ _ (hHeld.2.1))).trans (hHeld.2.1)
                            have HS2_ := (hb.cell (World.block_lt_of_cell? _ _ (hHeld.2.2.1))).trans (hHeld.2.2.1)
                            have HS3_ := (hb.cell (World.block_lt_of_cell? _ _ (hHeld.2.2.2.1))).trans (hHeld.2.2.2.1)
                            have HS4_ := (hb.cell (World.block_lt_of_cell? _ _ (hHeld.2.2.2.2.1))).trans (hHeld.2.2.2.2.1)
                            have HS5_ := (hb.cell (World.block_lt_of_cell? _ _ (hHeld.2.2.2.2.2))).trans (hHeld.2.2.2.2.2)
                            refine ⟨_, rfl, ?_⟩
                            have n0_ := Aside0.mk (Kd.V_below (by (with_reducible repeat (first | apply Kd.V_alloc | apply Kd.V_drewN | apply Kd.V_drew)); exact HO_0.out) hb)
                            have n1_ := Aside0.mk (Kd.V_below (by (with_reducible repeat (first | apply Kd.V_alloc | apply Kd.V_drewN | apply Kd.V_drew)); exact HO_1.out) hb)
                            have n2_ := Aside0.mk (Kd.R_below (by (with_reducible repeat (first | apply Kd.R_alloc | apply Kd.R_drewN | apply Kd.R_drew)); exact HO_9.out) hb)
                            have n3_ := Aside0.mk (below_step (by repeat (first | (with_reducible first | exact HB.out | apply below_alloc | apply pw_below_drewN | apply below_drew1) | exact HB.out)) hb)
                            clear HO_0
                            clear HO_1
                            clear HO_9
                            clear HB
                            have HO_0 := n0_
                            have HO_1 := n1_
                            have HO_9 := n2_
                            have HB := n3_
                            clear n0_ n1_ n2_ n3_
                            (try clear hb)
                            (try clear hb2)
                            (try clear hk)
                            (try clear hi)
                            refine hK.out _ _ ⟨HS0_, HS1_, HS2_, HS3_, HS4_, HS5_⟩ (fun hHeld => ?_)
                            clear hK K
                            refine norm_ (a' := ?_) ?_ ?_
                            rotate_left
                            · show Act.put _ (some 72) _ = _
                              simp only [Act.put, List.setIfInBounds_toArray, List.set_cons_zero, List.set_cons_succ, i64_w, i32_w]
                              rfl
                            refine pure_ (i := 15) (N := some 73) (v := ?_) (a' := ?_) #[true, true, true, true, true, true, true, true, true, true, true, true, true, true, true, true, false, false] rfl rfl (any_of HT_.out (by kernel_rfl)) (fun _ _ _ h => h) (Or.inl ⟨by rfl, ?_⟩) ?_ ?_
                            rotate_left
                            · intro w'
                              go_simp
                              with_reducible rfl
                            rotate_left
                            · simp only [Act.put, List.setIfInBounds_toArray, List.set_cons_zero, List.set_cons_succ, i64_w, i32_w]
                              rfl
                            refine pure_ (i := 16) (N := some 74) (v := ?_) (a' := ?_) #[true, true, true, true, true, true, true, true, true, true, true, true, true, true, true, true, true, false] rfl rfl (any_of HT_.out (by kernel_rfl)) (fun _ _ _ h => h) (Or.inl ⟨by rfl, ?_⟩) ?_ ?_
                            rotate_left
                            · intro w'
                              go_simp
                              with_reducible rfl
                            rotate_left
                            · simp only [Act.put, List.setIfInBounds_toArray, List.set_cons_zero, List.set_cons_succ, i64_w, i32_w]
                              rfl
                            refine pure_ (i := 17) (N := some 57) (v := ?_) (a' := ?_) #[true, true, true, true, true, true, true, true, true, true, true, true, true, true, true, true, true, true] rfl rfl (any_of HT_.out (by kernel_rfl)) (fun _ _ _ h => h) (Or.inl ⟨by rfl, ?_⟩) ?_ ?_
                            rotate_left
                            · intro w'
                              go_simp
                              with_reducible rfl
                            rotate_left
                            · simp only [Act.put, List.setIfInBounds_toArray, List.set_cons_zero, List.set_cons_succ, i64_w, i32_w]
                              rfl
                            refine done_ (done_of HT_.out (by kernel_rfl)) ?_
                            try go_wp2
                            go_meet
                            case rel => exact ⟨_, (t165), (by first | rfl | (simp; done) | (simp [*]; done)), H', ⟨by have := HK1.out; have := HK2.out; have := HJ20.out; first | omega | exact Nat.le_refl _⟩, ⟨by (with_reducible repeat (first | apply Kd.V_alloc | apply Kd.V_drewN | apply Kd.V_drew)); exact HO_0.out⟩, ⟨by (with_reducible repeat (first | apply Kd.V_alloc | apply Kd.V_drewN | apply Kd.V_drew)); exact HO_1.out⟩, ⟨by (with_reducible repeat (first | apply Kd.R_alloc | apply Kd.R_drewN | apply Kd.R_drew)); exact HO_9.out⟩, ⟨by repeat (first | (with_reducible first | exact HB.out | apply below_alloc | apply pw_below_drewN | apply below_drew1) | exact HB.out)⟩⟩
                          · rw [if_neg c33] at H
                            exact absurd H (by simp)
                        · rw [if_neg c32] at H
                          exact absurd H (by simp)
                      · rw [if_neg c31] at H
                        have c31b0 : decide (0 < (x0_2.length : Int)) = false := decide_eq_false c31
                        have c31b1 : decide (0 < x0_2.length) = false := decide_eq_false (by omega)
                        clear c31
                        have H' := Aside0.mk H
                        clear H
                        try go_wp2
                        have n0_ := Aside0.mk (Kd.V_drew HO_0.out)
                        have n1_ := Aside0.mk (Kd.V_drew HO_1.out)
                        have n2_ := Aside0.mk (Kd.R_drew HO_9.out)
                        have n3_ := Aside0.mk (below_drew1 HB.out)
                        clear HO_0
                        clear HO_1
                        clear HO_9
                        clear HB
                        have HO_0 := n0_
                        have HO_1 := n1_
                        have HO_9 := n2_
                        have HB := n3_
                        clear n0_ n1_ n2_ n3_
                        obtain ⟨Ao40, co40, eo40⟩ := Kd.V_slice HO_1.out
                        (first | subst eo40 | (injection eo40 with f1_ f2_ f3_; have f4_ := f1_.symm; have f5_ := f3_.symm; clear f1_ f2_ f3_; subst f4_; subst f5_))
                        obtain ⟨Ao41, co41, eo41⟩ := Kd.V_slice HO_0.out
                        (first | subst eo41 | (injection eo41 with f1_ f2_ f3_; have f4_ := f1_.symm; have f5_ := f3_.symm; clear f1_ f2_ f3_; subst f4_; subst f5_))
                        refine start_ (n := 18) (S := fun w' => True) (ds := []) #[false, false, false, false, false, false, false, false, false, false, false, false, false, false, false, false, false, false] (by kernel_rfl) rfl rfl trivial (fun hHeld => ?_); refine with_tabW impl_MergeStamped.tab15 impl_MergeStamped.bits15 (fun HT_ HW_ => ?_)
                        generalize wc.drew = w39 at HO_0 HO_1 HO_9 HB hHeld ⊢
                        refine pure_ (i := 0) (N := some 58) (v := ?_) (a' := ?_) #[true, false, false, false, false, false, false, false, false, false, false, false, false, false, false, false, false, false] rfl rfl (any_of HT_.out (by kernel_rfl)) (fun _ _ _ h => h) (Or.inl ⟨by rfl, ?_⟩) ?_ ?_
                        rotate_left
                        · intro w'
                          go_simp
                          with_reducible rfl
                        rotate_left
                        · simp only [Act.put, List.setIfInBounds_toArray, List.set_cons_zero, List.set_cons_succ, i64_w, i32_w]
                          rfl
                        refine pure_ (i := 1) (N := some 59) (v := ?_) (a' := ?_) #[true, true, false, false, false, false, false, false, false, false, false, false, false, false, false, false, false, false] rfl rfl (any_of HT_.out (by kernel_rfl)) (fun _ _ _ h => h) (Or.inl ⟨by rfl, ?_⟩) ?_ ?_
                        rotate_left
                        · intro w'
                          go_simp
                          with_reducible rfl
                        rotate_left
                        · simp only [Act.put, List.setIfInBounds_toArray, List.set_cons_zero, List.set_cons_succ, i64_w, i32_w]
                          rfl
                        refine pure_ (i := 2) (N := some 60) (v := ?_) (a' := ?_) #[true, true, true, false, false, false, false, false, false, false, false, false, false, false, false, false, false, false] rfl rfl (any_of HT_.out (by kernel_rfl)) (fun _ _ _ h => h) (Or.inl ⟨by rfl, ?_⟩) ?_ ?_
                        rotate_left
                        · intro w'
                          go_simp
                          with_reducible rfl
                        rotate_left
                        · simp only [Act.put, List.setIfInBounds_toArray, List.set_cons_zero, List.set_cons_succ, i64_w, i32_w]
                          rfl
                        refine pure_ (i := 3) (N := some 61) (v := ?_) (a' := ?_) #[true, true, true, true, false, false, false, false, false, false, false, false, false, false, false, false, false, false] rfl rfl (any_of HT_.out (by kernel_rfl)) (fun _ _ _ h => h) (Or.inl ⟨by rfl, ?_⟩) ?_ ?_
                        rotate_left
                        · intro w'
                          go_simp
                          with_reducible rfl
                        rotate_left
                        · simp only [Act.put, List.setIfInBounds_toArray, List.set_cons_zero, List.set_cons_succ, i64_w, i32_w]
                          rfl
                        refine pure_ (i := 4) (N := some 62) (v := ?_) (a' := ?_) #[true, true, true, true, true, false, false, false, false, false, false, false, false, false, false, false, false, false] rfl rfl (any_of HT_.out (by kernel_rfl)) (fun _ _ _ h => h) (Or.inl ⟨by rfl, ?_⟩) ?_ ?_
                        rotate_left
                        · intro w'
                          go_simp
                          with_reducible rfl
                        rotate_left
                        · simp only [Act.put, List.setIfInBounds_toArray, List.set_cons_zero, List.set_cons_succ, i64_w, i32_w]
                          rfl
                        refine pure_ (i := 5) (N := some 63) (v := ?_) (a' := ?_) #[true, true, true, true, true, true, false, false, false, false, false, false, false, false, false, false, false, false] rfl rfl (any_of HT_.out (by kernel_rfl)) (fun _ _ _ h => h) (Or.inl ⟨by rfl, ?_⟩) ?_ ?_
                        rotate_left
                        · intro w'
                          go_simp
                          with_reducible rfl
                        rotate_left
                        · simp only [Act.put, List.setIfInBounds_toArray, List.set_cons_zero, List.set_cons_succ, i64_w, i32_w]
                          rfl
                        refine pure_ (i := 6) (N := some 64) (v := ?_) (a' := ?_) #[true, true, true, true, true, true, true, false, false, false, false, false, false, false, false, false, false, false] rfl rfl (any_of HT_.out (by kernel_rfl)) (fun _ _ _ h => h) (Or.inl ⟨by rfl, ?_⟩) ?_ ?_
                        rotate_left
                        · intro w'
                          go_simp
                          with_reducible rfl
                        rotate_left
                        · simp only [Act.put, List.setIfInBounds_toArray, List.set_cons_zero, List.set_cons_succ, i64_w, i32_w]
                          rfl
                        refine pure_ (i := 7) (N := some 65) (v := ?_) (a' := ?_) #[true, true, true, true, true, true, true, true, false, false, false, false, false, false, false, false, false, false] rfl rfl (any_of HT_.out (by kernel_rfl)) (fun _ _ _ h => h) (Or.inl ⟨by rfl, ?_⟩) ?_ ?_
                        rotate_left
                        · intro w'
                          go_simp
                          with_reducible rfl
                        rotate_left
                        · simp only [Act.put, List.setIfInBounds_toArray, List.set_cons_zero, List.set_cons_succ, i64_w, i32_w]
                          rfl
                        refine pure_ (i := 8) (N := some 66) (v := undef) (a' := ?_) #[true, true, true, true, true, true, true, true, true, false, false, false, false, false, false, false, false, false] rfl rfl (any_of HT_.out (by kernel_rfl)) (fun _ _ _ h => h) (Or.inr ⟨by rfl, rfl⟩) ?_ ?_
                        rotate_left
                        · simp only [Act.put, List.setIfInBounds_toArray, List.set_cons_zero, List.set_cons_succ, i64_w, i32_w]
                          rfl
                        refine pure_ (i := 9) (N := some 67) (v := undef) (a' := ?_) #[true, true, true, true, true, true, true, true, true, true, false, false, false, false, false, false, false, false] rfl rfl (any_of HT_.out (by kernel_rfl)) (fun _ _ _ h => h) (Or.inr ⟨by rfl, rfl⟩) ?_ ?_
                        rotate_left
                        · simp only [Act.put, List.setIfInBounds_toArray, List.set_cons_zero, List.set_cons_succ, i64_w, i32_w]
                          rfl
                        refine pure_ (i := 10) (N := some 68) (v := undef) (a' := ?_) #[true, true, true, true, true, true, true, true, true, true, true, false, false, false, false, false, false, false] rfl rfl (any_of HT_.out (by kernel_rfl)) (fun _ _ _ h => h) (Or.inr ⟨by rfl, rfl⟩) ?_ ?_
                        rotate_left
                        · simp only [Act.put, List.setIfInBounds_toArray, List.set_cons_zero, List.set_cons_succ, i64_w, i32_w]
                          rfl
                        refine pure_ (i := 11) (N := some 69) (v := undef) (a' := ?_) #[true, true, true, true, true, true, true, true, true, true, true, true, false, false, false, false, false, false] rfl rfl (any_of HT_.out (by kernel_rfl)) (fun _ _ _ h => h) (Or.inr ⟨by rfl, rfl⟩) ?_ ?_
                        rotate_left
                        · simp only [Act.put, List.setIfInBounds_toArray, List.set_cons_zero, List.set_cons_succ, i64_w, i32_w]
                          rfl
                        refine pure_ (i := 12) (N := some 70) (v := undef) (a' := ?_) #[true, true, true, true, true, true, true, true, true, true, true, true, true, false, false, false, false, false] rfl rfl (any_of HT_.out (by kernel_rfl)) (fun _ _ _ h => h) (Or.inr ⟨by rfl, rfl⟩) ?_ ?_
                        rotate_left
                        · simp only [Act.put, List.setIfInBounds_toArray, List.set_cons_zero, List.set_cons_succ, i64_w, i32_w]
                          rfl
                        refine pure_ (i := 13) (N := some 71) (v := undef) (a' := ?_) #[true, true, true, true, true, true, true, true, true, true, true, true, true, true, false, false, false, false] rfl rfl (any_of HT_.out (by kernel_rfl)) (fun _ _ _ h => h) (Or.inr ⟨by rfl, rfl⟩) ?_ ?_
                        rotate_left
                        · simp only [Act.put, List.setIfInBounds_toArray, List.set_cons_zero, List.set_cons_succ, i64_w, i32_w]
                          rfl
                        refine pure_ (i := 14) (N := some 72) (v := undef) (a' := ?_) #[true, true, true, true, true, true, true, true, true, true, true, true, true, true, true, false, false, false] rfl rfl (any_of HT_.out (by kernel_rfl)) (fun _ _ _ h => h) (Or.inr ⟨by rfl, rfl⟩) ?_ ?_
                        rotate_left
                        · simp only [Act.put, List.setIfInBounds_toArray, List.set_cons_zero, List.set_cons_succ, i64_w, i32_w]
                          rfl
                        refine pure_ (i := 15) (N := some 73) (v := ?_) (a' := ?_) #[true, true, true, true, true, true, true, true, true, true, true, true, true, true, true, true, false, false] rfl rfl (any_of HT_.out (by kernel_rfl)) (fun _ _ _ h => h) (Or.inl ⟨by rfl, ?_⟩) ?_ ?_
                        rotate_left
                        · intro w'
                          go_simp
                          with_reducible rfl
                        rotate_left
                        · simp only [Act.put, List.setIfInBounds_toArray, List.set_cons_zero, List.set_cons_succ, i64_w, i32_w]
                          rfl
                        refine pure_ (i := 16) (N := some 74) (v := ?_) (a' := ?_) #[true, true, true, true, true, true, true, true, true, true, true, true, true, true, true, true, true, false] rfl rfl (any_of HT_.out (by kernel_rfl)) (fun _ _ _ h => h) (Or.inl ⟨by rfl, ?_⟩) ?_ ?_
                        rotate_left
                        · intro w'
                          go_simp
                          with_reducible rfl
                        rotate_left
                        · simp only [Act.put, List.setIfInBounds_toArray, List.set_cons_zero, List.set_cons_succ, i64_w, i32_w]
                          rfl
                        refine pure_ (i := 17) (N := some 57) (v := ?_) (a' := ?_) #[true, true, true, true, true, true, true, true, true, true, true, true, true, true, true, true, true, true] rfl rfl (any_of HT_.out (by kernel_rfl)) (fun _ _ _ h => h) (Or.inl ⟨by rfl, ?_⟩) ?_ ?_
                        rotate_left
                        · intro w'
                          go_simp
                          with_reducible rfl
                        rotate_left
                        · simp only [Act.put, List.setIfInBounds_toArray, List.set_cons_zero, List.set_cons_succ, i64_w, i32_w]
                          rfl
                        refine done_ (done_of HT_.out (by kernel_rfl)) ?_
                        try go_wp2
                        go_meet
                        case rel => exact ⟨_, (false), (by first | rfl | (simp; done) | (simp [*]; done)), H', ⟨by have := HK1.out; have := HK2.out; have := HJ20.out; first | omega | exact Nat.le_refl _⟩, ⟨by (with_reducible repeat (first | apply Kd.V_alloc | apply Kd.V_drewN | apply Kd.V_drew)); exact HO_0.out⟩, ⟨by (with_reducible repeat (first | apply Kd.V_alloc | apply Kd.V_drewN | apply Kd.V_drew)); exact HO_1.out⟩, ⟨by (with_reducible repeat (first | apply Kd.R_alloc | apply Kd.R_drewN | apply Kd.R_drew)); exact HO_9.out⟩, ⟨by repeat (first | (with_reducible first | exact HB.out | apply below_alloc | apply pw_below_drewN | apply below_drew1) | exact HB.out)⟩⟩
                  case rest =>
                    clear HC27
                    try clear c1
                    try clear p1
                    try clear q1
                    try clear hx1
                    try clear qi1
                    try clear c2
                    try clear p2
                    try clear c3
                    try clear c5
                    try clear p6
                    try clear c7
                    try clear c7b0
                    try clear c8
                    try clear c8b0
                    try clear c9
                    try clear c9b0
                    try clear c9b1
                    try clear c10
                    try clear c10b0
                    try clear c12
                    try clear c12b0
                    try clear c13
                    try clear c13b0
                    try clear c14
                    try clear c14b0
                    try clear c15
                    try clear p15
                    try clear q15
                    try clear hx15
                    try clear c16
                    try clear p16
                    try clear q16
                    try clear hx16
                    try clear qi16
                    try clear c22
                    try clear c22b0
                    try clear c22b1
                    try clear c26
                    try clear c28
                    try clear c28b0
                    try clear c28b1
                    try clear c28b2
                    try clear c31
                    try clear c31b0
                    try clear c31b1
                    try clear c32
                    try clear c32b0
                    try clear c32b1
                    try clear c33
                    try clear c33b0
                    try clear c33b1
                    try clear hx159_0
                    try clear hx160_0
                    try clear hx160_1
                    try clear hx160_2
                    try clear hx161_0
                    try clear hx161_1
                    try clear hx161_2
                    try clear hx163_0
                    try clear hx163_1
                    try clear hx163_2
                    try clear hx164_0
                    try clear hx164_1
                    try clear hx164_2
                    try clear p1
                    try clear p15
                    try clear p159
                    try clear p16
                    try clear p160
                    try clear p161
                    try clear p163
                    try clear p164
                    try clear p2
                    try clear p6
                    try clear q1
                    try clear q15
                    try clear q159
                    try clear q16
                    try clear q160
                    try clear q161
                    try clear q163
                    try clear q164
                    obtain ⟨kq, x57_26, rfl, HA, HJ26, HO_0, HO_1, HO_9, HB⟩ := hcut
                    cases kq with
                    | zero => exact absurd HA.out (by simp [impl_MergeStamped.j4])
                    | succ kj26 =>
                      have H := HA.out
                      clear HA
                      simp only [impl_MergeStamped.j4] at H
                      by_cases c42 : x57_26 = true
                      · subst c42
                        have H1 : (if 0 < (x0_2.length : Int) then (if x9_2.length < 5864062014805 then (if 1 ≤ (x0_2.length : Int) then (impl_MergeStamped.l2 kj26 (x0_2.drop 1) x1_2 (x9_2 ++ [(⟨(rd_T48 x0_2 0).f0, (rd_T48 x0_2 0).f1, (rd_T48 x0_2 0).f2⟩ : S48)])) else (none)) else (none)) else (none)) = some (r1, r2) := by rw [if_pos rfl] at H; exact H
                        clear H
                        have H := H1
                        clear H1
                        by_cases c43 : 0 < (x0_2.length : Int)
                        · rw [if_pos c43] at H
                          have c43b0 : decide (0 < (x0_2.length : Int)) = true := decide_eq_true c43
                          have c43b1 : decide (0 < x0_2.length) = true := decide_eq_true (by omega)
                          clear c43
                          by_cases c44 : x9_2.length < 5864062014805
                          · rw [if_pos c44] at H
                            have LMc44 := Aside0.mk c44
                            clear c44
                            obtain ⟨y167, hy167⟩ : ∃ y_ : List (S48), y_ = (x9_2 ++ [(⟨(rd_T48 x0_2 0).f0, (rd_T48 x0_2 0).f1, (rd_T48 x0_2 0).f2⟩ : S48)]) := ⟨_, rfl⟩
                            replace H : (if 1 ≤ (x0_2.length : Int) then (impl_MergeStamped.l2 kj26 (x0_2.drop 1) x1_2 y167) else (none)) = some (r1, r2) := by first | (rw [hy167]; with_reducible exact H) | (have H2_ := (Option.bind_some _ _).symm.trans H; rw [hy167]; with_reducible exact H2_) | (have H2_ := (Option.bind_some _ _).symm.trans H; with_reducible exact H2_) | with_reducible exact H | (rw [hy167]; exact H) | exact H
                            have Ny167 := Aside0.mk hy167
                            clear hy167
                            by_cases c45 : 1 ≤ (x0_2.length : Int)
                            · rw [if_pos c45] at H
                              have c45b0 := eq_true c45
                              have c45b1 : decide (1 ≤ (x0_2.length : Int)) = true := decide_eq_true c45
                              clear c45
                              obtain ⟨y170, hy170⟩ : ∃ y_ : List (S48), y_ = (x0_2.drop 1) := ⟨_, rfl⟩
                              replace H : (impl_MergeStamped.l2 kj26 y170 x1_2 y167) = some (r1, r2) := by first | (rw [hy170]; with_reducible exact H) | (have H2_ := (Option.bind_some _ _).symm.trans H; rw [hy170]; with_reducible exact H2_) | (have H2_ := (Option.bind_some _ _).symm.trans H; with_reducible exact H2_) | with_reducible exact H | (rw [hy170]; exact H) | exact H
                              have Ny170 := Aside0.mk hy170
                              clear hy170
                              have H' := Aside0.mk H
                              clear H
                              try go_wp2
                              have n0_ := Aside0.mk (Kd.V_drew HO_0.out)
                              have n1_ := Aside0.mk (Kd.V_drew HO_1.out)
                              have n2_ := Aside0.mk (Kd.R_drew HO_9.out)
                              have n3_ := Aside0.mk (below_drew1 HB.out)
                              clear HO_0
                              clear HO_1
                              clear HO_9
                              clear HB
                              have HO_0 := n0_
                              have HO_1 := n1_
                              have HO_9 := n2_
                              have HB := n3_
                              clear n0_ n1_ n2_ n3_
                              obtain ⟨Ao47, co47, eo47⟩ := Kd.V_slice HO_0.out
                              (first | subst eo47 | (injection eo47 with f1_ f2_ f3_; have f4_ := f1_.symm; have f5_ := f3_.symm; clear f1_ f2_ f3_; subst f4_; subst f5_))
                              have p166 : 0 ≤ (0 : Int) := (by omega)
                              have q166 : 0 < (x0_2.length : Int) := of_decide_eq_true (by first | (with_reducible assumption) | assumption)
                              obtain ⟨ad166, e166, hx166_0, hx166_1, hx166_2⟩ := at_T48 (Kd.V_reads' HO_0.out).2.2 0 p166 q166
                              cases e166
                              have qi166 : (0 < x0_2.length) = True := eq_true (by omega)
                              (try rw [show ((0 : Int)).toNat = 0 from rfl] at hx166_0)
                              (try rw [show 0 * 3 = 0 from rfl] at hx166_0)
                              (try rw [Addr.add_zero'] at hx166_0)
                              (try rw [show ((0 : Int)).toNat = 0 from rfl] at hx166_1)
                              (try rw [show 0 * 3 = 0 from rfl] at hx166_1)
                              (try rw [Addr.add_zero'] at hx166_1)
                              (try rw [show ((0 : Int)).toNat = 0 from rfl] at hx166_2)
                              (try rw [show 0 * 3 = 0 from rfl] at hx166_2)
                              (try rw [Addr.add_zero'] at hx166_2)
                              replace p166 := eq_true p166
                              replace q166 := eq_true q166
                              have q48 : (1 : Int) ≤ ((x0_2.length : Int) : Int) := of_decide_eq_true (by first | (with_reducible assumption) | assumption)
                              obtain ⟨i048, hi048, _, hsz48, _⟩ := info_parts info48
                              have hroom48 : x0_2.length ≤ co47 := (Kd.V_reads' HO_0.out).2.1
                              have hC48 : Kd.F k48 _ _ (some ad166) x0_2.length x0_2 := (Kd.V_at (base := w.heap.size) HO_0.out).2.2
                              have hcut48 := cut_from (P := Try.prog) 42 48 .i64 Try.underlying42 hi048 3 hsz48 (some ad166) x0_2.length co47 1 (by omega) q48
                              have hr48 := Kd.F_cut (m := (1 : Int).toNat) (c := co47) hC48 (by omega) hroom48
                              obtain ⟨A48, hA48⟩ : ∃ A1, A1 = (if co47 = (1 : Int).toNat then (some ad166) else ((some ad166) : Option Addr).map (·.add ((1 : Int).toNat * 3))) := ⟨_, rfl⟩
                              obtain ⟨c48, hc48⟩ : ∃ c1, c1 = co47 - (1 : Int).toNat := ⟨_, rfl⟩
                              have hy48 : y170.length = x0_2.length - (1 : Int).toNat := (by rw [Ny170.out, List.length_drop] <;> omega)
                              rw [show (x0_2).drop (1 : Int).toNat = y170 from Ny170.out.symm] at hr48
                              replace hr48 : Kd.F k48 _ _ A48 y170.length y170 := (by rw [hA48]; exact hr48)
                              rw [← hy48, ← hA48, ← hc48] at hcut48
                              have HO174 := Aside0.mk (show Kd.V k48 48 _ w.heap.size _ (.slice A48 y170.length c48) y170 from Kd.V_mk (by rw [hy48, hc48]; exact Nat.sub_le_sub_right hroom48 _) hr48)
                              have HC174 := Aside0.mk (show y170.length ≤ c48 from by rw [hy48, hc48]; exact Nat.sub_le_sub_right hroom48 _)
                              clear hr48 hC48 hroom48 hi048 hsz48 hc48
                              have KY48 := Aside0.mk hy48
                              have KA48 := Aside0.mk hA48
                              clear hy48 hA48
                              replace q48 := eq_true q48
                              refine start_ (n := 10) (S := fun w' => w'.cell? ad166 = some (.int .i64 ((rd_T48 x0_2 0).f0)) ∧ w'.cell? ⟨ad166.block, ad166.off + 1, none⟩ = some (.int .i64 ((rd_T48 x0_2 0).f1)) ∧ w'.cell? ⟨ad166.block, ad166.off + 2, none⟩ = some (.int .i64 ((rd_T48 x0_2 0).f2))) (ds := [4, 5]) #[false, false, false, false, false, false, false, false, false, false] (by kernel_rfl) rfl rfl ⟨hx166_0, hx166_1, hx166_2⟩ (fun hHeld => ?_); refine with_tabW impl_MergeStamped.tab16 impl_MergeStamped.bits16 (fun HT_ HW_ => ?_)
                              generalize wc.drew = w46 at HO_0 HO_1 HO_9 HB HO174 hx166_0 hx166_1 hx166_2 hHeld ⊢
                              refine pure_ (i := 0) (N := some 75) (v := ?_) (a' := ?_) #[true, false, false, false, false, false, false, false, false, false] rfl rfl (any_of HT_.out (by kernel_rfl)) (fun _ _ _ h => h) (Or.inl ⟨by rfl, ?_⟩) ?_ ?_
                              rotate_left
                              · intro w'
                                go_simp
                                with_reducible rfl
                              rotate_left
                              · simp only [Act.put, List.setIfInBounds_toArray, List.set_cons_zero, List.set_cons_succ, i64_w, i32_w]
                                rfl
                              refine pure_ (i := 1) (N := some 76) (v := ?_) (a' := ?_) #[true, true, false, false, false, false, false, false, false, false] rfl rfl (any_of HT_.out (by kernel_rfl)) (fun _ _ _ h => h) (Or.inl ⟨by rfl, ?_⟩) ?_ ?_
                              rotate_left
                              · intro w'
                                go_simp
                                with_reducible rfl
                              rotate_left
                              · simp only [Act.put, List.setIfInBounds_toArray, List.set_cons_zero, List.set_cons_succ, i64_w, i32_w]
                                rfl
                              refine pure_ (i := 2) (N := some 77) (v := ?_) (a' := ?_) #[true, true, true, false, false, false, false, false, false, false] rfl rfl (any_of HT_.out (by kernel_rfl)) (fun _ _ _ h => h) (Or.inl ⟨by rfl, ?_⟩) ?_ ?_
                              rotate_left
                              · intro w'
                                go_simp
                                with_reducible rfl
                              rotate_left
                              · simp only [Act.put, List.setIfInBounds_toArray, List.set_cons_zero, List.set_cons_succ, i64_w, i32_w]
                                rfl
                              refine pure_ (i := 6) (N := some 81) (v := ?_) (a' := ?_) #[true, true, true, false, false, false, true, false, false, false] rfl rfl (any_of HT_.out (by kernel_rfl)) (fun _ _ _ h => h) (Or.inl ⟨by rfl, ?_⟩) ?_ ?_
                              rotate_left
                              · intro w'
                                go_simp
                                with_reducible rfl
                              rotate_left
                              · simp only [Act.put, List.setIfInBounds_toArray, List.set_cons_zero, List.set_cons_succ, i64_w, i32_w]
                                rfl
                              refine pure_ (i := 7) (N := some 82) (v := ?_) (a' := ?_) #[true, true, true, false, false, false, true, true, false, false] rfl rfl (any_of HT_.out (by kernel_rfl)) (fun _ _ _ h => h) (Or.inl ⟨by rfl, ?_⟩) ?_ ?_
                              rotate_left
                              · intro w'
                                go_simp
                                with_reducible rfl
                              rotate_left
                              · simp only [Act.put, List.setIfInBounds_toArray, List.set_cons_zero, List.set_cons_succ, i64_w, i32_w]
                                rfl
                              refine take_ (i := 3) (N := some 78) (v := ?_) (a' := ?_) #[true, true, true, true, false, false, true, true, false, false] rfl rfl (take_ofW HT_.out HW_.out (by kernel_rfl)) (fun _ _ _ h => h) (Or.inl ⟨by rfl, ?_⟩) hHeld ?_ ?_
                              rotate_left
                              · rintro w' ⟨s0, s1, s2⟩
                                go_simp
                                with_reducible rfl
                              rotate_left
                              · simp only [Act.put, List.setIfInBounds_toArray, List.set_cons_zero, List.set_cons_succ, i64_w, i32_w]
                                rfl
                              refine last_ (i := 4) (N := some 79) #[true, true, true, true, true, false, true, true, false, false] rfl rfl (one_of HT_.out (by kernel_rfl)) (by decide) (fun K hK => ?_)
                              refine value_ (w1 := ?_) (v := ?_) (by rfl) rfl ?_ ?_
                              rotate_left 2
                              · go_simp
                                constructor
                                · rfl
                                · rfl
                              refine hK.out _ _ ?_
                              clear hK K
                              refine norm_ (a' := ?_) ?_ ?_
                              rotate_left
                              · show Act.put _ (some 79) _ = _
                                simp only [Act.put, List.setIfInBounds_toArray, List.set_cons_zero, List.set_cons_succ, i64_w, i32_w]
                                rfl
                              refine last_ (i := 5) (N := some 80) #[true, true, true, true, true, true, true, true, false, false] rfl rfl (one_of HT_.out (by kernel_rfl)) (by decide) (fun K hK => ?_)
                              refine Kd.R_append_step k48 (w0 := w) w.heap.size (by rfl) (.tmp 75) (.tmp 79) 42 48 (.agg #[(.int .i64 0), (.int .i64 0), (.int .i64 0)]) 24 rfl Try.underlying42 info48 rfl (by decide) (by omega) u9 x9_2 (⟨(rd_T48 x0_2 0).f0, (rd_T48 x0_2 0).f1, (rd_T48 x0_2 0).f2⟩ : S48) [.int .i64 ((rd_T48 x0_2 0).f0), .int .i64 ((rd_T48 x0_2 0).f1), .int .i64 ((rd_T48 x0_2 0).f2)] (fun k_ => (w.heap.size ≤ k_)) (fun _ => False) rfl rfl ?aP (fun _ hk => hk.elim) ?aF ?aO ?aB ?aS ?aL ?_
                              (case aP => exact k48_mkM _ _ _ (⟨(rd_T48 x0_2 0).f0, (rd_T48 x0_2 0).f1, (rd_T48 x0_2 0).f2⟩ : S48))
                              (case aB => exact (by repeat (first | (with_reducible first | exact HB.out | apply below_alloc | apply pw_below_drewN | apply below_drew1) | exact HB.out)))
                              (case aF => exact (fun k_ hk => (Nat.le_trans (below_size (by repeat (first | (with_reducible first | exact HB.out | apply below_alloc | apply pw_below_drewN | apply below_drew1) | exact HB.out))) hk)))
                              (case aO => exact (by (with_reducible repeat (first | apply Kd.R_alloc | apply Kd.R_drewN | apply Kd.R_drew)); exact HO_9.out))
                              (case aS => exact (below_size (by repeat (first | (with_reducible first | exact HB.out | apply below_alloc | apply pw_below_drewN | apply below_drew1) | exact HB.out))))
                              (case aL => have := LMc44.out; omega)
                              intro v168 w49 ho hb hg hat
                              rw [← Ny167.out] at ho
                              have n0_ := Aside0.mk (Kd.V_afterv (ok := (fun k_ => ((P0_ k_ ∨ P1_ k_) ∨ w.heap.size ≤ k_))) (by (with_reducible repeat (first | apply Kd.V_alloc | apply Kd.V_drewN | apply Kd.V_drew)); exact HO_0.out) hg hat)
                              have n1_ := Aside0.mk (Kd.V_afterv (ok := (fun k_ => ((P0_ k_ ∨ P1_ k_) ∨ w.heap.size ≤ k_))) (by (with_reducible repeat (first | apply Kd.V_alloc | apply Kd.V_drewN | apply Kd.V_drew)); exact HO_1.out) hg hat)
                              have n2_ := Aside0.mk (Kd.V_afterv (ok := (fun k_ => ((P0_ k_ ∨ P1_ k_) ∨ w.heap.size ≤ k_))) (by (with_reducible repeat (first | apply Kd.V_alloc | apply Kd.V_drewN | apply Kd.V_drew)); exact HO174.out) hg hat)
                              have n3_ := Aside0.mk (hb)
                              have n4_ := Aside0.mk (ho)
                              clear HO_0
                              clear HO_1
                              clear HO174
                              clear HB
                              clear HO_9
                              have HO_0 := n0_
                              have HO_1 := n1_
                              have HO174 := n2_
                              have HB := n3_
                              have HO169 := n4_
                              clear n0_ n1_ n2_ n3_ n4_
                              clear ho hb hg hat
                              refine hK.out _ _ ?_
                              clear hK K
                              refine norm_ (a' := ?_) ?_ ?_
                              rotate_left
                              · show Act.put _ (some 80) _ = _
                                simp only [Act.put, List.setIfInBounds_toArray, List.set_cons_zero, List.set_cons_succ, i64_w, i32_w]
                                rfl
                              refine pure_ (i := 8) (N := some 9) (v := ?_) (a' := ?_) #[true, true, true, true, true, true, true, true, true, false] rfl rfl (any_of HT_.out (by kernel_rfl)) (fun _ _ _ h => h) (Or.inl ⟨by rfl, ?_⟩) ?_ ?_
                              rotate_left
                              · intro w'
                                go_simp
                                with_reducible rfl
                              rotate_left
                              · simp only [Act.put, List.setIfInBounds_toArray, List.set_cons_zero, List.set_cons_succ, i64_w, i32_w]
                                rfl
                              refine pure_ (i := 9) (N := some 0) (v := ?_) (a' := ?_) #[true, true, true, true, true, true, true, true, true, true] rfl rfl (any_of HT_.out (by kernel_rfl)) (fun _ _ _ h => h) (Or.inl ⟨by rfl, ?_⟩) ?_ ?_
                              rotate_left
                              · intro w'
                                go_simp
                                with_reducible rfl
                              rotate_left
                              · simp only [Act.put, List.setIfInBounds_toArray, List.set_cons_zero, List.set_cons_succ, i64_w, i32_w]
                                rfl
                              refine done_ (done_of HT_.out (by kernel_rfl)) ?_
                              try go_wp2
                              go_roundg kj26
                              case measure => have := HK1.out; have := HK2.out; have := HJ20.out; have := HJ26.out; omega
                              case rel => exact ⟨(y170), (x1_2), (y167), H', ⟨by have := HK1.out; have := HK2.out; have := HJ20.out; have := HJ26.out; omega⟩, ⟨by (with_reducible repeat (first | apply Kd.V_alloc | apply Kd.V_drewN | apply Kd.V_drew)); exact HO174.out⟩, ⟨by (with_reducible repeat (first | apply Kd.V_alloc | apply Kd.V_drewN | apply Kd.V_drew)); exact HO_1.out⟩, ⟨by (with_reducible repeat (first | apply Kd.R_alloc | apply Kd.R_drewN | apply Kd.R_drew)); exact HO169.out⟩, ⟨by repeat (first | (with_reducible first | exact HB.out | apply below_alloc | apply pw_below_drewN | apply below_drew1) | exact HB.out)⟩⟩
                            · rw [if_neg c45] at H
                              exact absurd H (by simp)
                          · rw [if_neg c44] at H
                            exact absurd H (by simp)
                        · rw [if_neg c43] at H
                          exact absurd H (by simp)
                      · replace c42 := Bool.eq_false_iff.mpr c42
                        subst c42
                        have H1 : (if (x0_2.length : Int) = 0 then (impl_MergeStamped.j5 kj26 x0_2 x1_2 x9_2 true) else (if 0 < (x1_2.length : Int) then (if 0 < (x0_2.length : Int) then ((impl_before.f ((rd_T48 x1_2 0).f0) ((rd_T48 x1_2 0).f1) ((rd_T48 x1_2 0).f2) ((rd_T48 x0_2 0).f0) ((rd_T48 x0_2 0).f1) ((rd_T48 x0_2 0).f2)).bind fun t177 => (impl_MergeStamped.j5 kj26 x0_2 x1_2 x9_2 t177)) else (none)) else (none))) = some (r1, r2) := by rw [if_neg (show ¬ (false = true) by decide)] at H; exact H
                        clear H
                        have H := H1
                        clear H1
                        have HC50 := Aside0.mk H
                        clear H
                        go_upto_region 17 with (fail)
                        go_cut [83] (fun v83 wc => ∃ (kq : Nat) (x83_49 : Bool), v83 = .bool x83_49 ∧ Aside0 (impl_MergeStamped.j5 kq x0_2 x1_2 x9_2 x83_49 = some (r1, r2)) ∧ Aside0 (kq ≤ kj26) ∧ Aside0 (Kd.V k48 48 wc w.heap.size (fun k_ => ((P0_ k_ ∨ P1_ k_) ∨ w.heap.size ≤ k_) ∧ some k_ ≠ (u9 : Value).ownBlock) u0 x0_2) ∧ Aside0 (Kd.V k48 48 wc w.heap.size (fun k_ => ((P0_ k_ ∨ P1_ k_) ∨ w.heap.size ≤ k_) ∧ some k_ ≠ (u9 : Value).ownBlock) u1 x1_2) ∧ Aside0 (Kd.R k48 48 wc w.heap.size (fun k_ => (w.heap.size ≤ k_)) u9 x9_2) ∧ Aside0 (Below w.heap.size w wc))
                        case first =>
                          have H := HC50.out
                          clear HC50
                          by_cases c51 : (x0_2.length : Int) = 0
                          · rw [if_pos c51] at H
                            have c51b0 : ((x0_2.length : Int) == 0) = true := beq_iff_eq.mpr c51
                            have c51b1 : ((x0_2.length : Int) != 0) = false := bne_eq_false_iff_eq.mpr c51
                            clear c51
                            (first | rw [c51b0] | (simp only [i64_w, i32_w]; rw [c51b0]) | skip)
                            have H' := Aside0.mk H
                            clear H
                            try go_wp2
                            have n0_ := Aside0.mk (Kd.V_drew HO_0.out)
                            have n1_ := Aside0.mk (Kd.V_drew HO_1.out)
                            have n2_ := Aside0.mk (Kd.R_drew HO_9.out)
                            have n3_ := Aside0.mk (below_drew1 HB.out)
                            clear HO_0
                            clear HO_1
                            clear HO_9
                            clear HB
                            have HO_0 := n0_
                            have HO_1 := n1_
                            have HO_9 := n2_
                            have HB := n3_
                            clear n0_ n1_ n2_ n3_
                            obtain ⟨Ao53, co53, eo53⟩ := Kd.V_slice HO_0.out
                            (first | subst eo53 | (injection eo53 with f1_ f2_ f3_; have f4_ := f1_.symm; have f5_ := f3_.symm; clear f1_ f2_ f3_; subst f4_; subst f5_))
                            refine start_ (n := 13) (S := fun w' => True) (ds := []) #[false, false, false, false, false, false, false, false, false, false, false, false, false] (by kernel_rfl) rfl rfl trivial (fun hHeld => ?_); refine with_tabW impl_MergeStamped.tab17 impl_MergeStamped.bits17 (fun HT_ HW_ => ?_)
                            generalize wc.drew = w52 at HO_0 HO_1 HO_9 HB hHeld ⊢
                            refine pure_ (i := 0) (N := some 84) (v := ?_) (a' := ?_) #[true, false, false, false, false, false, false, false, false, false, false, false, false] rfl rfl (any_of HT_.out (by kernel_rfl)) (fun _ _ _ h => h) (Or.inl ⟨by rfl, ?_⟩) ?_ ?_
                            rotate_left
                            · intro w'
                              go_simp
                              with_reducible rfl
                            rotate_left
                            · simp only [Act.put, List.setIfInBounds_toArray, List.set_cons_zero, List.set_cons_succ, i64_w, i32_w]
                              rfl
                            refine pure_ (i := 1) (N := some 85) (v := ?_) (a' := ?_) #[true, true, false, false, false, false, false, false, false, false, false, false, false] rfl rfl (any_of HT_.out (by kernel_rfl)) (fun _ _ _ h => h) (Or.inl ⟨by rfl, ?_⟩) ?_ ?_
                            rotate_left
                            · intro w'
                              go_simp
                              with_reducible rfl
                            rotate_left
                            · simp only [Act.put, List.setIfInBounds_toArray, List.set_cons_zero, List.set_cons_succ, i64_w, i32_w]
                              rfl
                            refine pure_ (i := 2) (N := some 86) (v := ?_) (a' := ?_) #[true, true, true, false, false, false, false, false, false, false, false, false, false] rfl rfl (any_of HT_.out (by kernel_rfl)) (fun _ _ _ h => h) (Or.inl ⟨by rfl, ?_⟩) ?_ ?_
                            rotate_left
                            · intro w'
                              go_simp
                              with_reducible rfl
                            rotate_left
                            · simp only [Act.put, List.setIfInBounds_toArray, List.set_cons_zero, List.set_cons_succ, i64_w, i32_w]
                              rfl
                            refine pure_ (i := 3) (N := some 87) (v := ?_) (a' := ?_) #[true, true, true, true, false, false, false, false, false, false, false, false, false] rfl rfl (any_of HT_.out (by kernel_rfl)) (fun _ _ _ h => h) (Or.inl ⟨by rfl, ?_⟩) ?_ ?_
                            rotate_left
                            · intro w'
                              go_simp
                              with_reducible rfl
                            rotate_left
                            · simp only [Act.put, List.setIfInBounds_toArray, List.set_cons_zero, List.set_cons_succ, i64_w, i32_w]
                              rfl
                            refine pure_ (i := 4) (N := some 88) (v := undef) (a' := ?_) #[true, true, true, true, true, false, false, false, false, false, false, false, false] rfl rfl (any_of HT_.out (by kernel_rfl)) (fun _ _ _ h => h) (Or.inr ⟨by rfl, rfl⟩) ?_ ?_
                            rotate_left
                            · simp only [Act.put, List.setIfInBounds_toArray, List.set_cons_zero, List.set_cons_succ, i64_w, i32_w]
                              rfl
                            refine pure_ (i := 5) (N := some 89) (v := undef) (a' := ?_) #[true, true, true, true, true, true, false, false, false, false, false, false, false] rfl rfl (any_of HT_.out (by kernel_rfl)) (fun _ _ _ h => h) (Or.inr ⟨by rfl, rfl⟩) ?_ ?_
                            rotate_left
                            · simp only [Act.put, List.setIfInBounds_toArray, List.set_cons_zero, List.set_cons_succ, i64_w, i32_w]
                              rfl
                            refine pure_ (i := 6) (N := some 90) (v := undef) (a' := ?_) #[true, true, true, true, true, true, true, false, false, false, false, false, false] rfl rfl (any_of HT_.out (by kernel_rfl)) (fun _ _ _ h => h) (Or.inr ⟨by rfl, rfl⟩) ?_ ?_
                            rotate_left
                            · simp only [Act.put, List.setIfInBounds_toArray, List.set_cons_zero, List.set_cons_succ, i64_w, i32_w]
                              rfl
                            refine pure_ (i := 7) (N := some 91) (v := undef) (a' := ?_) #[true, true, true, true, true, true, true, true, false, false, false, false, false] rfl rfl (any_of HT_.out (by kernel_rfl)) (fun _ _ _ h => h) (Or.inr ⟨by rfl, rfl⟩) ?_ ?_
                            rotate_left
                            · simp only [Act.put, List.setIfInBounds_toArray, List.set_cons_zero, List.set_cons_succ, i64_w, i32_w]
                              rfl
                            refine pure_ (i := 8) (N := some 92) (v := undef) (a' := ?_) #[true, true, true, true, true, true, true, true, true, false, false, false, false] rfl rfl (any_of HT_.out (by kernel_rfl)) (fun _ _ _ h => h) (Or.inr ⟨by rfl, rfl⟩) ?_ ?_
                            rotate_left
                            · simp only [Act.put, List.setIfInBounds_toArray, List.set_cons_zero, List.set_cons_succ, i64_w, i32_w]
                              rfl
                            refine pure_ (i := 9) (N := some 93) (v := undef) (a' := ?_) #[true, true, true, true, true, true, true, true, true, true, false, false, false] rfl rfl (any_of HT_.out (by kernel_rfl)) (fun _ _ _ h => h) (Or.inr ⟨by rfl, rfl⟩) ?_ ?_
                            rotate_left
                            · simp only [Act.put, List.setIfInBounds_toArray, List.set_cons_zero, List.set_cons_succ, i64_w, i32_w]
                              rfl
                            refine pure_ (i := 10) (N := some 94) (v := undef) (a' := ?_) #[true, true, true, true, true, true, true, true, true, true, true, false, false] rfl rfl (any_of HT_.out (by kernel_rfl)) (fun _ _ _ h => h) (Or.inr ⟨by rfl, rfl⟩) ?_ ?_
                            rotate_left
                            · simp only [Act.put, List.setIfInBounds_toArray, List.set_cons_zero, List.set_cons_succ, i64_w, i32_w]
                              rfl
                            refine pure_ (i := 11) (N := some 95) (v := ?_) (a' := ?_) #[true, true, true, true, true, true, true, true, true, true, true, true, false] rfl rfl (any_of HT_.out (by kernel_rfl)) (fun _ _ _ h => h) (Or.inl ⟨by rfl, ?_⟩) ?_ ?_
                            rotate_left
                            · intro w'
                              go_simp
                              with_reducible rfl
                            rotate_left
                            · simp only [Act.put, List.setIfInBounds_toArray, List.set_cons_zero, List.set_cons_succ, i64_w, i32_w]
                              rfl
                            refine pure_ (i := 12) (N := some 83) (v := ?_) (a' := ?_) #[true, true, true, true, true, true, true, true, true, true, true, true, true] rfl rfl (any_of HT_.out (by kernel_rfl)) (fun _ _ _ h => h) (Or.inl ⟨by rfl, ?_⟩) ?_ ?_
                            rotate_left
                            · intro w'
                              go_simp
                              with_reducible rfl
                            rotate_left
                            · simp only [Act.put, List.setIfInBounds_toArray, List.set_cons_zero, List.set_cons_succ, i64_w, i32_w]
                              rfl
                            refine done_ (done_of HT_.out (by kernel_rfl)) ?_
                            try go_wp2
                            go_meet
                            case rel => exact ⟨_, (true), (by first | rfl | (simp; done) | (simp [*]; done)), H', ⟨by have := HK1.out; have := HK2.out; have := HJ20.out; have := HJ26.out; first | omega | exact Nat.le_refl _⟩, ⟨by (with_reducible repeat (first | apply Kd.V_alloc | apply Kd.V_drewN | apply Kd.V_drew)); exact HO_0.out⟩, ⟨by (with_reducible repeat (first | apply Kd.V_alloc | apply Kd.V_drewN | apply Kd.V_drew)); exact HO_1.out⟩, ⟨by (with_reducible repeat (first | apply Kd.R_alloc | apply Kd.R_drewN | apply Kd.R_drew)); exact HO_9.out⟩, ⟨by repeat (first | (with_reducible first | exact HB.out | apply below_alloc | apply pw_below_drewN | apply below_drew1) | exact HB.out)⟩⟩
                          · rw [if_neg c51] at H
                            have c51b0 : ((x0_2.length : Int) == 0) = false := beq_eq_false_iff_ne.mpr c51
                            have c51b1 : ((x0_2.length : Int) != 0) = true := bne_iff_ne.mpr c51
                            have c51b2 : ¬ (x0_2 = []) := fun h_ => c51 (by rw [h_]; rfl)
                            (first | rw [c51b0] | (simp only [i64_w, i32_w]; rw [c51b0]) | skip)
                            by_cases c54 : 0 < (x1_2.length : Int)
                            · rw [if_pos c54] at H
                              have c54b0 : decide (0 < (x1_2.length : Int)) = true := decide_eq_true c54
                              have c54b1 : decide (0 < x1_2.length) = true := decide_eq_true (by omega)
                              clear c54
                              by_cases c55 : 0 < (x0_2.length : Int)
                              · rw [if_pos c55] at H
                                have c55b0 : decide (0 < (x0_2.length : Int)) = true := decide_eq_true c55
                                have c55b1 : decide (0 < x0_2.length) = true := decide_eq_true (by omega)
                                clear c55
                                replace H := Option.bind_eq_some_iff.mp H
                                obtain ⟨t177, A560, H⟩ := H
                                replace H : (impl_MergeStamped.j5 kj26 x0_2 x1_2 x9_2 t177) = some (r1, r2) := H
                                have A56 := Aside0.mk A560
                                clear A560
                                have H' := Aside0.mk H
                                clear H
                                try go_wp2
                                have n0_ := Aside0.mk (Kd.V_drew HO_0.out)
                                have n1_ := Aside0.mk (Kd.V_drew HO_1.out)
                                have n2_ := Aside0.mk (Kd.R_drew HO_9.out)
                                have n3_ := Aside0.mk (below_drew1 HB.out)
                                clear HO_0
                                clear HO_1
                                clear HO_9
                                clear HB
                                have HO_0 := n0_
                                have HO_1 := n1_
                                have HO_9 := n2_
                                have HB := n3_
                                clear n0_ n1_ n2_ n3_
                                obtain ⟨Ao58, co58, eo58⟩ := Kd.V_slice HO_0.out
                                (first | subst eo58 | (injection eo58 with f1_ f2_ f3_; have f4_ := f1_.symm; have f5_ := f3_.symm; clear f1_ f2_ f3_; subst f4_; subst f5_))
                                obtain ⟨Ao59, co59, eo59⟩ := Kd.V_slice HO_1.out
                                (first | subst eo59 | (injection eo59 with f1_ f2_ f3_; have f4_ := f1_.symm; have f5_ := f3_.symm; clear f1_ f2_ f3_; subst f4_; subst f5_))
                                have p175 : 0 ≤ (0 : Int) := (by omega)
                                have q175 : 0 < (x1_2.length : Int) := of_decide_eq_true (by first | (with_reducible assumption) | assumption)
                                obtain ⟨ad175, e175, hx175_0, hx175_1, hx175_2⟩ := at_T48 (Kd.V_reads' HO_1.out).2.2 0 p175 q175
                                cases e175
                                have qi175 : (0 < x1_2.length) = True := eq_true (by omega)
                                (try rw [show ((0 : Int)).toNat = 0 from rfl] at hx175_0)
                                (try rw [show 0 * 3 = 0 from rfl] at hx175_0)
                                (try rw [Addr.add_zero'] at hx175_0)
                                (try rw [show ((0 : Int)).toNat = 0 from rfl] at hx175_1)
                                (try rw [show 0 * 3 = 0 from rfl] at hx175_1)
                                (try rw [Addr.add_zero'] at hx175_1)
                                (try rw [show ((0 : Int)).toNat = 0 from rfl] at hx175_2)
                                (try rw [show 0 * 3 = 0 from rfl] at hx175_2)
                                (try rw [Addr.add_zero'] at hx175_2)
                                replace p175 := eq_true p175
                                replace q175 := eq_true q175
                                have p176 : 0 ≤ (0 : Int) := (by omega)
                                have q176 : 0 < (x0_2.length : Int) := of_decide_eq_true (by first | (with_reducible assumption) | assumption)
                                obtain ⟨ad176, e176, hx176_0, hx176_1, hx176_2⟩ := at_T48 (Kd.V_reads' HO_0.out).2.2 0 p176 q176
                                cases e176
                                have qi176 : (0 < x0_2.length) = True := eq_true (by omega)
                                (try rw [show ((0 : Int)).toNat = 0 from rfl] at hx176_0)
                                (try rw [show 0 * 3 = 0 from rfl] at hx176_0)
                                (try rw [Addr.add_zero'] at hx176_0)
                                (try rw [show ((0 : Int)).toNat = 0 from rfl] at hx176_1)
                                (try rw [show 0 * 3 = 0 from rfl] at hx176_1)
                                (try rw [Addr.add_zero'] at hx176_1)
                                (try rw [show ((0 : Int)).toNat = 0 from rfl] at hx176_2)
                                (try rw [show 0 * 3 = 0 from rfl] at hx176_2)
                                (try rw [Addr.add_zero'] at hx176_2)
                                replace p176 := eq_true p176
                                replace q176 := eq_true q176
                                refine start_ (n := 13) (S := fun w' => w'.cell? ad175 = some (.int .i64 ((rd_T48 x1_2 0).f0)) ∧ w'.cell? ⟨ad175.block, ad175.off + 1, none⟩ = some (.int .i64 ((rd_T48 x1_2 0).f1)) ∧ w'.cell? ⟨ad175.block, ad175.off + 2, none⟩ = some (.int .i64 ((rd_T48 x1_2 0).f2)) ∧ w'.cell? ad176 = some (.int .i64 ((rd_T48 x0_2 0).f0)) ∧ w'.cell? ⟨ad176.block, ad176.off + 1, none⟩ = some (.int .i64 ((rd_T48 x0_2 0).f1)) ∧ w'.cell? ⟨ad176.block, ad176.off + 2, none⟩ = some (.int .i64 ((rd_T48 x0_2 0).f2))) (ds := []) #[false, false, false, false, false, false, false, false, false, false, false, false, false] (by kernel_rfl) rfl rfl ⟨hx175_0, hx175_1, hx175_2, hx176_0, hx176_1, hx176_2⟩ (fun hHeld => ?_); refine with_tabW impl_MergeStamped.tab17 impl_MergeStamped.bits17 (fun HT_ HW_ => ?_)
                                generalize wc.drew = w57 at HO_0 HO_1 HO_9 HB hx175_0 hx175_1 hx175_2 hx176_0 hx176_1 hx176_2 hHeld ⊢
                                refine pure_ (i := 0) (N := some 84) (v := ?_) (a' := ?_) #[true, false, false, false, false, false, false, false, false, false, false, false, false] rfl rfl (any_of HT_.out (by kernel_rfl)) (fun _ _ _ h => h) (Or.inl ⟨by rfl, ?_⟩) ?_ ?_
                                rotate_left
                                · intro w'
                                  go_simp
                                  with_reducible rfl
                                rotate_left
                                · simp only [Act.put, List.setIfInBounds_toArray, List.set_cons_zero, List.set_cons_succ, i64_w, i32_w]
                                  rfl
                                refine pure_ (i := 1) (N := some 85) (v := ?_) (a' := ?_) #[true, true, false, false, false, false, false, false, false, false, false, false, false] rfl rfl (any_of HT_.out (by kernel_rfl)) (fun _ _ _ h => h) (Or.inl ⟨by rfl, ?_⟩) ?_ ?_
                                rotate_left
                                · intro w'
                                  go_simp
                                  with_reducible rfl
                                rotate_left
                                · simp only [Act.put, List.setIfInBounds_toArray, List.set_cons_zero, List.set_cons_succ, i64_w, i32_w]
                                  rfl
                                refine pure_ (i := 2) (N := some 86) (v := ?_) (a' := ?_) #[true, true, true, false, false, false, false, false, false, false, false, false, false] rfl rfl (any_of HT_.out (by kernel_rfl)) (fun _ _ _ h => h) (Or.inl ⟨by rfl, ?_⟩) ?_ ?_
                                rotate_left
                                · intro w'
                                  go_simp
                                  with_reducible rfl
                                rotate_left
                                · simp only [Act.put, List.setIfInBounds_toArray, List.set_cons_zero, List.set_cons_succ, i64_w, i32_w]
                                  rfl
                                refine pure_ (i := 3) (N := some 87) (v := ?_) (a' := ?_) #[true, true, true, true, false, false, false, false, false, false, false, false, false] rfl rfl (any_of HT_.out (by kernel_rfl)) (fun _ _ _ h => h) (Or.inl ⟨by rfl, ?_⟩) ?_ ?_
                                rotate_left
                                · intro w'
                                  go_simp
                                  with_reducible rfl
                                rotate_left
                                · simp only [Act.put, List.setIfInBounds_toArray, List.set_cons_zero, List.set_cons_succ, i64_w, i32_w]
                                  rfl
                                refine pure_ (i := 4) (N := some 88) (v := ?_) (a' := ?_) #[true, true, true, true, true, false, false, false, false, false, false, false, false] rfl rfl (any_of HT_.out (by kernel_rfl)) (fun _ _ _ h => h) (Or.inl ⟨by rfl, ?_⟩) ?_ ?_
                                rotate_left
                                · intro w'
                                  go_simp
                                  with_reducible rfl
                                rotate_left
                                · simp only [Act.put, List.setIfInBounds_toArray, List.set_cons_zero, List.set_cons_succ, i64_w, i32_w]
                                  rfl
                                refine pure_ (i := 5) (N := some 89) (v := ?_) (a' := ?_) #[true, true, true, true, true, true, false, false, false, false, false, false, false] rfl rfl (any_of HT_.out (by kernel_rfl)) (fun _ _ _ h => h) (Or.inl ⟨by rfl, ?_⟩) ?_ ?_
                                rotate_left
                                · intro w'
                                  go_simp
                                  with_reducible rfl
                                rotate_left
                                · simp only [Act.put, List.setIfInBounds_toArray, List.set_cons_zero, List.set_cons_succ, i64_w, i32_w]
                                  rfl
                                refine pure_ (i := 7) (N := some 91) (v := ?_) (a' := ?_) #[true, true, true, true, true, true, false, true, false, false, false, false, false] rfl rfl (any_of HT_.out (by kernel_rfl)) (fun _ _ _ h => h) (Or.inl ⟨by rfl, ?_⟩) ?_ ?_
                                rotate_left
                                · intro w'
                                  go_simp
                                  with_reducible rfl
                                rotate_left
                                · simp only [Act.put, List.setIfInBounds_toArray, List.set_cons_zero, List.set_cons_succ, i64_w, i32_w]
                                  rfl
                                refine pure_ (i := 8) (N := some 92) (v := ?_) (a' := ?_) #[true, true, true, true, true, true, false, true, true, false, false, false, false] rfl rfl (any_of HT_.out (by kernel_rfl)) (fun _ _ _ h => h) (Or.inl ⟨by rfl, ?_⟩) ?_ ?_
                                rotate_left
                                · intro w'
                                  go_simp
                                  with_reducible rfl
                                rotate_left
                                · simp only [Act.put, List.setIfInBounds_toArray, List.set_cons_zero, List.set_cons_succ, i64_w, i32_w]
                                  rfl
                                refine take_ (i := 6) (N := some 90) (v := ?_) (a' := ?_) #[true, true, true, true, true, true, true, true, true, false, false, false, false] rfl rfl (take_ofW HT_.out HW_.out (by kernel_rfl)) (fun _ _ _ h => h) (Or.inl ⟨by rfl, ?_⟩) hHeld ?_ ?_
                                rotate_left
                                · rintro w' ⟨s0, s1, s2, s3, s4, s5⟩
                                  go_simp
                                  with_reducible rfl
                                rotate_left
                                · simp only [Act.put, List.setIfInBounds_toArray, List.set_cons_zero, List.set_cons_succ, i64_w, i32_w]
                                  rfl
                                refine take_ (i := 9) (N := some 93) (v := ?_) (a' := ?_) #[true, true, true, true, true, true, true, true, true, true, false, false, false] rfl rfl (take_ofW HT_.out HW_.out (by kernel_rfl)) (fun _ _ _ h => h) (Or.inl ⟨by rfl, ?_⟩) hHeld ?_ ?_
                                rotate_left
                                · rintro w' ⟨s0, s1, s2, s3, s4, s5⟩
                                  go_simp
                                  with_reducible rfl
                                rotate_left
                                · simp only [Act.put, List.setIfInBounds_toArray, List.set_cons_zero, List.set_cons_succ, i64_w, i32_w]
                                  rfl
                                refine one_ (i := 10) (N := some 94) #[true, true, true, true, true, true, true, true, true, true, true, false, false] rfl rfl (one_of HT_.out (by kernel_rfl)) (by decide) (fun K hK => ?_)
                                refine goes_ Try.func55 (by kernel_rfl) rfl #[.agg #[.int .i64 ((rd_T48 x1_2 0).f0), .int .i64 ((rd_T48 x1_2 0).f1), .int .i64 ((rd_T48 x1_2 0).f2)], .agg #[.int .i64 ((rd_T48 x0_2 0).f0), .int .i64 ((rd_T48 x0_2 0).f1), .int .i64 ((rd_T48 x0_2 0).f2)]] (by rfl) rfl rfl (by (try simp only [List.map_toArray, List.map_cons, List.map_nil]); first | done | rfl | (simp only [List.length_drop, List.length_take]; rfl)) ?_
                                with_reducible refine (impl_before.calls ((rd_T48 x1_2 0).f0) ((rd_T48 x1_2 0).f1) ((rd_T48 x1_2 0).f2) ((rd_T48 x0_2 0).f0) ((rd_T48 x0_2 0).f1) ((rd_T48 x0_2 0).f2) t177 _ A56.out).mono ?_
                                rintro e w60 ⟨rfl, hb⟩
                                have HS0_ := (hb.cell (World.block_lt_of_cell? _ _ (hHeld.1))).trans (hHeld.1)
                                have HS1_ := (hb.cell (World.block_lt_of_cell? _ _ (hHeld.2.1))).trans (hHeld.2.1)
                                have HS2_ := (hb.cell (World.block_lt_of_cell? _ _ (hHeld.2.2.1))).trans (hHeld.2.2.1)
                                have HS3_ := (hb.cell (World.block_lt_of_cell? _ _ (hHeld.2.2.2.1))).trans (hHeld.2.2.2.1)
                                have HS4_ := (hb.cell (World.block_lt_of_cell? _ _ (hHeld.2.2.2.2.1))).trans (hHeld.2.2.2.2.1)
                                have HS5_ := (hb.cell (World.block_lt_of_cell? _ _ (hHeld.2.2.2.2.2))).trans (hHeld.2.2.2.2.2)
                                refine ⟨_, rfl, ?_⟩
                                have n0_ := Aside0.mk (Kd.V_below (by (with_reducible repeat (first | apply Kd.V_alloc | apply Kd.V_drewN | apply Kd.V_drew)); exact HO_0.out) hb)
                                have n1_ := Aside0.mk (Kd.V_below (by (with_reducible repeat (first | apply Kd.V_alloc | apply Kd.V_drewN | apply Kd.V_drew)); exact HO_1.out) hb)
                                have n2_ := Aside0.mk (Kd.R_below (by (with_reducible repeat (first | apply Kd.R_alloc | apply Kd.R_drewN | apply Kd.R_drew)); exact HO_9.out) hb)
                                have n3_ := Aside0.mk (below_step (by repeat (first | (with_reducible first | exact HB.out | apply below_alloc | apply pw_below_drewN | apply below_drew1) | exact HB.out)) hb)
                                clear HO_0
                                clear HO_1
                                clear HO_9
                                clear HB
                                have HO_0 := n0_
                                have HO_1 := n1_
                                have HO_9 := n2_
                                have HB := n3_
                                clear n0_ n1_ n2_ n3_
                                (try clear hb)
                                (try clear hb2)
                                (try clear hk)
                                (try clear hi)
                                refine hK.out _ _ ⟨HS0_, HS1_, HS2_, HS3_, HS4_, HS5_⟩ (fun hHeld => ?_)
                                clear hK K
                                refine norm_ (a' := ?_) ?_ ?_
                                rotate_left
                                · show Act.put _ (some 94) _ = _
                                  simp only [Act.put, List.setIfInBounds_toArray, List.set_cons_zero, List.set_cons_succ, i64_w, i32_w]
                                  rfl
                                refine pure_ (i := 11) (N := some 95) (v := ?_) (a' := ?_) #[true, true, true, true, true, true, true, true, true, true, true, true, false] rfl rfl (any_of HT_.out (by kernel_rfl)) (fun _ _ _ h => h) (Or.inl ⟨by rfl, ?_⟩) ?_ ?_
                                rotate_left
                                · intro w'
                                  go_simp
                                  with_reducible rfl
                                rotate_left
                                · simp only [Act.put, List.setIfInBounds_toArray, List.set_cons_zero, List.set_cons_succ, i64_w, i32_w]
                                  rfl
                                refine pure_ (i := 12) (N := some 83) (v := ?_) (a' := ?_) #[true, true, true, true, true, true, true, true, true, true, true, true, true] rfl rfl (any_of HT_.out (by kernel_rfl)) (fun _ _ _ h => h) (Or.inl ⟨by rfl, ?_⟩) ?_ ?_
                                rotate_left
                                · intro w'
                                  go_simp
                                  with_reducible rfl
                                rotate_left
                                · simp only [Act.put, List.setIfInBounds_toArray, List.set_cons_zero, List.set_cons_succ, i64_w, i32_w]
                                  rfl
                                refine done_ (done_of HT_.out (by kernel_rfl)) ?_
                                try go_wp2
                                go_meet
                                case rel => exact ⟨_, (t177), (by first | rfl | (simp; done) | (simp [*]; done)), H', ⟨by have := HK1.out; have := HK2.out; have := HJ20.out; have := HJ26.out; first | omega | exact Nat.le_refl _⟩, ⟨by (with_reducible repeat (first | apply Kd.V_alloc | apply Kd.V_drewN | apply Kd.V_drew)); exact HO_0.out⟩, ⟨by (with_reducible repeat (first | apply Kd.V_alloc | apply Kd.V_drewN | apply Kd.V_drew)); exact HO_1.out⟩, ⟨by (with_reducible repeat (first | apply Kd.R_alloc | apply Kd.R_drewN | apply Kd.R_drew)); exact HO_9.out⟩, ⟨by repeat (first | (with_reducible first | exact HB.out | apply below_alloc | apply pw_below_drewN | apply below_drew1) | exact HB.out)⟩⟩
                              · rw [if_neg c55] at H
                                exact absurd H (by simp)
                            · rw [if_neg c54] at H
                              exact absurd H (by simp)
                        case rest =>
                          clear HC50
                          try clear c1
                          try clear p1
                          try clear q1
                          try clear hx1
                          try clear qi1
                          try clear c2
                          try clear p2
                          try clear c3
                          try clear c4
                          try clear q4
                          try clear c5
                          try clear p6
                          try clear p15
                          try clear q15
                          try clear hx15
                          try clear c16
                          try clear p16
                          try clear q16
                          try clear hx16
                          try clear qi16
                          try clear p17
                          try clear q17
                          try clear hx17
                          try clear qi17
                          try clear c22
                          try clear c22b0
                          try clear c22b1
                          try clear c26
                          try clear c28
                          try clear c28b0
                          try clear c28b1
                          try clear c28b2
                          try clear c31
                          try clear c31b0
                          try clear c31b1
                          try clear c32
                          try clear c32b0
                          try clear c32b1
                          try clear c33
                          try clear c33b0
                          try clear c33b1
                          try clear c42
                          try clear c43
                          try clear c43b0
                          try clear c43b1
                          try clear c44
                          try clear c45
                          try clear c45b0
                          try clear c45b1
                          try clear c48
                          try clear q48
                          try clear c51
                          try clear c51b0
                          try clear c51b1
                          try clear c51b2
                          try clear c54
                          try clear c54b0
                          try clear c54b1
                          try clear c55
                          try clear c55b0
                          try clear c55b1
                          try clear hx159_0
                          try clear hx160_0
                          try clear hx160_1
                          try clear hx160_2
                          try clear hx161_0
                          try clear hx161_1
                          try clear hx161_2
                          try clear hx163_0
                          try clear hx163_1
                          try clear hx163_2
                          try clear hx164_0
                          try clear hx164_1
                          try clear hx164_2
                          try clear hx166_0
                          try clear hx166_1
                          try clear hx166_2
                          try clear hx175_0
                          try clear hx175_1
                          try clear hx175_2
                          try clear hx176_0
                          try clear hx176_1
                          try clear hx176_2
                          try clear p1
                          try clear p15
                          try clear p159
                          try clear p16
                          try clear p160
                          try clear p161
                          try clear p163
                          try clear p164
                          try clear p166
                          try clear p175
                          try clear p176
                          try clear p2
                          try clear p6
                          try clear q1
                          try clear q15
                          try clear q159
                          try clear q16
                          try clear q160
                          try clear q161
                          try clear q163
                          try clear q164
                          try clear q166
                          try clear q175
                          try clear q176
                          try clear q48
                          obtain ⟨kq, x83_49, rfl, HA, HJ49, HO_0, HO_1, HO_9, HB⟩ := hcut
                          cases kq with
                          | zero => exact absurd HA.out (by simp [impl_MergeStamped.j5])
                          | succ kj49 =>
                            have H := HA.out
                            clear HA
                            simp only [impl_MergeStamped.j5] at H
                            by_cases c61 : x83_49 = true
                            · subst c61
                              have H1 : (if 0 < (x1_2.length : Int) then (if x9_2.length < 5864062014805 then (if 1 ≤ (x1_2.length : Int) then (impl_MergeStamped.l2 kj49 x0_2 (x1_2.drop 1) (x9_2 ++ [(⟨(rd_T48 x1_2 0).f0, (rd_T48 x1_2 0).f1, (rd_T48 x1_2 0).f2⟩ : S48)])) else (none)) else (none)) else (none)) = some (r1, r2) := by rw [if_pos rfl] at H; exact H
                              clear H
                              have H := H1
                              clear H1
                              by_cases c62 : 0 < (x1_2.length : Int)
                              · rw [if_pos c62] at H
                                have c62b0 : decide (0 < (x1_2.length : Int)) = true := decide_eq_true c62
                                have c62b1 : decide (0 < x1_2.length) = true := decide_eq_true (by omega)
                                clear c62
                                by_cases c63 : x9_2.length < 5864062014805
                                · rw [if_pos c63] at H
                                  have LMc63 := Aside0.mk c63
                                  clear c63
                                  obtain ⟨y179, hy179⟩ : ∃ y_ : List (S48), y_ = (x9_2 ++ [(⟨(rd_T48 x1_2 0).f0, (rd_T48 x1_2 0).f1, (rd_T48 x1_2 0).f2⟩ : S48)]) := ⟨_, rfl⟩
                                  replace H : (if 1 ≤ (x1_2.length : Int) then (impl_MergeStamped.l2 kj49 x0_2 (x1_2.drop 1) y179) else (none)) = some (r1, r2) := by first | (rw [hy179]; with_reducible exact H) | (have H2_ := (Option.bind_some _ _).symm.trans H; rw [hy179]; with_reducible exact H2_) | (have H2_ := (Option.bind_some _ _).symm.trans H; with_reducible exact H2_) | with_reducible exact H | (rw [hy179]; exact H) | exact H
                                  have Ny179 := Aside0.mk hy179
                                  clear hy179
                                  by_cases c64 : 1 ≤ (x1_2.length : Int)
                                  · rw [if_pos c64] at H
                                    have c64b0 := eq_true c64
                                    have c64b1 : decide (1 ≤ (x1_2.length : Int)) = true := decide_eq_true c64
                                    clear c64
                                    obtain ⟨y182, hy182⟩ : ∃ y_ : List (S48), y_ = (x1_2.drop 1) := ⟨_, rfl⟩
                                    replace H : (impl_MergeStamped.l2 kj49 x0_2 y182 y179) = some (r1, r2) := by first | (rw [hy182]; with_reducible exact H) | (have H2_ := (Option.bind_some _ _).symm.trans H; rw [hy182]; with_reducible exact H2_) | (have H2_ := (Option.bind_some _ _).symm.trans H; with_reducible exact H2_) | with_reducible exact H | (rw [hy182]; exact H) | exact H
                                    have Ny182 := Aside0.mk hy182
                                    clear hy182
                                    have H' := Aside0.mk H
                                    clear H
                                    try go_wp2
                                    have n0_ := Aside0.mk (Kd.V_drew HO_0.out)
                                    have n1_ := Aside0.mk (Kd.V_drew HO_1.out)
                                    have n2_ := Aside0.mk (Kd.R_drew HO_9.out)
                                    have n3_ := Aside0.mk (below_drew1 HB.out)
                                    clear HO_0
                                    clear HO_1
                                    clear HO_9
                                    clear HB
                                    have HO_0 := n0_
                                    have HO_1 := n1_
                                    have HO_9 := n2_
                                    have HB := n3_
                                    clear n0_ n1_ n2_ n3_
                                    obtain ⟨Ao66, co66, eo66⟩ := Kd.V_slice HO_1.out
                                    (first | subst eo66 | (injection eo66 with f1_ f2_ f3_; have f4_ := f1_.symm; have f5_ := f3_.symm; clear f1_ f2_ f3_; subst f4_; subst f5_))
                                    have p178 : 0 ≤ (0 : Int) := (by omega)
                                    have q178 : 0 < (x1_2.length : Int) := of_decide_eq_true (by first | (with_reducible assumption) | assumption)
                                    obtain ⟨ad178, e178, hx178_0, hx178_1, hx178_2⟩ := at_T48 (Kd.V_reads' HO_1.out).2.2 0 p178 q178
                                    cases e178
                                    have qi178 : (0 < x1_2.length) = True := eq_true (by omega)
                                    (try rw [show ((0 : Int)).toNat = 0 from rfl] at hx178_0)
                                    (try rw [show 0 * 3 = 0 from rfl] at hx178_0)
                                    (try rw [Addr.add_zero'] at hx178_0)
                                    (try rw [show ((0 : Int)).toNat = 0 from rfl] at hx178_1)
                                    (try rw [show 0 * 3 = 0 from rfl] at hx178_1)
                                    (try rw [Addr.add_zero'] at hx178_1)
                                    (try rw [show ((0 : Int)).toNat = 0 from rfl] at hx178_2)
                                    (try rw [show 0 * 3 = 0 from rfl] at hx178_2)
                                    (try rw [Addr.add_zero'] at hx178_2)
                                    replace p178 := eq_true p178
                                    replace q178 := eq_true q178
                                    have q67 : (1 : Int) ≤ ((x1_2.length : Int) : Int) := of_decide_eq_true (by first | (with_reducible assumption) | assumption)
                                    obtain ⟨i067, hi067, _, hsz67, _⟩ := info_parts info48
                                    have hroom67 : x1_2.length ≤ co66 := (Kd.V_reads' HO_1.out).2.1
                                    have hC67 : Kd.F k48 _ _ (some ad178) x1_2.length x1_2 := (Kd.V_at (base := w.heap.size) HO_1.out).2.2
                                    have hcut67 := cut_from (P := Try.prog) 42 48 .i64 Try.underlying42 hi067 3 hsz67 (some ad178) x1_2.length co66 1 (by omega) q67
                                    have hr67 := Kd.F_cut (m := (1 : Int).toNat) (c := co66) hC67 (by omega) hroom67
                                    obtain ⟨A67, hA67⟩ : ∃ A1, A1 = (if co66 = (1 : Int).toNat then (some ad178) else ((some ad178) : Option Addr).map (·.add ((1 : Int).toNat * 3))) := ⟨_, rfl⟩
                                    obtain ⟨c67, hc67⟩ : ∃ c1, c1 = co66 - (1 : Int).toNat := ⟨_, rfl⟩
                                    have hy67 : y182.length = x1_2.length - (1 : Int).toNat := (by rw [Ny182.out, List.length_drop] <;> omega)
                                    rw [show (x1_2).drop (1 : Int).toNat = y182 from Ny182.out.symm] at hr67
                                    replace hr67 : Kd.F k48 _ _ A67 y182.length y182 := (by rw [hA67]; exact hr67)
                                    rw [← hy67, ← hA67, ← hc67] at hcut67
                                    have HO186 := Aside0.mk (show Kd.V k48 48 _ w.heap.size _ (.slice A67 y182.length c67) y182 from Kd.V_mk (by rw [hy67, hc67]; exact Nat.sub_le_sub_right hroom67 _) hr67)
                                    have HC186 := Aside0.mk (show y182.length ≤ c67 from by rw [hy67, hc67]; exact Nat.sub_le_sub_right hroom67 _)
                                    clear hr67 hC67 hroom67 hi067 hsz67 hc67
                                    have KY67 := Aside0.mk hy67
                                    have KA67 := Aside0.mk hA67
                                    clear hy67 hA67
                                    replace q67 := eq_true q67
                                    refine start_ (n := 10) (S := fun w' => w'.cell? ad178 = some (.int .i64 ((rd_T48 x1_2 0).f0)) ∧ w'.cell? ⟨ad178.block, ad178.off + 1, none⟩ = some (.int .i64 ((rd_T48 x1_2 0).f1)) ∧ w'.cell? ⟨ad178.block, ad178.off + 2, none⟩ = some (.int .i64 ((rd_T48 x1_2 0).f2))) (ds := [4, 5]) #[false, false, false, false, false, false, false, false, false, false] (by kernel_rfl) rfl rfl ⟨hx178_0, hx178_1, hx178_2⟩ (fun hHeld => ?_); refine with_tabW impl_MergeStamped.tab18 impl_MergeStamped.bits18 (fun HT_ HW_ => ?_)
                                    generalize wc.drew = w65 at HO_0 HO_1 HO_9 HB HO186 hx178_0 hx178_1 hx178_2 hHeld ⊢
                                    refine pure_ (i := 0) (N := some 96) (v := ?_) (a' := ?_) #[true, false, false, false, false, false, false, false, false, false] rfl rfl (any_of HT_.out (by kernel_rfl)) (fun _ _ _ h => h) (Or.inl ⟨by rfl, ?_⟩) ?_ ?_
                                    rotate_left
                                    · intro w'
                                      go_simp
                                      with_reducible rfl
                                    rotate_left
                                    · simp only [Act.put, List.setIfInBounds_toArray, List.set_cons_zero, List.set_cons_succ, i64_w, i32_w]
                                      rfl
                                    refine pure_ (i := 1) (N := some 97) (v := ?_) (a' := ?_) #[true, true, false, false, false, false, false, false, false, false] rfl rfl (any_of HT_.out (by kernel_rfl)) (fun _ _ _ h => h) (Or.inl ⟨by rfl, ?_⟩) ?_ ?_
                                    rotate_left
                                    · intro w'
                                      go_simp
                                      with_reducible rfl
                                    rotate_left
                                    · simp only [Act.put, List.setIfInBounds_toArray, List.set_cons_zero, List.set_cons_succ, i64_w, i32_w]
                                      rfl
                                    refine pure_ (i := 2) (N := some 98) (v := ?_) (a' := ?_) #[true, true, true, false, false, false, false, false, false, false] rfl rfl (any_of HT_.out (by kernel_rfl)) (fun _ _ _ h => h) (Or.inl ⟨by rfl, ?_⟩) ?_ ?_
                                    rotate_left
                                    · intro w'
                                      go_simp
                                      with_reducible rfl
                                    rotate_left
                                    · simp only [Act.put, List.setIfInBounds_toArray, List.set_cons_zero, List.set_cons_succ, i64_w, i32_w]
                                      rfl
                                    refine pure_ (i := 6) (N := some 102) (v := ?_) (a' := ?_) #[true, true, true, false, false, false, true, false, false, false] rfl rfl (any_of HT_.out (by kernel_rfl)) (fun _ _ _ h => h) (Or.inl ⟨by rfl, ?_⟩) ?_ ?_
                                    rotate_left
                                    · intro w'
                                      go_simp
                                      with_reducible rfl
                                    rotate_left
                                    · simp only [Act.put, List.setIfInBounds_toArray, List.set_cons_zero, List.set_cons_succ, i64_w, i32_w]
                                      rfl
                                    refine pure_ (i := 7) (N := some 103) (v := ?_) (a' := ?_) #[true, true, true, false, false, false, true, true, false, false] rfl rfl (any_of HT_.out (by kernel_rfl)) (fun _ _ _ h => h) (Or.inl ⟨by rfl, ?_⟩) ?_ ?_
                                    rotate_left
                                    · intro w'
                                      go_simp
                                      with_reducible rfl
                                    rotate_left
                                    · simp only [Act.put, List.setIfInBounds_toArray, List.set_cons_zero, List.set_cons_succ, i64_w, i32_w]
                                      rfl
                                    refine take_ (i := 3) (N := some 99) (v := ?_) (a' := ?_) #[true, true, true, true, false, false, true, true, false, false] rfl rfl (take_ofW HT_.out HW_.out (by kernel_rfl)) (fun _ _ _ h => h) (Or.inl ⟨by rfl, ?_⟩) hHeld ?_ ?_
                                    rotate_left
                                    · rintro w' ⟨s0, s1, s2⟩
                                      go_simp
                                      with_reducible rfl
                                    rotate_left
                                    · simp only [Act.put, List.setIfInBounds_toArray, List.set_cons_zero, List.set_cons_succ, i64_w, i32_w]
                                      rfl
                                    refine last_ (i := 4) (N := some 100) #[true, true, true, true, true, false, true, true, false, false] rfl rfl (one_of HT_.out (by kernel_rfl)) (by decide) (fun K hK => ?_)
                                    refine value_ (w1 := ?_) (v := ?_) (by rfl) rfl ?_ ?_
                                    rotate_left 2
                                    · go_simp
                                      constructor
                                      · rfl
                                      · rfl
                                    refine hK.out _ _ ?_
                                    clear hK K
                                    refine norm_ (a' := ?_) ?_ ?_
                                    rotate_left
                                    · show Act.put _ (some 100) _ = _
                                      simp only [Act.put, List.setIfInBounds_toArray, List.set_cons_zero, List.set_cons_succ, i64_w, i32_w]
                                      rfl
                                    refine last_ (i := 5) (N := some 101) #[true, true, true, true, true, true, true, true, false, false] rfl rfl (one_of HT_.out (by kernel_rfl)) (by decide) (fun K hK => ?_)
                                    refine Kd.R_append_step k48 (w0 := w) w.heap.size (by rfl) (.tmp 96) (.tmp 100) 42 48 (.agg #[(.int .i64 0), (.int .i64 0), (.int .i64 0)]) 24 rfl Try.underlying42 info48 rfl (by decide) (by omega) u9 x9_2 (⟨(rd_T48 x1_2 0).f0, (rd_T48 x1_2 0).f1, (rd_T48 x1_2 0).f2⟩ : S48) [.int .i64 ((rd_T48 x1_2 0).f0), .int .i64 ((rd_T48 x1_2 0).f1), .int .i64 ((rd_T48 x1_2 0).f2)] (fun k_ => (w.heap.size ≤ k_)) (fun _ => False) rfl rfl ?aP (fun _ hk => hk.elim) ?aF ?aO ?aB ?aS ?aL ?_
                                    (case aP => exact k48_mkM _ _ _ (⟨(rd_T48 x1_2 0).f0, (rd_T48 x1_2 0).f1, (rd_T48 x1_2 0).f2⟩ : S48))
                                    (case aB => exact (by repeat (first | (with_reducible first | exact HB.out | apply below_alloc | apply pw_below_drewN | apply below_drew1) | exact HB.out)))
                                    (case aF => exact (fun k_ hk => (Nat.le_trans (below_size (by repeat (first | (with_reducible first | exact HB.out | apply below_alloc | apply pw_below_drewN | apply below_drew1) | exact HB.out))) hk)))
                                    (case aO => exact (by (with_reducible repeat (first | apply Kd.R_alloc | apply Kd.R_drewN | apply Kd.R_drew)); exact HO_9.out))
                                    (case aS => exact (below_size (by repeat (first | (with_reducible first | exact HB.out | apply below_alloc | apply pw_below_drewN | apply below_drew1) | exact HB.out))))
                                    (case aL => have := LMc63.out; omega)
                                    intro v180 w68 ho hb hg hat
                                    rw [← Ny179.out] at ho
                                    have n0_ := Aside0.mk (Kd.V_afterv (ok := (fun k_ => ((P0_ k_ ∨ P1_ k_) ∨ w.heap.size ≤ k_))) (by (with_reducible repeat (first | apply Kd.V_alloc | apply Kd.V_drewN | apply Kd.V_drew)); exact HO_0.out) hg hat)
                                    have n1_ := Aside0.mk (Kd.V_afterv (ok := (fun k_ => ((P0_ k_ ∨ P1_ k_) ∨ w.heap.size ≤ k_))) (by (with_reducible repeat (first | apply Kd.V_alloc | apply Kd.V_drewN | apply Kd.V_drew)); exact HO_1.out) hg hat)
                                    have n2_ := Aside0.mk (Kd.V_afterv (ok := (fun k_ => ((P0_ k_ ∨ P1_ k_) ∨ w.heap.size ≤ k_))) (by (with_reducible repeat (first | apply Kd.V_alloc | apply Kd.V_drewN | apply Kd.V_drew)); exact HO186.out) hg hat)
                                    have n3_ := Aside0.mk (hb)
                                    have n4_ := Aside0.mk (ho)
                                    clear HO_0
                                    clear HO_1
                                    clear HO186
                                    clear HB
                                    clear HO_9
                                    have HO_0 := n0_
                                    have HO_1 := n1_
                                    have HO186 := n2_
                                    have HB := n3_
                                    have HO181 := n4_
                                    clear n0_ n1_ n2_ n3_ n4_
                                    clear ho hb hg hat
                                    refine hK.out _ _ ?_
                                    clear hK K
                                    refine norm_ (a' := ?_) ?_ ?_
                                    rotate_left
                                    · show Act.put _ (some 101) _ = _
                                      simp only [Act.put, List.setIfInBounds_toArray, List.set_cons_zero, List.set_cons_succ, i64_w, i32_w]
                                      rfl
                                    refine pure_ (i := 8) (N := some 9) (v := ?_) (a' := ?_) #[true, true, true, true, true, true, true, true, true, false] rfl rfl (any_of HT_.out (by kernel_rfl)) (fun _ _ _ h => h) (Or.inl ⟨by rfl, ?_⟩) ?_ ?_
                                    rotate_left
                                    · intro w'
                                      go_simp
                                      with_reducible rfl
                                    rotate_left
                                    · simp only [Act.put, List.setIfInBounds_toArray, List.set_cons_zero, List.set_cons_succ, i64_w, i32_w]
                                      rfl
                                    refine pure_ (i := 9) (N := some 1) (v := ?_) (a' := ?_) #[true, true, true, true, true, true, true, true, true, true] rfl rfl (any_of HT_.out (by kernel_rfl)) (fun _ _ _ h => h) (Or.inl ⟨by rfl, ?_⟩) ?_ ?_
                                    rotate_left
                                    · intro w'
                                      go_simp
                                      with_reducible rfl
                                    rotate_left
                                    · simp only [Act.put, List.setIfInBounds_toArray, List.set_cons_zero, List.set_cons_succ, i64_w, i32_w]
                                      rfl
                                    refine done_ (done_of HT_.out (by kernel_rfl)) ?_
                                    try go_wp2
                                    go_roundg kj49
                                    case measure => have := HK1.out; have := HK2.out; have := HJ20.out; have := HJ26.out; have := HJ49.out; omega
                                    case rel => exact ⟨(x0_2), (y182), (y179), H', ⟨by have := HK1.out; have := HK2.out; have := HJ20.out; have := HJ26.out; have := HJ49.out; omega⟩, ⟨by (with_reducible repeat (first | apply Kd.V_alloc | apply Kd.V_drewN | apply Kd.V_drew)); exact HO_0.out⟩, ⟨by (with_reducible repeat (first | apply Kd.V_alloc | apply Kd.V_drewN | apply Kd.V_drew)); exact HO186.out⟩, ⟨by (with_reducible repeat (first | apply Kd.R_alloc | apply Kd.R_drewN | apply Kd.R_drew)); exact HO181.out⟩, ⟨by repeat (first | (with_reducible first | exact HB.out | apply below_alloc | apply pw_below_drewN | apply below_drew1) | exact HB.out)⟩⟩
                                  · rw [if_neg c64] at H
                                    exact absurd H (by simp)
                                · rw [if_neg c63] at H
                                  exact absurd H (by simp)
                              · rw [if_neg c62] at H
                                exact absurd H (by simp)
                            · replace c61 := Bool.eq_false_iff.mpr c61
                              subst c61
                              have H1 : (if 0 < (x0_2.length : Int) then (if 0 < (x1_2.length : Int) then (if (!(((rd_T48 x0_2 0).f0) == ((rd_T48 x1_2 0).f0)) || (!(((rd_T48 x0_2 0).f1) == ((rd_T48 x1_2 0).f1)) || (!(((rd_T48 x0_2 0).f2) == ((rd_T48 x1_2 0).f2))))) = true then (some (([] : List (S48)), false)) else (if x9_2.length < 5864062014805 then (if 1 ≤ (x0_2.length : Int) then (if 1 ≤ (x1_2.length : Int) then (impl_MergeStamped.l2 kj49 (x0_2.drop 1) (x1_2.drop 1) (x9_2 ++ [(⟨(rd_T48 x0_2 0).f0, (rd_T48 x0_2 0).f1, (rd_T48 x0_2 0).f2⟩ : S48)])) else (none)) else (none)) else (none))) else (none)) else (none)) = some (r1, r2) := by rw [if_neg (show ¬ (false = true) by decide)] at H; exact H
                              clear H
                              have H := H1
                              clear H1
                              by_cases c69 : 0 < (x0_2.length : Int)
                              · rw [if_pos c69] at H
                                have c69b0 : decide (0 < (x0_2.length : Int)) = true := decide_eq_true c69
                                have c69b1 : decide (0 < x0_2.length) = true := decide_eq_true (by omega)
                                clear c69
                                by_cases c70 : 0 < (x1_2.length : Int)
                                · rw [if_pos c70] at H
                                  have c70b0 : decide (0 < (x1_2.length : Int)) = true := decide_eq_true c70
                                  have c70b1 : decide (0 < x1_2.length) = true := decide_eq_true (by omega)
                                  clear c70
                                  by_cases c71 : (!(((rd_T48 x0_2 0).f0) == ((rd_T48 x1_2 0).f0)) || (!(((rd_T48 x0_2 0).f1) == ((rd_T48 x1_2 0).f1)) || (!(((rd_T48 x0_2 0).f2) == ((rd_T48 x1_2 0).f2))))) = true
                                  · rw [if_pos c71] at H
                                    have c71b0 : (!(((rd_T48 x0_2 0).f0) == ((rd_T48 x1_2 0).f0)) || (!(((rd_T48 x0_2 0).f1) == ((rd_T48 x1_2 0).f1)) || (!(((rd_T48 x0_2 0).f2) == ((rd_T48 x1_2 0).f2))))) = true := c71
                                    clear c71
                                    simp only [Option.some.injEq, Prod.mk.injEq] at H
                                    obtain ⟨rfl, rfl⟩ := H
                                    try go_wp2
                                    have n0_ := Aside0.mk (Kd.V_drew HO_0.out)
                                    have n1_ := Aside0.mk (Kd.V_drew HO_1.out)
                                    have n2_ := Aside0.mk (Kd.R_drew HO_9.out)
                                    have n3_ := Aside0.mk (below_drew1 HB.out)
                                    clear HO_0
                                    clear HO_1
                                    clear HO_9
                                    clear HB
                                    have HO_0 := n0_
                                    have HO_1 := n1_
                                    have HO_9 := n2_
                                    have HB := n3_
                                    clear n0_ n1_ n2_ n3_
                                    obtain ⟨Ao73, co73, eo73⟩ := Kd.V_slice HO_0.out
                                    (first | subst eo73 | (injection eo73 with f1_ f2_ f3_; have f4_ := f1_.symm; have f5_ := f3_.symm; clear f1_ f2_ f3_; subst f4_; subst f5_))
                                    have p187 : 0 ≤ (0 : Int) := (by omega)
                                    have q187 : 0 < (x0_2.length : Int) := of_decide_eq_true (by first | (with_reducible assumption) | assumption)
                                    obtain ⟨ad187, e187, hx187_0, hx187_1, hx187_2⟩ := at_T48 (Kd.V_reads' HO_0.out).2.2 0 p187 q187
                                    cases e187
                                    have qi187 : (0 < x0_2.length) = True := eq_true (by omega)
                                    (try rw [show ((0 : Int)).toNat = 0 from rfl] at hx187_0)
                                    (try rw [show 0 * 3 = 0 from rfl] at hx187_0)
                                    (try rw [Addr.add_zero'] at hx187_0)
                                    (try rw [show ((0 : Int)).toNat = 0 from rfl] at hx187_1)
                                    (try rw [show 0 * 3 = 0 from rfl] at hx187_1)
                                    (try rw [Addr.add_zero'] at hx187_1)
                                    (try rw [show ((0 : Int)).toNat = 0 from rfl] at hx187_2)
                                    (try rw [show 0 * 3 = 0 from rfl] at hx187_2)
                                    (try rw [Addr.add_zero'] at hx187_2)
                                    replace p187 := eq_true p187
                                    replace q187 := eq_true q187
                                    obtain ⟨Ao74, co74, eo74⟩ := Kd.V_slice HO_1.out
                                    (first | subst eo74 | (injection eo74 with f1_ f2_ f3_; have f4_ := f1_.symm; have f5_ := f3_.symm; clear f1_ f2_ f3_; subst f4_; subst f5_))
                                    have p188 : 0 ≤ (0 : Int) := (by omega)
                                    have q188 : 0 < (x1_2.length : Int) := of_decide_eq_true (by first | (with_reducible assumption) | assumption)
                                    obtain ⟨ad188, e188, hx188_0, hx188_1, hx188_2⟩ := at_T48 (Kd.V_reads' HO_1.out).2.2 0 p188 q188
                                    cases e188
                                    have qi188 : (0 < x1_2.length) = True := eq_true (by omega)
                                    (try rw [show ((0 : Int)).toNat = 0 from rfl] at hx188_0)
                                    (try rw [show 0 * 3 = 0 from rfl] at hx188_0)
                                    (try rw [Addr.add_zero'] at hx188_0)
                                    (try rw [show ((0 : Int)).toNat = 0 from rfl] at hx188_1)
                                    (try rw [show 0 * 3 = 0 from rfl] at hx188_1)
                                    (try rw [Addr.add_zero'] at hx188_1)
                                    (try rw [show ((0 : Int)).toNat = 0 from rfl] at hx188_2)
                                    (try rw [show 0 * 3 = 0 from rfl] at hx188_2)
                                    (try rw [Addr.add_zero'] at hx188_2)
                                    replace p188 := eq_true p188
                                    replace q188 := eq_true q188
                                    refine start_ (n := 8) (S := fun w' => w'.cell? ad187 = some (.int .i64 ((rd_T48 x0_2 0).f0)) ∧ w'.cell? ⟨ad187.block, ad187.off + 1, none⟩ = some (.int .i64 ((rd_T48 x0_2 0).f1)) ∧ w'.cell? ⟨ad187.block, ad187.off + 2, none⟩ = some (.int .i64 ((rd_T48 x0_2 0).f2)) ∧ w'.cell? ad188 = some (.int .i64 ((rd_T48 x1_2 0).f0)) ∧ w'.cell? ⟨ad188.block, ad188.off + 1, none⟩ = some (.int .i64 ((rd_T48 x1_2 0).f1)) ∧ w'.cell? ⟨ad188.block, ad188.off + 2, none⟩ = some (.int .i64 ((rd_T48 x1_2 0).f2))) (ds := []) #[false, false, false, false, false, false, false, false] (by kernel_rfl) rfl rfl ⟨hx187_0, hx187_1, hx187_2, hx188_0, hx188_1, hx188_2⟩ (fun hHeld => ?_); refine with_tabW impl_MergeStamped.tab19 impl_MergeStamped.bits19 (fun HT_ HW_ => ?_)
                                    generalize wc.drew = w72 at HO_0 HO_1 HO_9 HB hx187_0 hx187_1 hx187_2 hx188_0 hx188_1 hx188_2 hHeld ⊢
                                    refine pure_ (i := 0) (N := some 105) (v := ?_) (a' := ?_) #[true, false, false, false, false, false, false, false] rfl rfl (any_of HT_.out (by kernel_rfl)) (fun _ _ _ h => h) (Or.inl ⟨by rfl, ?_⟩) ?_ ?_
                                    rotate_left
                                    · intro w'
                                      go_simp
                                      with_reducible rfl
                                    rotate_left
                                    · simp only [Act.put, List.setIfInBounds_toArray, List.set_cons_zero, List.set_cons_succ, i64_w, i32_w]
                                      rfl
                                    refine pure_ (i := 1) (N := some 106) (v := ?_) (a' := ?_) #[true, true, false, false, false, false, false, false] rfl rfl (any_of HT_.out (by kernel_rfl)) (fun _ _ _ h => h) (Or.inl ⟨by rfl, ?_⟩) ?_ ?_
                                    rotate_left
                                    · intro w'
                                      go_simp
                                      with_reducible rfl
                                    rotate_left
                                    · simp only [Act.put, List.setIfInBounds_toArray, List.set_cons_zero, List.set_cons_succ, i64_w, i32_w]
                                      rfl
                                    refine pure_ (i := 3) (N := some 108) (v := ?_) (a' := ?_) #[true, true, false, true, false, false, false, false] rfl rfl (any_of HT_.out (by kernel_rfl)) (fun _ _ _ h => h) (Or.inl ⟨by rfl, ?_⟩) ?_ ?_
                                    rotate_left
                                    · intro w'
                                      go_simp
                                      with_reducible rfl
                                    rotate_left
                                    · simp only [Act.put, List.setIfInBounds_toArray, List.set_cons_zero, List.set_cons_succ, i64_w, i32_w]
                                      rfl
                                    refine pure_ (i := 4) (N := some 109) (v := ?_) (a' := ?_) #[true, true, false, true, true, false, false, false] rfl rfl (any_of HT_.out (by kernel_rfl)) (fun _ _ _ h => h) (Or.inl ⟨by rfl, ?_⟩) ?_ ?_
                                    rotate_left
                                    · intro w'
                                      go_simp
                                      with_reducible rfl
                                    rotate_left
                                    · simp only [Act.put, List.setIfInBounds_toArray, List.set_cons_zero, List.set_cons_succ, i64_w, i32_w]
                                      rfl
                                    refine take_ (i := 2) (N := some 107) (v := ?_) (a' := ?_) #[true, true, true, true, true, false, false, false] rfl rfl (take_ofW HT_.out HW_.out (by kernel_rfl)) (fun _ _ _ h => h) (Or.inl ⟨by rfl, ?_⟩) hHeld ?_ ?_
                                    rotate_left
                                    · rintro w' ⟨s0, s1, s2, s3, s4, s5⟩
                                      go_simp
                                      with_reducible rfl
                                    rotate_left
                                    · simp only [Act.put, List.setIfInBounds_toArray, List.set_cons_zero, List.set_cons_succ, i64_w, i32_w]
                                      rfl
                                    refine take_ (i := 5) (N := some 110) (v := ?_) (a' := ?_) #[true, true, true, true, true, true, false, false] rfl rfl (take_ofW HT_.out HW_.out (by kernel_rfl)) (fun _ _ _ h => h) (Or.inl ⟨by rfl, ?_⟩) hHeld ?_ ?_
                                    rotate_left
                                    · rintro w' ⟨s0, s1, s2, s3, s4, s5⟩
                                      go_simp
                                      with_reducible rfl
                                    rotate_left
                                    · simp only [Act.put, List.setIfInBounds_toArray, List.set_cons_zero, List.set_cons_succ, i64_w, i32_w]
                                      rfl
                                    refine pure_ (i := 6) (N := some 111) (v := ?_) (a' := ?_) #[true, true, true, true, true, true, true, false] rfl rfl (any_of HT_.out (by kernel_rfl)) (fun _ _ _ h => h) (Or.inl ⟨by rfl, ?_⟩) ?_ ?_
                                    rotate_left
                                    · intro w'
                                      go_simp
                                      with_reducible rfl
                                    rotate_left
                                    · simp only [Act.put, List.setIfInBounds_toArray, List.set_cons_zero, List.set_cons_succ, i64_w, i32_w]
                                      rfl
                                    refine pure_ (i := 7) (N := some 104) (v := ?_) (a' := ?_) #[true, true, true, true, true, true, true, true] rfl rfl (any_of HT_.out (by kernel_rfl)) (fun _ _ _ h => h) (Or.inl ⟨by rfl, ?_⟩) ?_ ?_
                                    rotate_left
                                    · intro w'
                                      go_simp
                                      with_reducible rfl
                                    rotate_left
                                    · simp only [Act.put, List.setIfInBounds_toArray, List.set_cons_zero, List.set_cons_succ, i64_w, i32_w]
                                      rfl
                                    refine done_ (done_of HT_.out (by kernel_rfl)) ?_
                                    try go_wp2
                                    go_ret2
                                    exact ⟨_, by first | rfl | (simp [errW_none, errW_some] <;> rfl) | (simp [*, errW_none, errW_some] <;> rfl), by first | exact Kd.R_nil _ _ _ _ _ | exact Kd.N_nil _ _ _ _ _ | exact Kd.V_nil _ _ _ _ _ | exact Kd.Q_nil _ _ _ _ _ | exact Kd.S_nil _ _ _ _ _, by repeat (first | (with_reducible first | exact HB.out | apply below_alloc | apply pw_below_drewN | apply below_drew1) | exact HB.out)⟩
                                  · rw [if_neg c71] at H
                                    have c71b0 : (!(((rd_T48 x0_2 0).f0) == ((rd_T48 x1_2 0).f0)) || (!(((rd_T48 x0_2 0).f1) == ((rd_T48 x1_2 0).f1)) || (!(((rd_T48 x0_2 0).f2) == ((rd_T48 x1_2 0).f2))))) = false := by simpa using c71
                                    clear c71
                                    by_cases c75 : x9_2.length < 5864062014805
                                    · rw [if_pos c75] at H
                                      have LMc75 := Aside0.mk c75
                                      clear c75
                                      obtain ⟨y190, hy190⟩ : ∃ y_ : List (S48), y_ = (x9_2 ++ [(⟨(rd_T48 x0_2 0).f0, (rd_T48 x0_2 0).f1, (rd_T48 x0_2 0).f2⟩ : S48)]) := ⟨_, rfl⟩
                                      replace H : (if 1 ≤ (x0_2.length : Int) then (if 1 ≤ (x1_2.length : Int) then (impl_MergeStamped.l2 kj49 (x0_2.drop 1) (x1_2.drop 1) y190) else (none)) else (none)) = some (r1, r2) := by first | (rw [hy190]; with_reducible exact H) | (have H2_ := (Option.bind_some _ _).symm.trans H; rw [hy190]; with_reducible exact H2_) | (have H2_ := (Option.bind_some _ _).symm.trans H; with_reducible exact H2_) | with_reducible exact H | (rw [hy190]; exact H) | exact H
                                      have Ny190 := Aside0.mk hy190
                                      clear hy190
                                      by_cases c76 : 1 ≤ (x0_2.length : Int)
                                      · rw [if_pos c76] at H
                                        have c76b0 := eq_true c76
                                        have c76b1 : decide (1 ≤ (x0_2.length : Int)) = true := decide_eq_true c76
                                        clear c76
                                        obtain ⟨y193, hy193⟩ : ∃ y_ : List (S48), y_ = (x0_2.drop 1) := ⟨_, rfl⟩
                                        replace H : (if 1 ≤ (x1_2.length : Int) then (impl_MergeStamped.l2 kj49 y193 (x1_2.drop 1) y190) else (none)) = some (r1, r2) := by first | (rw [hy193]; with_reducible exact H) | (have H2_ := (Option.bind_some _ _).symm.trans H; rw [hy193]; with_reducible exact H2_) | (have H2_ := (Option.bind_some _ _).symm.trans H; with_reducible exact H2_) | with_reducible exact H | (rw [hy193]; exact H) | exact H
                                        have Ny193 := Aside0.mk hy193
                                        clear hy193
                                        by_cases c77 : 1 ≤ (x1_2.length : Int)
                                        · rw [if_pos c77] at H
                                          have c77b0 := eq_true c77
                                          have c77b1 : decide (1 ≤ (x1_2.length : Int)) = true := decide_eq_true c77
                                          clear c77
                                          obtain ⟨y198, hy198⟩ : ∃ y_ : List (S48), y_ = (x1_2.drop 1) := ⟨_, rfl⟩
                                          replace H : (impl_MergeStamped.l2 kj49 y193 y198 y190) = some (r1, r2) := by first | (rw [hy198]; with_reducible exact H) | (have H2_ := (Option.bind_some _ _).symm.trans H; rw [hy198]; with_reducible exact H2_) | (have H2_ := (Option.bind_some _ _).symm.trans H; with_reducible exact H2_) | with_reducible exact H | (rw [hy198]; exact H) | exact H
                                          have Ny198 := Aside0.mk hy198
                                          clear hy198
                                          have H' := Aside0.mk H
                                          clear H
                                          try go_wp2
                                          have n0_ := Aside0.mk (Kd.V_drew HO_0.out)
                                          have n1_ := Aside0.mk (Kd.V_drew HO_1.out)
                                          have n2_ := Aside0.mk (Kd.R_drew HO_9.out)
                                          have n3_ := Aside0.mk (below_drew1 HB.out)
                                          clear HO_0
                                          clear HO_1
                                          clear HO_9
                                          clear HB
                                          have HO_0 := n0_
                                          have HO_1 := n1_
                                          have HO_9 := n2_
                                          have HB := n3_
                                          clear n0_ n1_ n2_ n3_
                                          obtain ⟨Ao79, co79, eo79⟩ := Kd.V_slice HO_0.out
                                          (first | subst eo79 | (injection eo79 with f1_ f2_ f3_; have f4_ := f1_.symm; have f5_ := f3_.symm; clear f1_ f2_ f3_; subst f4_; subst f5_))
                                          have p187 : 0 ≤ (0 : Int) := (by omega)
                                          have q187 : 0 < (x0_2.length : Int) := of_decide_eq_true (by first | (with_reducible assumption) | assumption)
                                          obtain ⟨ad187, e187, hx187_0, hx187_1, hx187_2⟩ := at_T48 (Kd.V_reads' HO_0.out).2.2 0 p187 q187
                                          cases e187
                                          have qi187 : (0 < x0_2.length) = True := eq_true (by omega)
                                          (try rw [show ((0 : Int)).toNat = 0 from rfl] at hx187_0)
                                          (try rw [show 0 * 3 = 0 from rfl] at hx187_0)
                                          (try rw [Addr.add_zero'] at hx187_0)
                                          (try rw [show ((0 : Int)).toNat = 0 from rfl] at hx187_1)
                                          (try rw [show 0 * 3 = 0 from rfl] at hx187_1)
                                          (try rw [Addr.add_zero'] at hx187_1)
                                          (try rw [show ((0 : Int)).toNat = 0 from rfl] at hx187_2)
                                          (try rw [show 0 * 3 = 0 from rfl] at hx187_2)
                                          (try rw [Addr.add_zero'] at hx187_2)
                                          replace p187 := eq_true p187
                                          replace q187 := eq_true q187
                                          obtain ⟨Ao80, co80, eo80⟩ := Kd.V_slice HO_1.out
                                          (first | subst eo80 | (injection eo80 with f1_ f2_ f3_; have f4_ := f1_.symm; have f5_ := f3_.symm; clear f1_ f2_ f3_; subst f4_; subst f5_))
                                          have p188 : 0 ≤ (0 : Int) := (by omega)
                                          have q188 : 0 < (x1_2.length : Int) := of_decide_eq_true (by first | (with_reducible assumption) | assumption)
                                          obtain ⟨ad188, e188, hx188_0, hx188_1, hx188_2⟩ := at_T48 (Kd.V_reads' HO_1.out).2.2 0 p188 q188
                                          cases e188
                                          have qi188 : (0 < x1_2.length) = True := eq_true (by omega)
                                          (try rw [show ((0 : Int)).toNat = 0 from rfl] at hx188_0)
                                          (try rw [show 0 * 3 = 0 from rfl] at hx188_0)
                                          (try rw [Addr.add_zero'] at hx188_0)
                                          (try rw [show ((0 : Int)).toNat = 0 from rfl] at hx188_1)
                                          (try rw [show 0 * 3 = 0 from rfl] at hx188_1)
                                          (try rw [Addr.add_zero'] at hx188_1)
                                          (try rw [show ((0 : Int)).toNat = 0 from rfl] at hx188_2)
                                          (try rw [show 0 * 3 = 0 from rfl] at hx188_2)
                                          (try rw [Addr.add_zero'] at hx188_2)
                                          replace p188 := eq_true p188
                                          replace q188 := eq_true q188
                                          refine start_ (n := 8) (S := fun w' => w'.cell? ad187 = some (.int .i64 ((rd_T48 x0_2 0).f0)) ∧ w'.cell? ⟨ad187.block, ad187.off + 1, none⟩ = some (.int .i64 ((rd_T48 x0_2 0).f1)) ∧ w'.cell? ⟨ad187.block, ad187.off + 2, none⟩ = some (.int .i64 ((rd_T48 x0_2 0).f2)) ∧ w'.cell? ad188 = some (.int .i64 ((rd_T48 x1_2 0).f0)) ∧ w'.cell? ⟨ad188.block, ad188.off + 1, none⟩ = some (.int .i64 ((rd_T48 x1_2 0).f1)) ∧ w'.cell? ⟨ad188.block, ad188.off + 2, none⟩ = some (.int .i64 ((rd_T48 x1_2 0).f2))) (ds := []) #[false, false, false, false, false, false, false, false] (by kernel_rfl) rfl rfl ⟨hx187_0, hx187_1, hx187_2, hx188_0, hx188_1, hx188_2⟩ (fun hHeld => ?_); refine with_tabW impl_MergeStamped.tab19 impl_MergeStamped.bits19 (fun HT_ HW_ => ?_)
                                          generalize wc.drew = w78 at HO_0 HO_1 HO_9 HB hx187_0 hx187_1 hx187_2 hx188_0 hx188_1 hx188_2 hHeld ⊢
                                          refine pure_ (i := 0) (N := some 105) (v := ?_) (a' := ?_) #[true, false, false, false, false, false, false, false] rfl rfl (any_of HT_.out (by kernel_rfl)) (fun _ _ _ h => h) (Or.inl ⟨by rfl, ?_⟩) ?_ ?_
                                          rotate_left
                                          · intro w'
                                            go_simp
                                            with_reducible rfl
                                          rotate_left
                                          · simp only [Act.put, List.setIfInBounds_toArray, List.set_cons_zero, List.set_cons_succ, i64_w, i32_w]
                                            rfl
                                          refine pure_ (i := 1) (N := some 106) (v := ?_) (a' := ?_) #[true, true, false, false, false, false, false, false] rfl rfl (any_of HT_.out (by kernel_rfl)) (fun _ _ _ h => h) (Or.inl ⟨by rfl, ?_⟩) ?_ ?_
                                          rotate_left
                                          · intro w'
                                            go_simp
                                            with_reducible rfl
                                          rotate_left
                                          · simp only [Act.put, List.setIfInBounds_toArray, List.set_cons_zero, List.set_cons_succ, i64_w, i32_w]
                                            rfl
                                          refine pure_ (i := 3) (N := some 108) (v := ?_) (a' := ?_) #[true, true, false, true, false, false, false, false] rfl rfl (any_of HT_.out (by kernel_rfl)) (fun _ _ _ h => h) (Or.inl ⟨by rfl, ?_⟩) ?_ ?_
                                          rotate_left
                                          · intro w'
                                            go_simp
                                            with_reducible rfl
                                          rotate_left
                                          · simp only [Act.put, List.setIfInBounds_toArray, List.set_cons_zero, List.set_cons_succ, i64_w, i32_w]
                                            rfl
                                          refine pure_ (i := 4) (N := some 109) (v := ?_) (a' := ?_) #[true, true, false, true, true, false, false, false] rfl rfl (any_of HT_.out (by kernel_rfl)) (fun _ _ _ h => h) (Or.inl ⟨by rfl, ?_⟩) ?_ ?_
                                          rotate_left
                                          · intro w'
                                            go_simp
                                            with_reducible rfl
                                          rotate_left
                                          · simp only [Act.put, List.setIfInBounds_toArray, List.set_cons_zero, List.set_cons_succ, i64_w, i32_w]
                                            rfl
                                          refine take_ (i := 2) (N := some 107) (v := ?_) (a' := ?_) #[true, true, true, true, true, false, false, false] rfl rfl (take_ofW HT_.out HW_.out (by kernel_rfl)) (fun _ _ _ h => h) (Or.inl ⟨by rfl, ?_⟩) hHeld ?_ ?_
                                          rotate_left
                                          · rintro w' ⟨s0, s1, s2, s3, s4, s5⟩
                                            go_simp
                                            with_reducible rfl
                                          rotate_left
                                          · simp only [Act.put, List.setIfInBounds_toArray, List.set_cons_zero, List.set_cons_succ, i64_w, i32_w]
                                            rfl
                                          refine take_ (i := 5) (N := some 110) (v := ?_) (a' := ?_) #[true, true, true, true, true, true, false, false] rfl rfl (take_ofW HT_.out HW_.out (by kernel_rfl)) (fun _ _ _ h => h) (Or.inl ⟨by rfl, ?_⟩) hHeld ?_ ?_
                                          rotate_left
                                          · rintro w' ⟨s0, s1, s2, s3, s4, s5⟩
                                            go_simp
                                            with_reducible rfl
                                          rotate_left
                                          · simp only [Act.put, List.setIfInBounds_toArray, List.set_cons_zero, List.set_cons_succ, i64_w, i32_w]
                                            rfl
                                          refine pure_ (i := 6) (N := some 111) (v := ?_) (a' := ?_) #[true, true, true, true, true, true, true, false] rfl rfl (any_of HT_.out (by kernel_rfl)) (fun _ _ _ h => h) (Or.inl ⟨by rfl, ?_⟩) ?_ ?_
                                          rotate_left
                                          · intro w'
                                            go_simp
                                            with_reducible rfl
                                          rotate_left
                                          · simp only [Act.put, List.setIfInBounds_toArray, List.set_cons_zero, List.set_cons_succ, i64_w, i32_w]
                                            rfl
                                          refine pure_ (i := 7) (N := some 104) (v := ?_) (a' := ?_) #[true, true, true, true, true, true, true, true] rfl rfl (any_of HT_.out (by kernel_rfl)) (fun _ _ _ h => h) (Or.inl ⟨by rfl, ?_⟩) ?_ ?_
                                          rotate_left
                                          · intro w'
                                            go_simp
                                            with_reducible rfl
                                          rotate_left
                                          · simp only [Act.put, List.setIfInBounds_toArray, List.set_cons_zero, List.set_cons_succ, i64_w, i32_w]
                                            rfl
                                          refine done_ (done_of HT_.out (by kernel_rfl)) ?_
                                          try go_wp2
                                          have n0_ := Aside0.mk (Kd.V_drew HO_0.out)
                                          have n1_ := Aside0.mk (Kd.V_drew HO_1.out)
                                          have n2_ := Aside0.mk (Kd.R_drew HO_9.out)
                                          have n3_ := Aside0.mk (below_drew1 HB.out)
                                          clear HO_0
                                          clear HO_1
                                          clear HO_9
                                          clear HB
                                          have HO_0 := n0_
                                          have HO_1 := n1_
                                          have HO_9 := n2_
                                          have HB := n3_
                                          clear n0_ n1_ n2_ n3_
                                          have p189 : 0 ≤ (0 : Int) := (by omega)
                                          have q189 : 0 < (x0_2.length : Int) := of_decide_eq_true (by first | (with_reducible assumption) | assumption)
                                          obtain ⟨ad189, e189, hx189_0, hx189_1, hx189_2⟩ := at_T48 (Kd.V_reads' HO_0.out).2.2 0 p189 q189
                                          obtain rfl : ad187 = ad189 := (by injection e189)
                                          have qi189 : (0 < x0_2.length) = True := eq_true (by omega)
                                          (try rw [show ((0 : Int)).toNat = 0 from rfl] at hx189_0)
                                          (try rw [show 0 * 3 = 0 from rfl] at hx189_0)
                                          (try rw [Addr.add_zero'] at hx189_0)
                                          (try rw [show ((0 : Int)).toNat = 0 from rfl] at hx189_1)
                                          (try rw [show 0 * 3 = 0 from rfl] at hx189_1)
                                          (try rw [Addr.add_zero'] at hx189_1)
                                          (try rw [show ((0 : Int)).toNat = 0 from rfl] at hx189_2)
                                          (try rw [show 0 * 3 = 0 from rfl] at hx189_2)
                                          (try rw [Addr.add_zero'] at hx189_2)
                                          replace p189 := eq_true p189
                                          replace q189 := eq_true q189
                                          have q82 : (1 : Int) ≤ ((x0_2.length : Int) : Int) := of_decide_eq_true (by first | (with_reducible assumption) | assumption)
                                          obtain ⟨i082, hi082, _, hsz82, _⟩ := info_parts info48
                                          have hroom82 : x0_2.length ≤ co79 := (Kd.V_reads' HO_0.out).2.1
                                          have hC82 : Kd.F k48 _ _ (some ad187) x0_2.length x0_2 := (Kd.V_at (base := w.heap.size) HO_0.out).2.2
                                          have hcut82 := cut_from (P := Try.prog) 42 48 .i64 Try.underlying42 hi082 3 hsz82 (some ad187) x0_2.length co79 1 (by omega) q82
                                          have hr82 := Kd.F_cut (m := (1 : Int).toNat) (c := co79) hC82 (by omega) hroom82
                                          obtain ⟨A82, hA82⟩ : ∃ A1, A1 = (if co79 = (1 : Int).toNat then (some ad187) else ((some ad187) : Option Addr).map (·.add ((1 : Int).toNat * 3))) := ⟨_, rfl⟩
                                          obtain ⟨c82, hc82⟩ : ∃ c1, c1 = co79 - (1 : Int).toNat := ⟨_, rfl⟩
                                          have hy82 : y193.length = x0_2.length - (1 : Int).toNat := (by rw [Ny193.out, List.length_drop] <;> omega)
                                          rw [show (x0_2).drop (1 : Int).toNat = y193 from Ny193.out.symm] at hr82
                                          replace hr82 : Kd.F k48 _ _ A82 y193.length y193 := (by rw [hA82]; exact hr82)
                                          rw [← hy82, ← hA82, ← hc82] at hcut82
                                          have HO197 := Aside0.mk (show Kd.V k48 48 _ w.heap.size _ (.slice A82 y193.length c82) y193 from Kd.V_mk (by rw [hy82, hc82]; exact Nat.sub_le_sub_right hroom82 _) hr82)
                                          have HC197 := Aside0.mk (show y193.length ≤ c82 from by rw [hy82, hc82]; exact Nat.sub_le_sub_right hroom82 _)
                                          clear hr82 hC82 hroom82 hi082 hsz82 hc82
                                          have KY82 := Aside0.mk hy82
                                          have KA82 := Aside0.mk hA82
                                          clear hy82 hA82
                                          replace q82 := eq_true q82
                                          have q83 : (1 : Int) ≤ ((x1_2.length : Int) : Int) := of_decide_eq_true (by first | (with_reducible assumption) | assumption)
                                          obtain ⟨i083, hi083, _, hsz83, _⟩ := info_parts info48
                                          have hroom83 : x1_2.length ≤ co80 := (Kd.V_reads' HO_1.out).2.1
                                          have hC83 : Kd.F k48 _ _ (some ad188) x1_2.length x1_2 := (Kd.V_at (base := w.heap.size) HO_1.out).2.2
                                          have hcut83 := cut_from (P := Try.prog) 42 48 .i64 Try.underlying42 hi083 3 hsz83 (some ad188) x1_2.length co80 1 (by omega) q83
                                          have hr83 := Kd.F_cut (m := (1 : Int).toNat) (c := co80) hC83 (by omega) hroom83
                                          obtain ⟨A83, hA83⟩ : ∃ A1, A1 = (if co80 = (1 : Int).toNat then (some ad188) else ((some ad188) : Option Addr).map (·.add ((1 : Int).toNat * 3))) := ⟨_, rfl⟩
                                          obtain ⟨c83, hc83⟩ : ∃ c1, c1 = co80 - (1 : Int).toNat := ⟨_, rfl⟩
                                          have hy83 : y198.length = x1_2.length - (1 : Int).toNat := (by rw [Ny198.out, List.length_drop] <;> omega)
                                          rw [show (x1_2).drop (1 : Int).toNat = y198 from Ny198.out.symm] at hr83
                                          replace hr83 : Kd.F k48 _ _ A83 y198.length y198 := (by rw [hA83]; exact hr83)
                                          rw [← hy83, ← hA83, ← hc83] at hcut83
                                          have HO202 := Aside0.mk (show Kd.V k48 48 _ w.heap.size _ (.slice A83 y198.length c83) y198 from Kd.V_mk (by rw [hy83, hc83]; exact Nat.sub_le_sub_right hroom83 _) hr83)
                                          have HC202 := Aside0.mk (show y198.length ≤ c83 from by rw [hy83, hc83]; exact Nat.sub_le_sub_right hroom83 _)
                                          clear hr83 hC83 hroom83 hi083 hsz83 hc83
                                          have KY83 := Aside0.mk hy83
                                          have KA83 := Aside0.mk hA83
                                          clear hy83 hA83
                                          replace q83 := eq_true q83
                                          refine start_ (n := 13) (S := fun w' => w'.cell? ad187 = some (.int .i64 ((rd_T48 x0_2 0).f0)) ∧ w'.cell? ⟨ad187.block, ad187.off + 1, none⟩ = some (.int .i64 ((rd_T48 x0_2 0).f1)) ∧ w'.cell? ⟨ad187.block, ad187.off + 2, none⟩ = some (.int .i64 ((rd_T48 x0_2 0).f2))) (ds := [4, 5]) #[false, false, false, false, false, false, false, false, false, false, false, false, false] (by kernel_rfl) rfl rfl ⟨hx189_0, hx189_1, hx189_2⟩ (fun hHeld => ?_); refine with_tabW impl_MergeStamped.tab14 impl_MergeStamped.bits14 (fun HT_ HW_ => ?_)
                                          generalize w78.drew = w81 at HO_0 HO_1 HO_9 HB HO197 HO202 hx189_0 hx189_1 hx189_2 hHeld ⊢
                                          refine pure_ (i := 0) (N := some 47) (v := ?_) (a' := ?_) #[true, false, false, false, false, false, false, false, false, false, false, false, false] rfl rfl (any_of HT_.out (by kernel_rfl)) (fun _ _ _ h => h) (Or.inl ⟨by rfl, ?_⟩) ?_ ?_
                                          rotate_left
                                          · intro w'
                                            go_simp
                                            with_reducible rfl
                                          rotate_left
                                          · simp only [Act.put, List.setIfInBounds_toArray, List.set_cons_zero, List.set_cons_succ, i64_w, i32_w]
                                            rfl
                                          refine pure_ (i := 1) (N := some 48) (v := ?_) (a' := ?_) #[true, true, false, false, false, false, false, false, false, false, false, false, false] rfl rfl (any_of HT_.out (by kernel_rfl)) (fun _ _ _ h => h) (Or.inl ⟨by rfl, ?_⟩) ?_ ?_
                                          rotate_left
                                          · intro w'
                                            go_simp
                                            with_reducible rfl
                                          rotate_left
                                          · simp only [Act.put, List.setIfInBounds_toArray, List.set_cons_zero, List.set_cons_succ, i64_w, i32_w]
                                            rfl
                                          refine pure_ (i := 2) (N := some 49) (v := ?_) (a' := ?_) #[true, true, true, false, false, false, false, false, false, false, false, false, false] rfl rfl (any_of HT_.out (by kernel_rfl)) (fun _ _ _ h => h) (Or.inl ⟨by rfl, ?_⟩) ?_ ?_
                                          rotate_left
                                          · intro w'
                                            go_simp
                                            with_reducible rfl
                                          rotate_left
                                          · simp only [Act.put, List.setIfInBounds_toArray, List.set_cons_zero, List.set_cons_succ, i64_w, i32_w]
                                            rfl
                                          refine pure_ (i := 6) (N := some 53) (v := ?_) (a' := ?_) #[true, true, true, false, false, false, true, false, false, false, false, false, false] rfl rfl (any_of HT_.out (by kernel_rfl)) (fun _ _ _ h => h) (Or.inl ⟨by rfl, ?_⟩) ?_ ?_
                                          rotate_left
                                          · intro w'
                                            go_simp
                                            with_reducible rfl
                                          rotate_left
                                          · simp only [Act.put, List.setIfInBounds_toArray, List.set_cons_zero, List.set_cons_succ, i64_w, i32_w]
                                            rfl
                                          refine pure_ (i := 7) (N := some 54) (v := ?_) (a' := ?_) #[true, true, true, false, false, false, true, true, false, false, false, false, false] rfl rfl (any_of HT_.out (by kernel_rfl)) (fun _ _ _ h => h) (Or.inl ⟨by rfl, ?_⟩) ?_ ?_
                                          rotate_left
                                          · intro w'
                                            go_simp
                                            with_reducible rfl
                                          rotate_left
                                          · simp only [Act.put, List.setIfInBounds_toArray, List.set_cons_zero, List.set_cons_succ, i64_w, i32_w]
                                            rfl
                                          refine pure_ (i := 8) (N := some 55) (v := ?_) (a' := ?_) #[true, true, true, false, false, false, true, true, true, false, false, false, false] rfl rfl (any_of HT_.out (by kernel_rfl)) (fun _ _ _ h => h) (Or.inl ⟨by rfl, ?_⟩) ?_ ?_
                                          rotate_left
                                          · intro w'
                                            go_simp
                                            with_reducible rfl
                                          rotate_left
                                          · simp only [Act.put, List.setIfInBounds_toArray, List.set_cons_zero, List.set_cons_succ, i64_w, i32_w]
                                            rfl
                                          refine pure_ (i := 9) (N := some 56) (v := ?_) (a' := ?_) #[true, true, true, false, false, false, true, true, true, true, false, false, false] rfl rfl (any_of HT_.out (by kernel_rfl)) (fun _ _ _ h => h) (Or.inl ⟨by rfl, ?_⟩) ?_ ?_
                                          rotate_left
                                          · intro w'
                                            go_simp
                                            with_reducible rfl
                                          rotate_left
                                          · simp only [Act.put, List.setIfInBounds_toArray, List.set_cons_zero, List.set_cons_succ, i64_w, i32_w]
                                            rfl
                                          refine take_ (i := 3) (N := some 50) (v := ?_) (a' := ?_) #[true, true, true, true, false, false, true, true, true, true, false, false, false] rfl rfl (take_ofW HT_.out HW_.out (by kernel_rfl)) (fun _ _ _ h => h) (Or.inl ⟨by rfl, ?_⟩) hHeld ?_ ?_
                                          rotate_left
                                          · rintro w' ⟨s0, s1, s2⟩
                                            go_simp
                                            with_reducible rfl
                                          rotate_left
                                          · simp only [Act.put, List.setIfInBounds_toArray, List.set_cons_zero, List.set_cons_succ, i64_w, i32_w]
                                            rfl
                                          refine last_ (i := 4) (N := some 51) #[true, true, true, true, true, false, true, true, true, true, false, false, false] rfl rfl (one_of HT_.out (by kernel_rfl)) (by decide) (fun K hK => ?_)
                                          refine value_ (w1 := ?_) (v := ?_) (by rfl) rfl ?_ ?_
                                          rotate_left 2
                                          · go_simp
                                            constructor
                                            · rfl
                                            · rfl
                                          refine hK.out _ _ ?_
                                          clear hK K
                                          refine norm_ (a' := ?_) ?_ ?_
                                          rotate_left
                                          · show Act.put _ (some 51) _ = _
                                            simp only [Act.put, List.setIfInBounds_toArray, List.set_cons_zero, List.set_cons_succ, i64_w, i32_w]
                                            rfl
                                          refine last_ (i := 5) (N := some 52) #[true, true, true, true, true, true, true, true, true, true, false, false, false] rfl rfl (one_of HT_.out (by kernel_rfl)) (by decide) (fun K hK => ?_)
                                          refine Kd.R_append_step k48 (w0 := w) w.heap.size (by rfl) (.tmp 47) (.tmp 51) 42 48 (.agg #[(.int .i64 0), (.int .i64 0), (.int .i64 0)]) 24 rfl Try.underlying42 info48 rfl (by decide) (by omega) u9 x9_2 (⟨(rd_T48 x0_2 0).f0, (rd_T48 x0_2 0).f1, (rd_T48 x0_2 0).f2⟩ : S48) [.int .i64 ((rd_T48 x0_2 0).f0), .int .i64 ((rd_T48 x0_2 0).f1), .int .i64 ((rd_T48 x0_2 0).f2)] (fun k_ => (w.heap.size ≤ k_)) (fun _ => False) rfl rfl ?aP (fun _ hk => hk.elim) ?aF ?aO ?aB ?aS ?aL ?_
                                          (case aP => exact k48_mkM _ _ _ (⟨(rd_T48 x0_2 0).f0, (rd_T48 x0_2 0).f1, (rd_T48 x0_2 0).f2⟩ : S48))
                                          (case aB => exact (by repeat (first | (with_reducible first | exact HB.out | apply below_alloc | apply pw_below_drewN | apply below_drew1) | exact HB.out)))
                                          (case aF => exact (fun k_ hk => (Nat.le_trans (below_size (by repeat (first | (with_reducible first | exact HB.out | apply below_alloc | apply pw_below_drewN | apply below_drew1) | exact HB.out))) hk)))
                                          (case aO => exact (by (with_reducible repeat (first | apply Kd.R_alloc | apply Kd.R_drewN | apply Kd.R_drew)); exact HO_9.out))
                                          (case aS => exact (below_size (by repeat (first | (with_reducible first | exact HB.out | apply below_alloc | apply pw_below_drewN | apply below_drew1) | exact HB.out))))
                                          (case aL => have := LMc75.out; omega)
                                          intro v191 w84 ho hb hg hat
                                          rw [← Ny190.out] at ho
                                          have n0_ := Aside0.mk (Kd.V_afterv (ok := (fun k_ => ((P0_ k_ ∨ P1_ k_) ∨ w.heap.size ≤ k_))) (by (with_reducible repeat (first | apply Kd.V_alloc | apply Kd.V_drewN | apply Kd.V_drew)); exact HO_0.out) hg hat)
                                          have n1_ := Aside0.mk (Kd.V_afterv (ok := (fun k_ => ((P0_ k_ ∨ P1_ k_) ∨ w.heap.size ≤ k_))) (by (with_reducible repeat (first | apply Kd.V_alloc | apply Kd.V_drewN | apply Kd.V_drew)); exact HO_1.out) hg hat)
                                          have n2_ := Aside0.mk (Kd.V_afterv (ok := (fun k_ => ((P0_ k_ ∨ P1_ k_) ∨ w.heap.size ≤ k_))) (by (with_reducible repeat (first | apply Kd.V_alloc | apply Kd.V_drewN | apply Kd.V_drew)); exact HO197.out) hg hat)
                                          have n3_ := Aside0.mk (Kd.V_afterv (ok := (fun k_ => ((P0_ k_ ∨ P1_ k_) ∨ w.heap.size ≤ k_))) (by (with_reducible repeat (first | apply Kd.V_alloc | apply Kd.V_drewN | apply Kd.V_drew)); exact HO202.out) hg hat)
                                          have n4_ := Aside0.mk (hb)
                                          have n5_ := Aside0.mk (ho)
                                          clear HO_0
                                          clear HO_1
                                          clear HO197
                                          clear HO202
                                          clear HB
                                          clear HO_9
                                          have HO_0 := n0_
                                          have HO_1 := n1_
                                          have HO197 := n2_
                                          have HO202 := n3_
                                          have HB := n4_
                                          have HO192 := n5_
                                          clear n0_ n1_ n2_ n3_ n4_ n5_
                                          clear ho hb hg hat
                                          refine hK.out _ _ ?_
                                          clear hK K
                                          refine norm_ (a' := ?_) ?_ ?_
                                          rotate_left
                                          · show Act.put _ (some 52) _ = _
                                            simp only [Act.put, List.setIfInBounds_toArray, List.set_cons_zero, List.set_cons_succ, i64_w, i32_w]
                                            rfl
                                          refine pure_ (i := 10) (N := some 9) (v := ?_) (a' := ?_) #[true, true, true, true, true, true, true, true, true, true, true, false, false] rfl rfl (any_of HT_.out (by kernel_rfl)) (fun _ _ _ h => h) (Or.inl ⟨by rfl, ?_⟩) ?_ ?_
                                          rotate_left
                                          · intro w'
                                            go_simp
                                            with_reducible rfl
                                          rotate_left
                                          · simp only [Act.put, List.setIfInBounds_toArray, List.set_cons_zero, List.set_cons_succ, i64_w, i32_w]
                                            rfl
                                          refine pure_ (i := 11) (N := some 0) (v := ?_) (a' := ?_) #[true, true, true, true, true, true, true, true, true, true, true, true, false] rfl rfl (any_of HT_.out (by kernel_rfl)) (fun _ _ _ h => h) (Or.inl ⟨by rfl, ?_⟩) ?_ ?_
                                          rotate_left
                                          · intro w'
                                            go_simp
                                            with_reducible rfl
                                          rotate_left
                                          · simp only [Act.put, List.setIfInBounds_toArray, List.set_cons_zero, List.set_cons_succ, i64_w, i32_w]
                                            rfl
                                          refine pure_ (i := 12) (N := some 1) (v := ?_) (a' := ?_) #[true, true, true, true, true, true, true, true, true, true, true, true, true] rfl rfl (any_of HT_.out (by kernel_rfl)) (fun _ _ _ h => h) (Or.inl ⟨by rfl, ?_⟩) ?_ ?_
                                          rotate_left
                                          · intro w'
                                            go_simp
                                            with_reducible rfl
                                          rotate_left
                                          · simp only [Act.put, List.setIfInBounds_toArray, List.set_cons_zero, List.set_cons_succ, i64_w, i32_w]
                                            rfl
                                          refine done_ (done_of HT_.out (by kernel_rfl)) ?_
                                          try go_wp2
                                          go_roundg kj49
                                          case measure => have := HK1.out; have := HK2.out; have := HJ20.out; have := HJ26.out; have := HJ49.out; omega
                                          case rel => exact ⟨(y193), (y198), (y190), H', ⟨by have := HK1.out; have := HK2.out; have := HJ20.out; have := HJ26.out; have := HJ49.out; omega⟩, ⟨by (with_reducible repeat (first | apply Kd.V_alloc | apply Kd.V_drewN | apply Kd.V_drew)); exact HO197.out⟩, ⟨by (with_reducible repeat (first | apply Kd.V_alloc | apply Kd.V_drewN | apply Kd.V_drew)); exact HO202.out⟩, ⟨by (with_reducible repeat (first | apply Kd.R_alloc | apply Kd.R_drewN | apply Kd.R_drew)); exact HO192.out⟩, ⟨by repeat (first | (with_reducible first | exact HB.out | apply below_alloc | apply pw_below_drewN | apply below_drew1) | exact HB.out)⟩⟩
                                        · rw [if_neg c77] at H
                                          exact absurd H (by simp)
                                      · rw [if_neg c76] at H
                                        exact absurd H (by simp)
                                    · rw [if_neg c75] at H
                                      exact absurd H (by simp)
                                · rw [if_neg c70] at H
                                  exact absurd H (by simp)
                              · rw [if_neg c69] at H
                                exact absurd H (by simp)
                · replace c26 := Bool.eq_false_iff.mpr c26
                  subst c26
                  have H1 : (some (x9_2, true)) = some (r1, r2) := by rw [if_neg (show ¬ (false = true) by decide)] at H; exact H
                  clear H
                  have H := H1
                  clear H1
                  simp only [Option.some.injEq, Prod.mk.injEq] at H
                  obtain ⟨rfl, rfl⟩ := H
                  go_wp2
                  go_ret2
                  exact ⟨_, by first | rfl | (simp [errW_none, errW_some] <;> rfl) | (simp [*, errW_none, errW_some] <;> rfl), by (with_reducible repeat (first | apply Kd.R_alloc | apply Kd.R_drewN | apply Kd.R_drew)); exact HO_9.out, by repeat (first | (with_reducible first | exact HB.out | apply below_alloc | apply pw_below_drewN | apply below_drew1) | exact HB.out)⟩

end Go.Proofs.Ytmlejakajcmbdaa.PFnMerge
