-- Written by this session's own program for the law FnRanked; it began as the print's text.
import Derived.Test.YtdbcoojibbboiaaQFnRankedx0
import Derived.Test.YtdbcoojibbboiaaQFnRankedx3
import Derived.Test.YtdbcoojibbboiaaQFnRankedx50
namespace Go.Proofs.Ytdbcoojibbboiaa.PFnRanked
open Go.RowKit Go.Proofs.YtdbcoojibbboiaaW.PrintWords Go.Proofs.YtdbcoojibbboiaaW.PrintLast Go.Proofs.YtdbcoojibbboiaaW.PrintMore
attribute [local go_sem] max2_int min2_int max_two min_two max_three min_three max_four min_four   -- for this text's walks alone
set_option linter.unusedVariables false
set_option linter.unusedSimpArgs false

/-! ### impl_play: function 28 -/
mutual
def impl_play.j0 : Nat → List (S62) → List Int → Int → Bool → Option ((List (S59)) × List Int × Bool)
 | 0, _, _, _, _ => none
 | k + 1, x0, x1, x2, x36 => if x36 = true then (some (([] : List (S59)), ([] : List Int), false)) else (impl_play.l0 k x0 x1 x2 x1 (x1.length : Int) 0)
def impl_play.l0 : Nat → List (S62) → List Int → Int → List Int → Int → Int → Option ((List (S59)) × List Int × Bool)
 | 0, _, _, _, _, _, _ => none
 | k + 1, x0, x1, x2, x37, x38, x39 => if x39 < x38 then (if 0 ≤ x39 then (if x39 < (x37.length : Int) then ((impl_between.f (rd x37 x39) 0 60).bind fun t110 => (if t110 = true then (impl_play.l0 k x0 x1 x2 x37 x38 (wrap64 (x39 + 1))) else (some (([] : List (S59)), ([] : List Int), false)))) else (none)) else (none)) else (if 0 ≤ (x0.length : Int) then (if ((x0.length : Int) : Int).toNat ≤ 11728124029610 then (if ((x0.length : Int) : Int).toNat ≤ 35184372088832 then (impl_play.l1 k x0 x1 (List.replicate ((x0.length : Int) : Int).toNat []) (List.replicate ((x0.length : Int) : Int).toNat 0) ([] : List (S59)) x2 0) else (none)) else (none)) else (none))
def impl_play.l1 : Nat → List (S62) → List Int → List (List (S55)) → List Int → List (S59) → Int → Int → Option ((List (S59)) × List Int × Bool)
 | 0, _, _, _, _, _, _, _ => none
 | k + 1, x0, x1, x13, x14, x15, x53, x54 => if x54 < x53 then (impl_play.l2 k x0 x1 x13 x14 x15 x54 (-1) x53 x54 x0 (x0.length : Int) 0) else (some (x15, x14, true))
def impl_play.l2 : Nat → List (S62) → List Int → List (List (S55)) → List Int → List (S59) → Int → Int → Int → Int → List (S62) → Int → Int → Option ((List (S59)) × List Int × Bool)
 | 0, _, _, _, _, _, _, _, _, _, _, _, _ => none
 | k + 1, x0, x1, x13, x14, x15, x16, x17, x53, x54, x57, x58, x59 => if x59 < x58 then (if 0 ≤ x59 then (if x59 < (x57.length : Int) then (if x59 < (x1.length : Int) then (if x16 ≥ (rd x1 x59) then (if ((rd_T62 x57 x59).f0) = 0 then (none) else (impl_play.j4 k x0 x1 x13 x14 x15 x16 x17 x59 x53 x54 x57 x58 x59 ((Int.tmod (wrap64 (x16 - (rd x1 x59))) ((rd_T62 x57 x59).f0)) == 0) ((rd_T62 x57 x59).f0) ((rd_T62 x57 x59).f1) ((rd_T62 x57 x59).f2))) else (impl_play.j4 k x0 x1 x13 x14 x15 x16 x17 x59 x53 x54 x57 x58 x59 false ((rd_T62 x57 x59).f0) ((rd_T62 x57 x59).f1) ((rd_T62 x57 x59).f2))) else (none)) else (none)) else (none)) else (if x17 < 0 then (impl_play.l1 k x0 x1 x13 x14 x15 x53 (wrap64 (x54 + 1))) else (if (x15.length : Int) > 0 then (if 0 ≤ (wrap64 ((x15.length : Int) - 1)) then (if (wrap64 ((x15.length : Int) - 1)) < (x15.length : Int) then (if ((rd_T59 x15 (wrap64 ((x15.length : Int) - 1))).f2) = x17 then (impl_play.j7 k x0 x1 x13 x14 x15 x16 x17 (x15.length : Int) x53 x54 (((rd_T59 x15 (wrap64 ((x15.length : Int) - 1))).f1) == x16)) else (impl_play.j7 k x0 x1 x13 x14 x15 x16 x17 (x15.length : Int) x53 x54 false)) else (none)) else (none)) else (impl_play.j7 k x0 x1 x13 x14 x15 x16 x17 (x15.length : Int) x53 x54 false)))
def impl_play.j4 : Nat → List (S62) → List Int → List (List (S55)) → List Int → List (S59) → Int → Int → Int → Int → Int → List (S62) → Int → Int → Bool → Int → Int → Int → Option ((List (S59)) × List Int × Bool)
 | 0, _, _, _, _, _, _, _, _, _, _, _, _, _, _, _, _, _ => none
 | k + 1, x0, x1, x13, x14, x15, x16, x17, x18, x53, x54, x57, x58, x59, x81, x119000, x119001, x119002 => if x81 = true then (if 0 ≤ x18 then (if x18 < (x13.length : Int) then (if (rd_L3 x13 x18).length < 8796093022208 then (impl_play.j5 k x0 x1 (x13.set (x18 : Int).toNat ((rd_L3 x13 x18) ++ [(⟨x16, x119001⟩ : S55)])) x14 x15 x16 x17 x18 x53 x54 x57 x58 x59) else (none)) else (none)) else (none)) else (impl_play.j5 k x0 x1 x13 x14 x15 x16 x17 x18 x53 x54 x57 x58 x59)
def impl_play.j5 : Nat → List (S62) → List Int → List (List (S55)) → List Int → List (S59) → Int → Int → Int → Int → Int → List (S62) → Int → Int → Option ((List (S59)) × List Int × Bool)
 | 0, _, _, _, _, _, _, _, _, _, _, _, _, _ => none
 | k + 1, x0, x1, x13, x14, x15, x16, x17, x18, x53, x54, x57, x58, x59 => if 0 ≤ x18 then (if x18 < (x13.length : Int) then (if ((rd_L3 x13 x18).length : Int) > 0 then (if x17 < 0 then (impl_play.j6 k x0 x1 x13 x14 x15 x16 x17 x18 x53 x54 x57 x58 x59 true) else (if 0 < ((rd_L3 x13 x18).length : Int) then (if 0 ≤ x17 then (if x17 < (x13.length : Int) then (if 0 < ((rd_L3 x13 x17).length : Int) then (if x17 < (x0.length : Int) then (impl_play.j6 k x0 x1 x13 x14 x15 x16 x17 x18 x53 x54 x57 x58 x59 (soonB x0 x18 (rd_T55 (rd_L3 x13 x18) 0) x17 (rd_T55 (rd_L3 x13 x17) 0))) else (none)) else (none)) else (none)) else (none)) else (none))) else (impl_play.j6 k x0 x1 x13 x14 x15 x16 x17 x18 x53 x54 x57 x58 x59 false)) else (none)) else (none)
def impl_play.j6 : Nat → List (S62) → List Int → List (List (S55)) → List Int → List (S59) → Int → Int → Int → Int → Int → List (S62) → Int → Int → Bool → Option ((List (S59)) × List Int × Bool)
 | 0, _, _, _, _, _, _, _, _, _, _, _, _, _, _ => none
 | k + 1, x0, x1, x13, x14, x15, x16, x17, x18, x53, x54, x57, x58, x59, x122 => if x122 = true then (impl_play.l2 k x0 x1 x13 x14 x15 x16 x18 x53 x54 x57 x58 (wrap64 (x59 + 1))) else (impl_play.l2 k x0 x1 x13 x14 x15 x16 x17 x53 x54 x57 x58 (wrap64 (x59 + 1)))
def impl_play.j7 : Nat → List (S62) → List Int → List (List (S55)) → List Int → List (S59) → Int → Int → Int → Int → Int → Bool → Option ((List (S59)) × List Int × Bool)
 | 0, _, _, _, _, _, _, _, _, _, _, _ => none
 | k + 1, x0, x1, x13, x14, x15, x16, x17, x20, x53, x54, x150 => if x150 = true then (if 0 ≤ (wrap64 (x20 - 1)) then (if (wrap64 (x20 - 1)) < (x15.length : Int) then (impl_play.j8 k x0 x1 x13 x14 (x15.set ((wrap64 (x20 - 1)) : Int).toNat (⟨(rd_T59 x15 (wrap64 (x20 - 1))).f0, wrap64 (((rd_T59 x15 (wrap64 (x20 - 1))).f1) + 1), (rd_T59 x15 (wrap64 (x20 - 1))).f2⟩ : S59)) x16 x17 x53 x54) else (none)) else (none)) else (if x15.length < 5864062014805 then (impl_play.j8 k x0 x1 x13 x14 (x15 ++ [(⟨x16, wrap64 (x16 + 1), x17⟩ : S59)]) x16 x17 x53 x54) else (none))
def impl_play.j8 : Nat → List (S62) → List Int → List (List (S55)) → List Int → List (S59) → Int → Int → Int → Int → Option ((List (S59)) × List Int × Bool)
 | 0, _, _, _, _, _, _, _, _, _ => none
 | k + 1, x0, x1, x13, x14, x15, x16, x17, x53, x54 => if 0 ≤ x17 then (if x17 < (x13.length : Int) then (if 0 < ((rd_L3 x13 x17).length : Int) then (if (wrap64 (((rd_T55 (rd_L3 x13 x17) 0).f1) - 1)) = 0 then (if x17 < (x14.length : Int) then (impl_play.l1 k x0 x1 (x13.set (x17 : Int).toNat ((rd_L3 x13 x17).drop 1)) (x14.set (x17 : Int).toNat (mx (rd x14 x17) (wrap64 ((wrap64 (x16 + 1)) - ((rd_T55 (rd_L3 x13 x17) 0).f0))))) x15 x53 (wrap64 (x54 + 1))) else (none)) else (impl_play.l1 k x0 x1 (x13.set (x17 : Int).toNat ((rd_L3 x13 x17).set 0 (⟨(rd_T55 (rd_L3 x13 x17) 0).f0, wrap64 (((rd_T55 (rd_L3 x13 x17) 0).f1) - 1)⟩ : S55))) x14 x15 x53 (wrap64 (x54 + 1)))) else (none)) else (none)) else (none)
end
def impl_play.f (k : Nat) (l0 : List (S62)) (l1 : List Int) (a2 : Int) (a3 : Int) : Option ((List (S59)) × List Int × Bool) := (impl_GoodChores.f k l0).bind fun t107 => (if t107 = true then (if (l1.length : Int) = (l0.length : Int) then ((impl_between.f a2 0 2000).bind fun t108 => (impl_play.j0 k l0 l1 a2 (!t108))) else (impl_play.j0 k l0 l1 a2 true)) else (impl_play.j0 k l0 l1 a2 true))
theorem impl_play.mono_l : ∀ k, (∀ y0 y1 y2 y3, LeO (impl_play.j0 k y0 y1 y2 y3) (impl_play.j0 (k + 1) y0 y1 y2 y3)) ∧ (∀ y0 y1 y2 y3 y4 y5, LeO (impl_play.l0 k y0 y1 y2 y3 y4 y5) (impl_play.l0 (k + 1) y0 y1 y2 y3 y4 y5)) ∧ (∀ y0 y1 y2 y3 y4 y5 y6, LeO (impl_play.l1 k y0 y1 y2 y3 y4 y5 y6) (impl_play.l1 (k + 1) y0 y1 y2 y3 y4 y5 y6)) ∧ (∀ y0 y1 y2 y3 y4 y5 y6 y7 y8 y9 y10 y11, LeO (impl_play.l2 k y0 y1 y2 y3 y4 y5 y6 y7 y8 y9 y10 y11) (impl_play.l2 (k + 1) y0 y1 y2 y3 y4 y5 y6 y7 y8 y9 y10 y11)) ∧ (∀ y0 y1 y2 y3 y4 y5 y6 y7 y8 y9 y10 y11 y12 y13 y14 y15 y16, LeO (impl_play.j4 k y0 y1 y2 y3 y4 y5 y6 y7 y8 y9 y10 y11 y12 y13 y14 y15 y16) (impl_play.j4 (k + 1) y0 y1 y2 y3 y4 y5 y6 y7 y8 y9 y10 y11 y12 y13 y14 y15 y16)) ∧ (∀ y0 y1 y2 y3 y4 y5 y6 y7 y8 y9 y10 y11 y12, LeO (impl_play.j5 k y0 y1 y2 y3 y4 y5 y6 y7 y8 y9 y10 y11 y12) (impl_play.j5 (k + 1) y0 y1 y2 y3 y4 y5 y6 y7 y8 y9 y10 y11 y12)) ∧ (∀ y0 y1 y2 y3 y4 y5 y6 y7 y8 y9 y10 y11 y12 y13, LeO (impl_play.j6 k y0 y1 y2 y3 y4 y5 y6 y7 y8 y9 y10 y11 y12 y13) (impl_play.j6 (k + 1) y0 y1 y2 y3 y4 y5 y6 y7 y8 y9 y10 y11 y12 y13)) ∧ (∀ y0 y1 y2 y3 y4 y5 y6 y7 y8 y9 y10, LeO (impl_play.j7 k y0 y1 y2 y3 y4 y5 y6 y7 y8 y9 y10) (impl_play.j7 (k + 1) y0 y1 y2 y3 y4 y5 y6 y7 y8 y9 y10)) ∧ (∀ y0 y1 y2 y3 y4 y5 y6 y7 y8, LeO (impl_play.j8 k y0 y1 y2 y3 y4 y5 y6 y7 y8) (impl_play.j8 (k + 1) y0 y1 y2 y3 y4 y5 y6 y7 y8))
 | 0 => ⟨fun _ _ _ _ r h => by simp [impl_play.j0] at h, fun _ _ _ _ _ _ r h => by simp [impl_play.l0] at h, fun _ _ _ _ _ _ _ r h => by simp [impl_play.l1] at h, fun _ _ _ _ _ _ _ _ _ _ _ _ r h => by simp [impl_play.l2] at h, fun _ _ _ _ _ _ _ _ _ _ _ _ _ _ _ _ _ r h => by simp [impl_play.j4] at h, fun _ _ _ _ _ _ _ _ _ _ _ _ _ r h => by simp [impl_play.j5] at h, fun _ _ _ _ _ _ _ _ _ _ _ _ _ _ r h => by simp [impl_play.j6] at h, fun _ _ _ _ _ _ _ _ _ _ _ r h => by simp [impl_play.j7] at h, fun _ _ _ _ _ _ _ _ _ r h => by simp [impl_play.j8] at h⟩
 | k + 1 => by
  obtain ⟨ih0, ih1, ih2, ih3, ih4, ih5, ih6, ih7, ih8⟩ := impl_play.mono_l k
  refine ⟨?_, ?_, ?_, ?_, ?_, ?_, ?_, ?_, ?_⟩
  · intro y0 y1 y2 y3
    unfold impl_play.j0
    repeat' first
    | (with_reducible exact ih0 _ _ _ _)
    | (with_reducible exact ih1 _ _ _ _ _ _)
    | (with_reducible exact ih2 _ _ _ _ _ _ _)
    | (with_reducible exact ih3 _ _ _ _ _ _ _ _ _ _ _ _)
    | (with_reducible exact ih4 _ _ _ _ _ _ _ _ _ _ _ _ _ _ _ _ _)
    | (with_reducible exact ih5 _ _ _ _ _ _ _ _ _ _ _ _ _)
    | (with_reducible exact ih6 _ _ _ _ _ _ _ _ _ _ _ _ _ _)
    | (with_reducible exact ih7 _ _ _ _ _ _ _ _ _ _ _)
    | (with_reducible exact ih8 _ _ _ _ _ _ _ _ _)
    | (with_reducible exact impl_GoodChores.mono _ _)
    | (with_reducible exact LeO.refl _)
    | (with_reducible exact LeO.none _)
    | (with_reducible refine LeO.ite ?_ ?_)
    | (with_reducible refine LeO.bind ?_ (fun _ => ?_))
    | exact ih0 _ _ _ _
    | exact ih1 _ _ _ _ _ _
    | exact ih2 _ _ _ _ _ _ _
    | exact ih3 _ _ _ _ _ _ _ _ _ _ _ _
    | exact ih4 _ _ _ _ _ _ _ _ _ _ _ _ _ _ _ _ _
    | exact ih5 _ _ _ _ _ _ _ _ _ _ _ _ _
    | exact ih6 _ _ _ _ _ _ _ _ _ _ _ _ _ _
    | exact ih7 _ _ _ _ _ _ _ _ _ _ _
    | exact ih8 _ _ _ _ _ _ _ _ _
    | exact impl_GoodChores.mono _ _
    | exact LeO.none _
    | refine LeO.ite ?_ ?_
    | refine LeO.bind ?_ (fun _ => ?_)
  · intro y0 y1 y2 y3 y4 y5
    unfold impl_play.l0
    repeat' first
    | (with_reducible exact ih0 _ _ _ _)
    | (with_reducible exact ih1 _ _ _ _ _ _)
    | (with_reducible exact ih2 _ _ _ _ _ _ _)
    | (with_reducible exact ih3 _ _ _ _ _ _ _ _ _ _ _ _)
    | (with_reducible exact ih4 _ _ _ _ _ _ _ _ _ _ _ _ _ _ _ _ _)
    | (with_reducible exact ih5 _ _ _ _ _ _ _ _ _ _ _ _ _)
    | (with_reducible exact ih6 _ _ _ _ _ _ _ _ _ _ _ _ _ _)
    | (with_reducible exact ih7 _ _ _ _ _ _ _ _ _ _ _)
    | (with_reducible exact ih8 _ _ _ _ _ _ _ _ _)
    | (with_reducible exact impl_GoodChores.mono _ _)
    | (with_reducible exact LeO.refl _)
    | (with_reducible exact LeO.none _)
    | (with_reducible refine LeO.ite ?_ ?_)
    | (with_reducible refine LeO.bind ?_ (fun _ => ?_))
    | exact ih0 _ _ _ _
    | exact ih1 _ _ _ _ _ _
    | exact ih2 _ _ _ _ _ _ _
    | exact ih3 _ _ _ _ _ _ _ _ _ _ _ _
    | exact ih4 _ _ _ _ _ _ _ _ _ _ _ _ _ _ _ _ _
    | exact ih5 _ _ _ _ _ _ _ _ _ _ _ _ _
    | exact ih6 _ _ _ _ _ _ _ _ _ _ _ _ _ _
    | exact ih7 _ _ _ _ _ _ _ _ _ _ _
    | exact ih8 _ _ _ _ _ _ _ _ _
    | exact impl_GoodChores.mono _ _
    | exact LeO.none _
    | refine LeO.ite ?_ ?_
    | refine LeO.bind ?_ (fun _ => ?_)
  · intro y0 y1 y2 y3 y4 y5 y6
    unfold impl_play.l1
    repeat' first
    | (with_reducible exact ih0 _ _ _ _)
    | (with_reducible exact ih1 _ _ _ _ _ _)
    | (with_reducible exact ih2 _ _ _ _ _ _ _)
    | (with_reducible exact ih3 _ _ _ _ _ _ _ _ _ _ _ _)
    | (with_reducible exact ih4 _ _ _ _ _ _ _ _ _ _ _ _ _ _ _ _ _)
    | (with_reducible exact ih5 _ _ _ _ _ _ _ _ _ _ _ _ _)
    | (with_reducible exact ih6 _ _ _ _ _ _ _ _ _ _ _ _ _ _)
    | (with_reducible exact ih7 _ _ _ _ _ _ _ _ _ _ _)
    | (with_reducible exact ih8 _ _ _ _ _ _ _ _ _)
    | (with_reducible exact impl_GoodChores.mono _ _)
    | (with_reducible exact LeO.refl _)
    | (with_reducible exact LeO.none _)
    | (with_reducible refine LeO.ite ?_ ?_)
    | (with_reducible refine LeO.bind ?_ (fun _ => ?_))
    | exact ih0 _ _ _ _
    | exact ih1 _ _ _ _ _ _
    | exact ih2 _ _ _ _ _ _ _
    | exact ih3 _ _ _ _ _ _ _ _ _ _ _ _
    | exact ih4 _ _ _ _ _ _ _ _ _ _ _ _ _ _ _ _ _
    | exact ih5 _ _ _ _ _ _ _ _ _ _ _ _ _
    | exact ih6 _ _ _ _ _ _ _ _ _ _ _ _ _ _
    | exact ih7 _ _ _ _ _ _ _ _ _ _ _
    | exact ih8 _ _ _ _ _ _ _ _ _
    | exact impl_GoodChores.mono _ _
    | exact LeO.none _
    | refine LeO.ite ?_ ?_
    | refine LeO.bind ?_ (fun _ => ?_)
  · intro y0 y1 y2 y3 y4 y5 y6 y7 y8 y9 y10 y11
    unfold impl_play.l2
    repeat' first
    | (with_reducible exact ih0 _ _ _ _)
    | (with_reducible exact ih1 _ _ _ _ _ _)
    | (with_reducible exact ih2 _ _ _ _ _ _ _)
    | (with_reducible exact ih3 _ _ _ _ _ _ _ _ _ _ _ _)
    | (with_reducible exact ih4 _ _ _ _ _ _ _ _ _ _ _ _ _ _ _ _ _)
    | (with_reducible exact ih5 _ _ _ _ _ _ _ _ _ _ _ _ _)
    | (with_reducible exact ih6 _ _ _ _ _ _ _ _ _ _ _ _ _ _)
    | (with_reducible exact ih7 _ _ _ _ _ _ _ _ _ _ _)
    | (with_reducible exact ih8 _ _ _ _ _ _ _ _ _)
    | (with_reducible exact impl_GoodChores.mono _ _)
    | (with_reducible exact LeO.refl _)
    | (with_reducible exact LeO.none _)
    | (with_reducible refine LeO.ite ?_ ?_)
    | (with_reducible refine LeO.bind ?_ (fun _ => ?_))
    | exact ih0 _ _ _ _
    | exact ih1 _ _ _ _ _ _
    | exact ih2 _ _ _ _ _ _ _
    | exact ih3 _ _ _ _ _ _ _ _ _ _ _ _
    | exact ih4 _ _ _ _ _ _ _ _ _ _ _ _ _ _ _ _ _
    | exact ih5 _ _ _ _ _ _ _ _ _ _ _ _ _
    | exact ih6 _ _ _ _ _ _ _ _ _ _ _ _ _ _
    | exact ih7 _ _ _ _ _ _ _ _ _ _ _
    | exact ih8 _ _ _ _ _ _ _ _ _
    | exact impl_GoodChores.mono _ _
    | exact LeO.none _
    | refine LeO.ite ?_ ?_
    | refine LeO.bind ?_ (fun _ => ?_)
  · intro y0 y1 y2 y3 y4 y5 y6 y7 y8 y9 y10 y11 y12 y13 y14 y15 y16
    unfold impl_play.j4
    repeat' first
    | (with_reducible exact ih0 _ _ _ _)
    | (with_reducible exact ih1 _ _ _ _ _ _)
    | (with_reducible exact ih2 _ _ _ _ _ _ _)
    | (with_reducible exact ih3 _ _ _ _ _ _ _ _ _ _ _ _)
    | (with_reducible exact ih4 _ _ _ _ _ _ _ _ _ _ _ _ _ _ _ _ _)
    | (with_reducible exact ih5 _ _ _ _ _ _ _ _ _ _ _ _ _)
    | (with_reducible exact ih6 _ _ _ _ _ _ _ _ _ _ _ _ _ _)
    | (with_reducible exact ih7 _ _ _ _ _ _ _ _ _ _ _)
    | (with_reducible exact ih8 _ _ _ _ _ _ _ _ _)
    | (with_reducible exact impl_GoodChores.mono _ _)
    | (with_reducible exact LeO.refl _)
    | (with_reducible exact LeO.none _)
    | (with_reducible refine LeO.ite ?_ ?_)
    | (with_reducible refine LeO.bind ?_ (fun _ => ?_))
    | exact ih0 _ _ _ _
    | exact ih1 _ _ _ _ _ _
    | exact ih2 _ _ _ _ _ _ _
    | exact ih3 _ _ _ _ _ _ _ _ _ _ _ _
    | exact ih4 _ _ _ _ _ _ _ _ _ _ _ _ _ _ _ _ _
    | exact ih5 _ _ _ _ _ _ _ _ _ _ _ _ _
    | exact ih6 _ _ _ _ _ _ _ _ _ _ _ _ _ _
    | exact ih7 _ _ _ _ _ _ _ _ _ _ _
    | exact ih8 _ _ _ _ _ _ _ _ _
    | exact impl_GoodChores.mono _ _
    | exact LeO.none _
    | refine LeO.ite ?_ ?_
    | refine LeO.bind ?_ (fun _ => ?_)
  · intro y0 y1 y2 y3 y4 y5 y6 y7 y8 y9 y10 y11 y12
    unfold impl_play.j5
    repeat' first
    | (with_reducible exact ih0 _ _ _ _)
    | (with_reducible exact ih1 _ _ _ _ _ _)
    | (with_reducible exact ih2 _ _ _ _ _ _ _)
    | (with_reducible exact ih3 _ _ _ _ _ _ _ _ _ _ _ _)
    | (with_reducible exact ih4 _ _ _ _ _ _ _ _ _ _ _ _ _ _ _ _ _)
    | (with_reducible exact ih5 _ _ _ _ _ _ _ _ _ _ _ _ _)
    | (with_reducible exact ih6 _ _ _ _ _ _ _ _ _ _ _ _ _ _)
    | (with_reducible exact ih7 _ _ _ _ _ _ _ _ _ _ _)
    | (with_reducible exact ih8 _ _ _ _ _ _ _ _ _)
    | (with_reducible exact impl_GoodChores.mono _ _)
    | (with_reducible exact LeO.refl _)
    | (with_reducible exact LeO.none _)
    | (with_reducible refine LeO.ite ?_ ?_)
    | (with_reducible refine LeO.bind ?_ (fun _ => ?_))
    | exact ih0 _ _ _ _
    | exact ih1 _ _ _ _ _ _
    | exact ih2 _ _ _ _ _ _ _
    | exact ih3 _ _ _ _ _ _ _ _ _ _ _ _
    | exact ih4 _ _ _ _ _ _ _ _ _ _ _ _ _ _ _ _ _
    | exact ih5 _ _ _ _ _ _ _ _ _ _ _ _ _
    | exact ih6 _ _ _ _ _ _ _ _ _ _ _ _ _ _
    | exact ih7 _ _ _ _ _ _ _ _ _ _ _
    | exact ih8 _ _ _ _ _ _ _ _ _
    | exact impl_GoodChores.mono _ _
    | exact LeO.none _
    | refine LeO.ite ?_ ?_
    | refine LeO.bind ?_ (fun _ => ?_)
  · intro y0 y1 y2 y3 y4 y5 y6 y7 y8 y9 y10 y11 y12 y13
    unfold impl_play.j6
    repeat' first
    | (with_reducible exact ih0 _ _ _ _)
    | (with_reducible exact ih1 _ _ _ _ _ _)
    | (with_reducible exact ih2 _ _ _ _ _ _ _)
    | (with_reducible exact ih3 _ _ _ _ _ _ _ _ _ _ _ _)
    | (with_reducible exact ih4 _ _ _ _ _ _ _ _ _ _ _ _ _ _ _ _ _)
    | (with_reducible exact ih5 _ _ _ _ _ _ _ _ _ _ _ _ _)
    | (with_reducible exact ih6 _ _ _ _ _ _ _ _ _ _ _ _ _ _)
    | (with_reducible exact ih7 _ _ _ _ _ _ _ _ _ _ _)
    | (with_reducible exact ih8 _ _ _ _ _ _ _ _ _)
    | (with_reducible exact impl_GoodChores.mono _ _)
    | (with_reducible exact LeO.refl _)
    | (with_reducible exact LeO.none _)
    | (with_reducible refine LeO.ite ?_ ?_)
    | (with_reducible refine LeO.bind ?_ (fun _ => ?_))
    | exact ih0 _ _ _ _
    | exact ih1 _ _ _ _ _ _
    | exact ih2 _ _ _ _ _ _ _
    | exact ih3 _ _ _ _ _ _ _ _ _ _ _ _
    | exact ih4 _ _ _ _ _ _ _ _ _ _ _ _ _ _ _ _ _
    | exact ih5 _ _ _ _ _ _ _ _ _ _ _ _ _
    | exact ih6 _ _ _ _ _ _ _ _ _ _ _ _ _ _
    | exact ih7 _ _ _ _ _ _ _ _ _ _ _
    | exact ih8 _ _ _ _ _ _ _ _ _
    | exact impl_GoodChores.mono _ _
    | exact LeO.none _
    | refine LeO.ite ?_ ?_
    | refine LeO.bind ?_ (fun _ => ?_)
  · intro y0 y1 y2 y3 y4 y5 y6 y7 y8 y9 y10
    unfold impl_play.j7
    repeat' first
    | (with_reducible exact ih0 _ _ _ _)
    | (with_reducible exact ih1 _ _ _ _ _ _)
    | (with_reducible exact ih2 _ _ _ _ _ _ _)
    | (with_reducible exact ih3 _ _ _ _ _ _ _ _ _ _ _ _)
    | (with_reducible exact ih4 _ _ _ _ _ _ _ _ _ _ _ _ _ _ _ _ _)
    | (with_reducible exact ih5 _ _ _ _ _ _ _ _ _ _ _ _ _)
    | (with_reducible exact ih6 _ _ _ _ _ _ _ _ _ _ _ _ _ _)
    | (with_reducible exact ih7 _ _ _ _ _ _ _ _ _ _ _)
    | (with_reducible exact ih8 _ _ _ _ _ _ _ _ _)
    | (with_reducible exact impl_GoodChores.mono _ _)
    | (with_reducible exact LeO.refl _)
    | (with_reducible exact LeO.none _)
    | (with_reducible refine LeO.ite ?_ ?_)
    | (with_reducible refine LeO.bind ?_ (fun _ => ?_))
    | exact ih0 _ _ _ _
    | exact ih1 _ _ _ _ _ _
    | exact ih2 _ _ _ _ _ _ _
    | exact ih3 _ _ _ _ _ _ _ _ _ _ _ _
    | exact ih4 _ _ _ _ _ _ _ _ _ _ _ _ _ _ _ _ _
    | exact ih5 _ _ _ _ _ _ _ _ _ _ _ _ _
    | exact ih6 _ _ _ _ _ _ _ _ _ _ _ _ _ _
    | exact ih7 _ _ _ _ _ _ _ _ _ _ _
    | exact ih8 _ _ _ _ _ _ _ _ _
    | exact impl_GoodChores.mono _ _
    | exact LeO.none _
    | refine LeO.ite ?_ ?_
    | refine LeO.bind ?_ (fun _ => ?_)
  · intro y0 y1 y2 y3 y4 y5 y6 y7 y8
    unfold impl_play.j8
    repeat' first
    | (with_reducible exact ih0 _ _ _ _)
    | (with_reducible exact ih1 _ _ _ _ _ _)
    | (with_reducible exact ih2 _ _ _ _ _ _ _)
    | (with_reducible exact ih3 _ _ _ _ _ _ _ _ _ _ _ _)
    | (with_reducible exact ih4 _ _ _ _ _ _ _ _ _ _ _ _ _ _ _ _ _)
    | (with_reducible exact ih5 _ _ _ _ _ _ _ _ _ _ _ _ _)
    | (with_reducible exact ih6 _ _ _ _ _ _ _ _ _ _ _ _ _ _)
    | (with_reducible exact ih7 _ _ _ _ _ _ _ _ _ _ _)
    | (with_reducible exact ih8 _ _ _ _ _ _ _ _ _)
    | (with_reducible exact impl_GoodChores.mono _ _)
    | (with_reducible exact LeO.refl _)
    | (with_reducible exact LeO.none _)
    | (with_reducible refine LeO.ite ?_ ?_)
    | (with_reducible refine LeO.bind ?_ (fun _ => ?_))
    | exact ih0 _ _ _ _
    | exact ih1 _ _ _ _ _ _
    | exact ih2 _ _ _ _ _ _ _
    | exact ih3 _ _ _ _ _ _ _ _ _ _ _ _
    | exact ih4 _ _ _ _ _ _ _ _ _ _ _ _ _ _ _ _ _
    | exact ih5 _ _ _ _ _ _ _ _ _ _ _ _ _
    | exact ih6 _ _ _ _ _ _ _ _ _ _ _ _ _ _
    | exact ih7 _ _ _ _ _ _ _ _ _ _ _
    | exact ih8 _ _ _ _ _ _ _ _ _
    | exact impl_GoodChores.mono _ _
    | exact LeO.none _
    | refine LeO.ite ?_ ?_
    | refine LeO.bind ?_ (fun _ => ?_)
theorem impl_play.mono : ∀ a0 a1 a2 a3 k, LeO (impl_play.f k a0 a1 a2 a3) (impl_play.f (k + 1) a0 a1 a2 a3) := by
 intro a0 a1 a2 a3 k
 obtain ⟨ih0, ih1, ih2, ih3, ih4, ih5, ih6, ih7, ih8⟩ := impl_play.mono_l k
 unfold impl_play.f
 repeat' first
  | (with_reducible exact ih0 _ _ _ _)
  | (with_reducible exact ih1 _ _ _ _ _ _)
  | (with_reducible exact ih2 _ _ _ _ _ _ _)
  | (with_reducible exact ih3 _ _ _ _ _ _ _ _ _ _ _ _)
  | (with_reducible exact ih4 _ _ _ _ _ _ _ _ _ _ _ _ _ _ _ _ _)
  | (with_reducible exact ih5 _ _ _ _ _ _ _ _ _ _ _ _ _)
  | (with_reducible exact ih6 _ _ _ _ _ _ _ _ _ _ _ _ _ _)
  | (with_reducible exact ih7 _ _ _ _ _ _ _ _ _ _ _)
  | (with_reducible exact ih8 _ _ _ _ _ _ _ _ _)
  | (with_reducible exact impl_GoodChores.mono _ _)
  | (with_reducible exact LeO.refl _)
  | (with_reducible exact LeO.none _)
  | (with_reducible refine LeO.ite ?_ ?_)
  | (with_reducible refine LeO.bind ?_ (fun _ => ?_))
  | exact ih0 _ _ _ _
  | exact ih1 _ _ _ _ _ _
  | exact ih2 _ _ _ _ _ _ _
  | exact ih3 _ _ _ _ _ _ _ _ _ _ _ _
  | exact ih4 _ _ _ _ _ _ _ _ _ _ _ _ _ _ _ _ _
  | exact ih5 _ _ _ _ _ _ _ _ _ _ _ _ _
  | exact ih6 _ _ _ _ _ _ _ _ _ _ _ _ _ _
  | exact ih7 _ _ _ _ _ _ _ _ _ _ _
  | exact ih8 _ _ _ _ _ _ _ _ _
  | exact impl_GoodChores.mono _ _
  | exact LeO.none _
  | refine LeO.ite ?_ ?_
  | refine LeO.bind ?_ (fun _ => ?_)
def impl_play.T19 : Bool × List (List Nat × List Nat) := (true, [([], []), ([], []), ([], []), ([1, 2], [1, 2]), ([3], [3]), ([0, 4], [0, 4]), ([5], [5]), ([6], [6]), ([6], [6]), ([6], [6]), ([8, 9, 6], [6, 8, 9]), ([10, 6], [6, 10]), ([7, 11, 6], [6, 7, 11]), ([6], [6]), ([13, 6], [6, 13]), ([12, 14, 6], [6, 12, 14]), ([15, 6], [6, 15]), ([6, 16], [6, 16])])
def impl_play.B19 : List Nat := [0, 0, 0, 6, 14, 31, 63, 127, 127, 127, 895, 1919, 4095, 127, 8319, 32767, 65535, 131071]
theorem impl_play.tab19 : rtab .any (opsOf Try.f28 19) = impl_play.T19 := by kernel_rfl
theorem impl_play.bits19 : waitsOk impl_play.T19.2 impl_play.B19 = true := by kernel_rfl
def impl_play.T20 : Bool × List (List Nat × List Nat) := (true, [([], []), ([], []), ([], []), ([], []), ([2, 3], [2, 3]), ([4], [4]), ([], []), ([], []), ([7], [7]), ([6, 8], [6, 8]), ([9], [9]), ([5, 10], [5, 10]), ([0, 1, 0, 1, 2, 3, 4, 5, 6, 7, 8, 9, 10, 11], [0, 1]), ([12, 11, 11, 0, 1, 2, 3, 4, 5, 6, 7, 8, 9, 10, 11], [11, 12])])
def impl_play.B20 : List Nat := [0, 0, 0, 0, 12, 28, 0, 0, 128, 448, 960, 2044, 4095, 8191]
theorem impl_play.tab20 : rtab .any (opsOf Try.f28 20) = impl_play.T20 := by kernel_rfl
theorem impl_play.bits20 : waitsOk impl_play.T20.2 impl_play.B20 = true := by kernel_rfl
def impl_play.T21 : Bool × List (List Nat × List Nat) := (true, [([], []), ([], []), ([0, 1], [0, 1]), ([2], [2]), ([3], [3]), ([4], [4]), ([5], [5]), ([6], [6]), ([7, 6], [6, 7]), ([8, 6, 6], [6, 8]), ([9], [9]), ([9], [9]), ([9], [9]), ([9], [9]), ([12, 13, 9], [9, 12, 13]), ([14, 9], [9, 14]), ([15, 9], [9, 15]), ([16, 9], [9, 16]), ([9], [9]), ([9], [9]), ([9], [9]), ([19, 20, 9], [9, 19, 20]), ([21, 9], [9, 21]), ([22, 9], [9, 22]), ([23, 9], [9, 23]), ([10, 11, 17, 18, 24, 9, 9], [9, 10, 11, 17, 18, 24]), ([9, 25, 6], [6, 9, 25]), ([6, 26], [6, 26])])
def impl_play.B21 : List Nat := [0, 0, 3, 7, 15, 31, 63, 127, 255, 511, 1023, 1023, 1023, 1023, 13311, 29695, 62463, 127999, 1023, 1023, 1023, 1573887, 3671039, 7865343, 16253951, 33554431, 67108863, 134217727]
theorem impl_play.tab21 : rtab .any (opsOf Try.f28 21) = impl_play.T21 := by kernel_rfl
theorem impl_play.bits21 : waitsOk impl_play.T21.2 impl_play.B21 = true := by kernel_rfl
def impl_play.T32 : Bool × List (List Nat × List Nat) := (true, [([], []), ([], []), ([], []), ([], []), ([2, 3], [2, 3]), ([4], [4]), ([], []), ([6], [6]), ([], []), ([8], [8]), ([9], [9]), ([10], [10]), ([7, 11], [7, 11]), ([5, 12], [5, 12]), ([0, 1, 0, 1, 2, 3, 4, 5, 6, 7, 8, 9, 10, 11, 12, 13], [0, 1]), ([14, 13, 0, 1, 2, 3, 4, 5, 6, 7, 8, 9, 10, 11, 12, 13], [13, 14])])
def impl_play.B32 : List Nat := [0, 0, 0, 0, 12, 28, 0, 64, 0, 256, 768, 1792, 4032, 8188, 16383, 32767]
theorem impl_play.tab32 : rtab .any (opsOf Try.f28 32) = impl_play.T32 := by kernel_rfl
theorem impl_play.bits32 : waitsOk impl_play.T32.2 impl_play.B32 = true := by kernel_rfl
set_option maxHeartbeats 8000000 in
set_option maxRecDepth 100000 in
theorem impl_play.calls (k : Nat) (A0 : Option Addr) (c0 : Nat) (l0 : List (S62)) (A1 : Option Addr) (c1 : Nat) (l1 : List Int) (a2 : Int) (a3 : Int) (r1 : List (S59)) (r2 : List Int) (r3 : Bool) (w : World) (hr0 : Kd.C k62 w A0 l0.length l0) (hc0 : l0.length ≤ c0) (hr1 : Kd.C (Kd.int .i64) w A1 l1.length l1) (hc1 : l1.length ≤ c1) (h : impl_play.f k l0 l1 a2 a3 = some (r1, r2, r3)) :
 Calls Try.prog 28 #[.slice A0 l0.length c0, .slice A1 l1.length c1, .int .i64 a2, (.func (.func 29) #[] #[])] w fun e w' => ∃ v0_ v1_ : Value, e = .returned (.tuple #[v0_, v1_, .bool r3]) ∧ Kd.R k59 59 w' w.heap.size (fun _ => True) v0_ r1 ∧ Kd.R (Kd.int .i64) 3 w' w.heap.size (fun _ => True) v1_ r2 ∧ Below w.heap.size w w' := by
 have hu62 := Try.underlying62; have hu55 := Try.underlying55; have hu59 := Try.underlying59; (have HR0 := Aside0.mk hr0); (have HC0 := Aside0.mk hc0); clear hr0 hc0; (have HR1 := Aside0.mk hr1); (have HC1 := Aside0.mk hc1); clear hr1 hc1; (have HB := Aside0.mk (Below.refl w.heap.size w)); (have H : ((impl_GoodChores.f k l0).bind fun t107 => (if t107 = true then (if (l1.length : Int) = (l0.length : Int) then ((impl_between.f a2 0 2000).bind fun t108 => (impl_play.j0 k l0 l1 a2 (!t108))) else (impl_play.j0 k l0 l1 a2 true)) else (impl_play.j0 k l0 l1 a2 true))) = some (r1, r2, r3) := h); clear h; (have HC5 := Aside0.mk H); clear H
 go_enter Try.func28, Try.ntmps28
 go_upto_region 1 with (fail)
 go_cut [36] (fun v36 wc => ∃ (kq : Nat) (x36_4 : Bool), v36 = .bool x36_4 ∧ Aside0 (impl_play.j0 kq l0 l1 a2 x36_4 = some (r1, r2, r3)) ∧ Aside0 (kq ≤ k) ∧ Aside0 (Below w.heap.size w wc))
 case first =>
  as_aux_lemma =>
   have H := HC5.out; clear HC5; (replace H := Option.bind_eq_some_iff.mp H); (obtain ⟨t107, A60, H⟩ := H); (replace H : (if t107 = true then (if (l1.length : Int) = (l0.length : Int) then ((impl_between.f a2 0 2000).bind fun t108 => (impl_play.j0 k l0 l1 a2 (!t108))) else (impl_play.j0 k l0 l1 a2 true)) else (impl_play.j0 k l0 l1 a2 true)) = some (r1, r2, r3) := H); (have A6 := Aside0.mk A60); clear A60
   by_cases c7 : t107 = true
   · subst c7
     (have H1 : (if (l1.length : Int) = (l0.length : Int) then ((impl_between.f a2 0 2000).bind fun t108 => (impl_play.j0 k l0 l1 a2 (!t108))) else (impl_play.j0 k l0 l1 a2 true)) = some (r1, r2, r3) := by rw [if_pos rfl] at H; exact H); clear H; have H := H1; clear H1
     by_cases c8 : (l1.length : Int) = (l0.length : Int)
     · rw [if_pos c8] at H
       (have c8b0 : ((l1.length : Int) == (l0.length : Int)) = true := beq_iff_eq.mpr c8); (have c8b1 : ((l1.length : Int) != (l0.length : Int)) = false := bne_eq_false_iff_eq.mpr c8); (have c8b2 : (l1.length == l0.length) = true := by first | simpa using c8 | (simp at c8 ⊢; omega)); clear c8
       (first | rw [c8b0] | (simp only [i64_w, i32_w]; rw [c8b0]) | skip)
       (replace H := Option.bind_eq_some_iff.mp H); (obtain ⟨t108, A90, H⟩ := H); (replace H : (impl_play.j0 k l0 l1 a2 (!t108)) = some (r1, r2, r3) := H); (have A9 := Aside0.mk A90); clear A90; (have H' := Aside0.mk H); clear H
       go_wp2_with (first | ((with_reducible refine gate_callee (f := 32) rfl ?_); refine goesL_ (some 23) rfl rfl Try.func32 (by kernel_rfl) rfl #[.slice A0 l0.length c0] rfl (by (try simp only [List.map_toArray, List.map_cons, List.map_nil]); first | done | rfl | (simp only [List.length_drop, List.length_take]; rfl)) ?_; (with_reducible refine (impl_GoodChores.calls k _ _ l0 true _ ?side1 ?side2 A6.out).mono ?_); (case side1 => repeat (first | exact (Kd.C_below HR0.out HB.out) | (with_reducible refine Kd.C_alloc ?_ _) | (with_reducible refine Kd.C_drewN ?_ _) | (with_reducible refine Kd.C_drew ?_))); (case side2 => exact HC0.out); rintro e w10 ⟨rfl, hb⟩; refine ⟨_, rfl, ?_⟩; have n0_ := Aside0.mk (below_step (by repeat (first | (with_reducible first | exact HB.out | apply below_alloc | apply pw_below_drewN | apply below_drew1) | exact HB.out)) hb); clear HB; have HB := n0_; clear n0_; (try clear hb); (try clear hb2); (try clear hk); (try clear hi)) | (go_at_call 38; (with_reducible refine (impl_between.calls a2 0 2000 t108 _ A9.out).mono ?_); rintro e w' ⟨rfl, ⟨nd, rfl⟩⟩))
       go_meet
       case rel => exact ⟨_, (!t108), (by first | rfl | (simp; done) | (simp [*]; done)), H', ⟨by first | omega | exact Nat.le_refl _⟩, ⟨by repeat (first | (with_reducible first | exact HB.out | apply below_alloc | apply pw_below_drewN | apply below_drew1) | exact HB.out)⟩⟩
     · rw [if_neg c8] at H
       (have c8b0 : ((l1.length : Int) == (l0.length : Int)) = false := beq_eq_false_iff_ne.mpr c8); (have c8b1 : ((l1.length : Int) != (l0.length : Int)) = true := bne_iff_ne.mpr c8); (have c8b2 : (l1.length == l0.length) = false := by first | simpa using c8 | (simp at c8 ⊢; omega))
       (first | rw [c8b0] | (simp only [i64_w, i32_w]; rw [c8b0]) | skip)
       (have H' := Aside0.mk H); clear H
       go_wp2_with (first | ((with_reducible refine gate_callee (f := 32) rfl ?_); refine goesL_ (some 23) rfl rfl Try.func32 (by kernel_rfl) rfl #[.slice A0 l0.length c0] rfl (by (try simp only [List.map_toArray, List.map_cons, List.map_nil]); first | done | rfl | (simp only [List.length_drop, List.length_take]; rfl)) ?_; (with_reducible refine (impl_GoodChores.calls k _ _ l0 true _ ?side1 ?side2 A6.out).mono ?_); (case side1 => repeat (first | exact (Kd.C_below HR0.out HB.out) | (with_reducible refine Kd.C_alloc ?_ _) | (with_reducible refine Kd.C_drewN ?_ _) | (with_reducible refine Kd.C_drew ?_))); (case side2 => exact HC0.out); rintro e w11 ⟨rfl, hb⟩; refine ⟨_, rfl, ?_⟩; have n0_ := Aside0.mk (below_step (by repeat (first | (with_reducible first | exact HB.out | apply below_alloc | apply pw_below_drewN | apply below_drew1) | exact HB.out)) hb); clear HB; have HB := n0_; clear n0_; (try clear hb); (try clear hb2); (try clear hk); (try clear hi)))
       go_meet
       case rel => exact ⟨_, (true), (by first | rfl | (simp; done) | (simp [*]; done)), H', ⟨by first | omega | exact Nat.le_refl _⟩, ⟨by repeat (first | (with_reducible first | exact HB.out | apply below_alloc | apply pw_below_drewN | apply below_drew1) | exact HB.out)⟩⟩
   · replace c7 := Bool.eq_false_iff.mpr c7
     subst c7; (have H1 : (impl_play.j0 k l0 l1 a2 true) = some (r1, r2, r3) := by rw [if_neg (show ¬ (false = true) by decide)] at H; exact H); clear H; have H := H1; clear H1; (have H' := Aside0.mk H); clear H
     go_wp2_with (first | ((with_reducible refine gate_callee (f := 32) rfl ?_); refine goesL_ (some 23) rfl rfl Try.func32 (by kernel_rfl) rfl #[.slice A0 l0.length c0] rfl (by (try simp only [List.map_toArray, List.map_cons, List.map_nil]); first | done | rfl | (simp only [List.length_drop, List.length_take]; rfl)) ?_; (with_reducible refine (impl_GoodChores.calls k _ _ l0 false _ ?side1 ?side2 A6.out).mono ?_); (case side1 => repeat (first | exact (Kd.C_below HR0.out HB.out) | (with_reducible refine Kd.C_alloc ?_ _) | (with_reducible refine Kd.C_drewN ?_ _) | (with_reducible refine Kd.C_drew ?_))); (case side2 => exact HC0.out); rintro e w12 ⟨rfl, hb⟩; refine ⟨_, rfl, ?_⟩; have n0_ := Aside0.mk (below_step (by repeat (first | (with_reducible first | exact HB.out | apply below_alloc | apply pw_below_drewN | apply below_drew1) | exact HB.out)) hb); clear HB; have HB := n0_; clear n0_; (try clear hb); (try clear hb2); (try clear hk); (try clear hi)))
     go_meet
     case rel => exact ⟨_, (true), (by first | rfl | (simp; done) | (simp [*]; done)), H', ⟨by first | omega | exact Nat.le_refl _⟩, ⟨by repeat (first | (with_reducible first | exact HB.out | apply below_alloc | apply pw_below_drewN | apply below_drew1) | exact HB.out)⟩⟩
 case rest =>
  clear HC5; (try clear c1); (try clear c2); (try clear p2); (try clear c3); (try clear c7); (try clear c8); (try clear c8b0); (try clear c8b1); (try clear c8b2); (obtain ⟨kq, x36_4, rfl, HA, HJ4, HB⟩ := hcut)
  cases kq with
  | zero => exact absurd HA.out (by simp [impl_play.j0])
  | succ kj4 =>
   have H := HA.out; clear HA; (simp only [impl_play.j0] at H)
   by_cases c13 : x36_4 = true
   · subst c13
     (have H1 : (some (([] : List (S59)), ([] : List Int), false)) = some (r1, r2, r3) := by rw [if_pos rfl] at H; exact H); clear H; have H := H1; clear H1; (simp only [Option.some.injEq, Prod.mk.injEq] at H); (obtain ⟨rfl, rfl, rfl⟩ := H)
     go_wp2
     go_ret3
     exact ⟨_, _, by first | rfl | (simp [errW_none, errW_some] <;> rfl) | (simp [*, errW_none, errW_some] <;> rfl), by first | exact Kd.R_nil _ _ _ _ _ | exact Kd.N_nil _ _ _ _ _ | exact Kd.V_nil _ _ _ _ _ | exact Kd.Q_nil _ _ _ _ _ | exact Kd.S_nil _ _ _ _ _, by first | exact Kd.R_nil _ _ _ _ _ | exact Kd.N_nil _ _ _ _ _ | exact Kd.V_nil _ _ _ _ _ | exact Kd.Q_nil _ _ _ _ _ | exact Kd.S_nil _ _ _ _ _, by repeat (first | (with_reducible first | exact HB.out | apply below_alloc | apply pw_below_drewN | apply below_drew1) | exact HB.out)⟩
   · replace c13 := Bool.eq_false_iff.mpr c13
     subst c13; (have H1 : (impl_play.l0 kj4 l0 l1 a2 l1 (l1.length : Int) 0) = some (r1, r2, r3) := by rw [if_neg (show ¬ (false = true) by decide)] at H; exact H); clear H; have H := H1; clear H1; (have H' := Aside0.mk H); clear H
     go_wp2
     go_loopg [39] kj4 (fun kq v39 w' => ∃ (x39_2 : Int), v39 = .int .i64 x39_2 ∧ Aside0 (impl_play.l0 kq l0 l1 a2 l1 (l1.length : Int) x39_2 = some (r1, r2, r3)) ∧ Aside0 (kq ≤ kj4) ∧ Aside0 (Below w.heap.size w w'))
     case atStart => exact ⟨(0), (by first | rfl | (simp; done) | (simp [*]; done)), H', ⟨Nat.le_refl _⟩, ⟨by repeat (first | (with_reducible first | exact HB.out | apply below_alloc | apply pw_below_drewN | apply below_drew1) | exact HB.out)⟩⟩
     case round =>
      clear H'; (try clear c1); (try clear c2); (try clear p2); (try clear c3); (try clear c7); (try clear c8); (try clear c8b0); (try clear c8b1); (try clear c8b2); (try clear c13); (try clear p2); (obtain ⟨x39_2, rfl, HA, HK2, HB⟩ := hrel)
      cases gk with
      | zero => exact absurd HA.out (by simp [impl_play.l0])
      | succ k2 =>
       have H := HA.out; clear HA; (simp only [impl_play.l0] at H)
       by_cases c14 : x39_2 < (l1.length : Int)
       · rw [if_pos c14] at H
         (have c14b0 : decide (x39_2 < (l1.length : Int)) = true := decide_eq_true c14); clear c14
         by_cases c15 : 0 ≤ x39_2
         · rw [if_pos c15] at H
           (have c15b0 : decide (0 ≤ x39_2) = true := decide_eq_true c15); clear c15
           by_cases c16 : x39_2 < (l1.length : Int)
           · rw [if_pos c16] at H
             (have c16b0 : decide (x39_2 < (l1.length : Int)) = true := decide_eq_true c16); clear c16; (replace H := Option.bind_eq_some_iff.mp H); (obtain ⟨t110, A170, H⟩ := H); (replace H : (if t110 = true then (impl_play.l0 k2 l0 l1 a2 l1 (l1.length : Int) (wrap64 (x39_2 + 1))) else (some (([] : List (S59)), ([] : List Int), false))) = some (r1, r2, r3) := H); (have A17 := Aside0.mk A170); clear A170
             by_cases c18 : t110 = true
             · subst c18
               (have H1 : (impl_play.l0 k2 l0 l1 a2 l1 (l1.length : Int) (wrap64 (x39_2 + 1))) = some (r1, r2, r3) := by rw [if_pos rfl] at H; exact H); clear H; have H := H1; clear H1; (have H' := Aside0.mk H); clear H; (have p109 : 0 ≤ (x39_2 : Int) := of_decide_eq_true (by first | (with_reducible assumption) | assumption)); (have q109 : x39_2 < (l1.length : Int) := of_decide_eq_true (by first | (with_reducible assumption) | assumption)); (obtain ⟨ad109, e109, hx109_0⟩ := Kd.at_int HR1.out x39_2 p109 q109)
               cases e109
               (first | replace hx109_0 := (HB.out.cell (World.block_lt_of_cell? w _ hx109_0)).trans hx109_0 | skip)
               (replace p109 := eq_true p109); (replace q109 := eq_true q109)
               go_wp2_with (first | ((with_reducible refine gate_callee (f := 38) rfl ?_); refine goesL_ (some 44) rfl rfl Try.func38 (by kernel_rfl) rfl #[.int .i64 (rd l1 x39_2), .int .i64 0, .int .i64 60] rfl (by (try simp only [List.map_toArray, List.map_cons, List.map_nil]); first | done | rfl | (simp only [List.length_drop, List.length_take]; rfl)) ?_; (with_reducible refine (impl_between.calls (rd l1 x39_2) 0 60 true _ A17.out).mono ?_); rintro e w' ⟨rfl, ⟨nd, rfl⟩⟩; refine ⟨_, rfl, ?_⟩))
               go_roundg k2
               case measure => have := HJ4.out; have := HK2.out; omega
               case rel => exact ⟨(wrap64 (x39_2 + 1)), (by first | rfl | (simp; done) | (simp [*]; done)), H', ⟨by have := HJ4.out; have := HK2.out; omega⟩, ⟨by repeat (first | (with_reducible first | exact HB.out | apply below_alloc | apply pw_below_drewN | apply below_drew1) | exact HB.out)⟩⟩
             · replace c18 := Bool.eq_false_iff.mpr c18
               subst c18; (have H1 : (some (([] : List (S59)), ([] : List Int), false)) = some (r1, r2, r3) := by rw [if_neg (show ¬ (false = true) by decide)] at H; exact H); clear H; have H := H1; clear H1; (simp only [Option.some.injEq, Prod.mk.injEq] at H); (obtain ⟨rfl, rfl, rfl⟩ := H); (have p109 : 0 ≤ (x39_2 : Int) := of_decide_eq_true (by first | (with_reducible assumption) | assumption)); (have q109 : x39_2 < (l1.length : Int) := of_decide_eq_true (by first | (with_reducible assumption) | assumption)); (obtain ⟨ad109, e109, hx109_0⟩ := Kd.at_int HR1.out x39_2 p109 q109)
               cases e109
               (first | replace hx109_0 := (HB.out.cell (World.block_lt_of_cell? w _ hx109_0)).trans hx109_0 | skip)
               (replace p109 := eq_true p109); (replace q109 := eq_true q109)
               go_wp2_with (first | ((with_reducible refine gate_callee (f := 38) rfl ?_); refine goesL_ (some 44) rfl rfl Try.func38 (by kernel_rfl) rfl #[.int .i64 (rd l1 x39_2), .int .i64 0, .int .i64 60] rfl (by (try simp only [List.map_toArray, List.map_cons, List.map_nil]); first | done | rfl | (simp only [List.length_drop, List.length_take]; rfl)) ?_; (with_reducible refine (impl_between.calls (rd l1 x39_2) 0 60 false _ A17.out).mono ?_); rintro e w' ⟨rfl, ⟨nd, rfl⟩⟩; refine ⟨_, rfl, ?_⟩))
               go_ret3
               exact ⟨_, _, by first | rfl | (simp [errW_none, errW_some] <;> rfl) | (simp [*, errW_none, errW_some] <;> rfl), by first | exact Kd.R_nil _ _ _ _ _ | exact Kd.N_nil _ _ _ _ _ | exact Kd.V_nil _ _ _ _ _ | exact Kd.Q_nil _ _ _ _ _ | exact Kd.S_nil _ _ _ _ _, by first | exact Kd.R_nil _ _ _ _ _ | exact Kd.N_nil _ _ _ _ _ | exact Kd.V_nil _ _ _ _ _ | exact Kd.Q_nil _ _ _ _ _ | exact Kd.S_nil _ _ _ _ _, by repeat (first | (with_reducible first | exact HB.out | apply below_alloc | apply pw_below_drewN | apply below_drew1) | exact HB.out)⟩
           · rw [if_neg c16] at H
             exact absurd H (by simp)
         · rw [if_neg c15] at H
           exact absurd H (by simp)
       · rw [if_neg c14] at H
         (have c14b0 : decide (x39_2 < (l1.length : Int)) = false := decide_eq_false c14); clear c14
         by_cases c19 : 0 ≤ (l0.length : Int)
         · rw [if_pos c19] at H
           (have c19b0 := eq_true c19); (have c19b1 : decide (0 ≤ (l0.length : Int)) = true := decide_eq_true c19); clear c19
           by_cases c20 : ((l0.length : Int) : Int).toNat ≤ 11728124029610
           · rw [if_pos c20] at H
             (have c20b0 := eq_true c20); (have c20b1 : decide (((l0.length : Int) : Int).toNat ≤ 11728124029610) = true := decide_eq_true c20); clear c20; (obtain ⟨y111, hy111⟩ : ∃ y_ : List (List (S55)), y_ = (List.replicate ((l0.length : Int) : Int).toNat []) := ⟨_, rfl⟩); (replace H : (if ((l0.length : Int) : Int).toNat ≤ 35184372088832 then (impl_play.l1 k2 l0 l1 y111 (List.replicate ((l0.length : Int) : Int).toNat 0) ([] : List (S59)) a2 0) else (none)) = some (r1, r2, r3) := by first | (rw [hy111]; with_reducible exact H) | (have H2_ := (Option.bind_some _ _).symm.trans H; rw [hy111]; with_reducible exact H2_) | (have H2_ := (Option.bind_some _ _).symm.trans H; with_reducible exact H2_) | with_reducible exact H | (rw [hy111]; exact H) | exact H); (have Ny111 := Aside0.mk hy111); clear hy111
             by_cases c21 : ((l0.length : Int) : Int).toNat ≤ 35184372088832
             · rw [if_pos c21] at H
               (have c21b0 := eq_true c21); (have c21b1 : decide (((l0.length : Int) : Int).toNat ≤ 35184372088832) = true := decide_eq_true c21); clear c21; (obtain ⟨y114, hy114⟩ : ∃ y_ : List Int, y_ = (List.replicate ((l0.length : Int) : Int).toNat 0) := ⟨_, rfl⟩); (replace H : (impl_play.l1 k2 l0 l1 y111 y114 ([] : List (S59)) a2 0) = some (r1, r2, r3) := by first | (rw [hy114]; with_reducible exact H) | (have H2_ := (Option.bind_some _ _).symm.trans H; rw [hy114]; with_reducible exact H2_) | (have H2_ := (Option.bind_some _ _).symm.trans H; with_reducible exact H2_) | with_reducible exact H | (rw [hy114]; exact H) | exact H); (have Ny114 := Aside0.mk hy114); clear hy114; (have H' := Aside0.mk H); clear H
               go_wp2_with (first | ((with_reducible refine gate_dst (N := 49) rfl ?_); (try (refine gate_guard (by rfl) ?_; dsimp only)); refine Kd.S_make kq55 _ 71 rfl (N := 49) rfl 70 _ _ rfl (l0.length : Int) rfl rfl Try.underlying70 (.slice none 0 0) 24 info71 rfl (by decide) (by omega) [] (ok := fun _ => True) (okp := fun _ => True) ⟨_, rfl, Kd.Q_nil _ _ _ _ _⟩ (fun _ hk => hk) trivial (of_decide_eq_true (by first | (with_reducible assumption) | assumption)) (Nat.le_trans (Nat.mul_le_mul_right _ (of_decide_eq_true (by first | (with_reducible assumption) | assumption) : (l0.length : Int).toNat ≤ 11728124029610)) (by omega)) (Below.refl _ _) (Nat.le_refl _) ?_; intro v112 w22 ho23 hb hg_ hnew_; clear hg_ hnew_; (first | rw [← Ny111.out] at ho23 | (simp only [Int.reduceToNat] at ho23; rw [← Ny111.out] at ho23)); have n0_ := Aside0.mk (Kd.S_lower ho23 (below_size (by repeat (first | (with_reducible first | exact HB.out | apply below_alloc | apply pw_below_drewN | apply below_drew1) | exact HB.out)))); have n1_ := Aside0.mk (below_step (by repeat (first | (with_reducible first | exact HB.out | apply below_alloc | apply pw_below_drewN | apply below_drew1) | exact HB.out)) hb); clear HB; have HO113 := n0_; have HB := n1_; clear n0_ n1_; clear hb ho23) | ((with_reducible refine gate_dst (N := 52) rfl ?_); (try (refine gate_guard (by rfl) ?_; dsimp only)); refine Kd.R_make (Kd.int .i64) _ 3 rfl (N := 52) rfl 24 _ _ rfl (l0.length : Int) rfl rfl Try.underlying24 (.int .i64 0) 8 info3 rfl (by decide) (by omega) 0 (ok := fun _ => True) (okp := fun _ => True) rfl (fun _ hk => hk) trivial (of_decide_eq_true (by first | (with_reducible assumption) | assumption)) (Nat.le_trans (Nat.mul_le_mul_right _ (of_decide_eq_true (by first | (with_reducible assumption) | assumption) : (l0.length : Int).toNat ≤ 35184372088832)) (by omega)) (Below.refl _ _) (Nat.le_refl _) ?_; intro v115 w24 ho25 hb hg_ hnew_; clear hg_ hnew_; (first | rw [← Ny114.out] at ho25 | (simp only [Int.reduceToNat] at ho25; rw [← Ny114.out] at ho25)); have n0_ := Aside0.mk (Kd.S_below (by (with_reducible repeat (first | apply Kd.S_alloc | apply Kd.S_drewN | apply Kd.S_drew)); exact HO113.out) hb); have n1_ := Aside0.mk (Kd.R_lower ho25 (below_size (by repeat (first | (with_reducible first | exact HB.out | apply below_alloc | apply pw_below_drewN | apply below_drew1) | exact HB.out)))); have n2_ := Aside0.mk (below_step (by repeat (first | (with_reducible first | exact HB.out | apply below_alloc | apply pw_below_drewN | apply below_drew1) | exact HB.out)) hb); clear HO113; clear HB; have HO113 := n0_; have HO116 := n1_; have HB := n2_; clear n0_ n1_ n2_; clear hb ho25))
               go_loopg [15, 54] k2 (fun kq v15 v54 w' => ∃ (x13_3 : List (List (S55))) (x14_3 : List Int) (x15_3 : List (S59)) (x54_3 : Int), v54 = .int .i64 x54_3 ∧ Aside0 (impl_play.l1 kq l0 l1 x13_3 x14_3 x15_3 a2 x54_3 = some (r1, r2, r3)) ∧ Aside0 (kq ≤ k2) ∧ Aside0 (Kd.S kq55 71 w' w.heap.size (fun _ => True) v112 x13_3) ∧ Aside0 (Kd.R (Kd.int .i64) 3 w' w.heap.size (fun _ => True) v115 x14_3) ∧ Aside0 (Kd.R k59 59 w' w.heap.size (fun _ => True) v15 x15_3) ∧ Aside0 (Below w.heap.size w w'))
               case atStart => exact ⟨(y111), (y114), (([] : List (S59))), (0), (by first | rfl | (simp; done) | (simp [*]; done)), H', ⟨Nat.le_refl _⟩, ⟨by (with_reducible repeat (first | apply Kd.S_alloc | apply Kd.S_drewN | apply Kd.S_drew)); exact HO113.out⟩, ⟨by (with_reducible repeat (first | apply Kd.R_alloc | apply Kd.R_drewN | apply Kd.R_drew)); exact HO116.out⟩, ⟨by first | exact Kd.R_nil _ _ _ _ _ | exact Kd.N_nil _ _ _ _ _ | exact Kd.V_nil _ _ _ _ _ | exact Kd.Q_nil _ _ _ _ _ | exact Kd.S_nil _ _ _ _ _⟩, ⟨by repeat (first | (with_reducible first | exact HB.out | apply below_alloc | apply pw_below_drewN | apply below_drew1) | exact HB.out)⟩⟩
               case round =>
                clear H'; (try clear c1); (try clear p1); (try clear q1); (try clear hx1); (try clear c2); (try clear p2); (try clear c3); (try clear p6); (try clear c7); (try clear c8); (try clear c8b0); (try clear c8b1); (try clear c8b2); (try clear p10); (try clear q10); (try clear hx10); (try clear c13); (try clear c14); (try clear c14b0); (try clear c15); (try clear c15b0); (try clear c16); (try clear c16b0); (try clear c18); (try clear c19); (try clear c19b0); (try clear c19b1); (try clear c20); (try clear c20b0); (try clear c20b1); (try clear c21); (try clear c21b0); (try clear c21b1); (try clear hx109_0); (try clear p109); (try clear p2); (try clear q109); (obtain ⟨x13_3, x14_3, x15_3, x54_3, rfl, HA, HK3, HO_13, HO_14, HO_15, HB⟩ := hrel)
                cases gk with
                | zero => exact absurd HA.out (by simp [impl_play.l1])
                | succ k3 =>
                 have H := HA.out; clear HA; (simp only [impl_play.l1] at H)
                 by_cases c26 : x54_3 < a2
                 · rw [if_pos c26] at H
                   (have c26b0 : decide (x54_3 < a2) = true := decide_eq_true c26); clear c26; (have H' := Aside0.mk H); clear H
                   go_wp2
                   go_loopg [17, 59] k3 (fun kq v17 v59 w' => ∃ (x13_4 : List (List (S55))) (x17_4 : Int) (x59_4 : Int), v17 = .int .i64 x17_4 ∧ v59 = .int .i64 x59_4 ∧ Aside0 (impl_play.l2 kq l0 l1 x13_4 x14_3 x15_3 x54_3 x17_4 a2 x54_3 l0 (l0.length : Int) x59_4 = some (r1, r2, r3)) ∧ Aside0 (kq ≤ k3) ∧ Aside0 (Kd.S kq55 71 w' w.heap.size (fun _ => True) v112 x13_4) ∧ Aside0 (Kd.R (Kd.int .i64) 3 w' w.heap.size (fun _ => True) v115 x14_3) ∧ Aside0 (Kd.R k59 59 w' w.heap.size (fun _ => True) u15 x15_3) ∧ Aside0 (Below w.heap.size w w'))
                   case atStart => exact ⟨(x13_3), ((-1)), (0), (by first | rfl | (simp; done) | (simp [*]; done)), (by first | rfl | (simp; done) | (simp [*]; done)), H', ⟨Nat.le_refl _⟩, ⟨by (with_reducible repeat (first | apply Kd.S_alloc | apply Kd.S_drewN | apply Kd.S_drew)); exact HO_13.out⟩, ⟨by (with_reducible repeat (first | apply Kd.R_alloc | apply Kd.R_drewN | apply Kd.R_drew)); exact HO_14.out⟩, ⟨by (with_reducible repeat (first | apply Kd.R_alloc | apply Kd.R_drewN | apply Kd.R_drew)); exact HO_15.out⟩, ⟨by repeat (first | (with_reducible first | exact HB.out | apply below_alloc | apply pw_below_drewN | apply below_drew1) | exact HB.out)⟩⟩
                   case round =>
                    clear H'; (try clear c1); (try clear p1); (try clear q1); (try clear hx1); (try clear c2); (try clear p2); (try clear c3); (try clear p6); (try clear c7); (try clear c8); (try clear c8b0); (try clear c8b1); (try clear c8b2); (try clear p10); (try clear q10); (try clear hx10); (try clear c13); (try clear c14); (try clear c14b0); (try clear c15); (try clear c15b0); (try clear c16); (try clear c16b0); (try clear c18); (try clear c19); (try clear c19b0); (try clear c19b1); (try clear c20); (try clear c20b0); (try clear c20b1); (try clear c21); (try clear c21b0); (try clear c21b1); (try clear c26); (try clear c26b0); (try clear hx109_0); (try clear p1); (try clear p10); (try clear p109); (try clear p2); (try clear p6); (try clear q1); (try clear q10); (try clear q109); (obtain ⟨x13_4, x17_4, x59_4, rfl, rfl, HA, HK4, HO_13, HO_14, HO_15, HB⟩ := hrel)
                    cases gk with
                    | zero => exact absurd HA.out (by simp [impl_play.l2])
                    | succ k4 =>
                     have H := HA.out; clear HA; (simp only [impl_play.l2] at H)
                     by_cases c27 : x59_4 < (l0.length : Int)
                     · rw [if_pos c27] at H
                       (have c27b0 : decide (x59_4 < (l0.length : Int)) = true := decide_eq_true c27); clear c27
                       by_cases c28 : 0 ≤ x59_4
                       · rw [if_pos c28] at H
                         (have c28b0 : decide (0 ≤ x59_4) = true := decide_eq_true c28); clear c28
                         by_cases c29 : x59_4 < (l0.length : Int)
                         · rw [if_pos c29] at H
                           (have c29b0 : decide (x59_4 < (l0.length : Int)) = true := decide_eq_true c29); clear c29; (have HC30 := Aside0.mk H); clear H; (have p117 : 0 ≤ (x59_4 : Int) := of_decide_eq_true (by first | (with_reducible assumption) | assumption)); (have q117 : x59_4 < (l0.length : Int) := of_decide_eq_true (by first | (with_reducible assumption) | assumption)); (obtain ⟨ad117, e117, hx117_0, hx117_1, hx117_2⟩ := at_T62 HR0.out x59_4 p117 q117)
                           cases e117
                           (first | replace hx117_0 := (HB.out.cell (World.block_lt_of_cell? w _ hx117_0)).trans hx117_0 | skip)
                           (first | replace hx117_1 := (HB.out.cell (World.block_lt_of_cell? w _ hx117_1)).trans hx117_1 | skip)
                           (first | replace hx117_2 := (HB.out.cell (World.block_lt_of_cell? w _ hx117_2)).trans hx117_2 | skip)
                           (replace p117 := eq_true p117); (replace q117 := eq_true q117)
                           go_upto_region 19 with (first | ((with_reducible refine gate_dst (N := 19) rfl ?_); (try (refine gate_guard (by rfl) ?_; dsimp only)); refine box_event ?hg (N := 19) ?hd (cs := #[.int .i64 0, .int .i64 0, .int .i64 0]) (t := 62) ?hr ?_; (case hd => rfl); (case hg => rfl); (case hr => first | (go_simp; done) | (go_simp; rfl)); intro gb118 hg w31 hbox hb; have n0_ := Aside0.mk (Kd.S_below (by (with_reducible repeat (first | apply Kd.S_alloc | apply Kd.S_drewN | apply Kd.S_drew)); exact HO_13.out) hb); have n1_ := Aside0.mk (Kd.R_below (by (with_reducible repeat (first | apply Kd.R_alloc | apply Kd.R_drewN | apply Kd.R_drew)); exact HO_14.out) hb); have n2_ := Aside0.mk (Kd.R_below (by (with_reducible repeat (first | apply Kd.R_alloc | apply Kd.R_drewN | apply Kd.R_drew)); exact HO_15.out) hb); have n3_ := Aside0.mk (below_step (by repeat (first | (with_reducible first | exact HB.out | apply below_alloc | apply pw_below_drewN | apply below_drew1) | exact HB.out)) hb); have n4_ := Aside0.mk (hbox); have n5_ := Aside0.mk ((by rw [hg]; exact (below_size (by repeat (first | (with_reducible first | exact HB.out | apply below_alloc | apply pw_below_drewN | apply below_drew1) | exact HB.out))) : w.heap.size ≤ gb118)); have n6_ := Aside0.mk ((by rw [hg]; exact (below_size (by repeat (first | (with_reducible first | exact HB.out | apply below_alloc | apply pw_below_drewN | apply below_drew1) | exact HB.out))) : w.heap.size ≤ gb118)); clear HO_13; clear HO_14; clear HO_15; clear HB; have HO_13 := n0_; have HO_14 := n1_; have HO_15 := n2_; have HB := n3_; have BK118 := n4_; have GW118 := n5_; have GE118 := n6_; clear n0_ n1_ n2_ n3_ n4_ n5_ n6_; clear hb hbox hg; have hcz32_0 : w31.cell? ⟨gb118, 0, none⟩ = some (.int .i64 0) := (blk_cell BK118.out 0).trans rfl; have hcz32_1 : w31.cell? ⟨gb118, 1, none⟩ = some (.int .i64 0) := (blk_cell BK118.out 1).trans rfl; have hcz32_2 : w31.cell? ⟨gb118, 2, none⟩ = some (.int .i64 0) := (blk_cell BK118.out 2).trans rfl; have hfz32_0 := blk_frozen BK118.out 0; have hfz32_1 := blk_frozen BK118.out 1; have hfz32_2 := blk_frozen BK118.out 2))
                           (try simp only [Act.put, List.setIfInBounds_toArray, List.set_cons_zero, List.set_cons_succ])
                           go_cut [81] (fun v81 wc => ∃ (kq : Nat) (x81_29 : Bool), v81 = .bool x81_29 ∧ Aside0 (impl_play.j4 kq l0 l1 x13_4 x14_3 x15_3 x54_3 x17_4 x59_4 a2 x54_3 l0 (l0.length : Int) x59_4 x81_29 ((rd_T62 l0 x59_4).f0) ((rd_T62 l0 x59_4).f1) ((rd_T62 l0 x59_4).f2) = some (r1, r2, r3)) ∧ Aside0 (kq ≤ k4) ∧ Aside0 (Kd.S kq55 71 wc w.heap.size (fun _ => True) v112 x13_4) ∧ Aside0 (Kd.R (Kd.int .i64) 3 wc w.heap.size (fun _ => True) v115 x14_3) ∧ Aside0 (Kd.R k59 59 wc w.heap.size (fun _ => True) u15 x15_3) ∧ Aside0 (wc.heap[gb118]? = some (.cells #[.int .i64 ((rd_T62 l0 x59_4).f0), .int .i64 ((rd_T62 l0 x59_4).f1), .int .i64 ((rd_T62 l0 x59_4).f2)] 62 (0, 0))) ∧ Aside0 (Below w.heap.size w wc))
                           case first =>
                            as_aux_lemma =>
                             have H := HC30.out; clear HC30
                             by_cases c33 : x59_4 < (l1.length : Int)
                             · rw [if_pos c33] at H
                               (have c33b0 : decide (x59_4 < (l1.length : Int)) = true := decide_eq_true c33); clear c33
                               (first | rw [c33b0] | (simp only [i64_w, i32_w]; rw [c33b0]) | skip)
                               by_cases c34 : x54_3 ≥ (rd l1 x59_4)
                               · rw [if_pos c34] at H
                                 (have c34b0 : decide ((rd l1 x59_4) ≤ x54_3) = true := decide_eq_true c34); clear c34
                                 by_cases c35 : ((rd_T62 l0 x59_4).f0) = 0
                                 · rw [if_pos c35] at H
                                   exact absurd H (by simp)
                                 · rw [if_neg c35] at H
                                   (have c35b0 : (((rd_T62 l0 x59_4).f0) == 0) = false := beq_eq_false_iff_ne.mpr c35); (have c35b1 : (((rd_T62 l0 x59_4).f0) != 0) = true := bne_iff_ne.mpr c35); (have H' := Aside0.mk H); clear H
                                   try go_wp2
                                   (have n0_ : Aside0 (Kd.S kq55 71 (((w31.setCell ⟨gb118, 0, none⟩ (.int .i64 ((rd_T62 l0 x59_4).f0))).setCell ⟨gb118, 1, none⟩ (.int .i64 ((rd_T62 l0 x59_4).f1))).setCell ⟨gb118, 2, none⟩ (.int .i64 ((rd_T62 l0 x59_4).f2))) w.heap.size (fun _ => True) v112 x13_4) := ⟨by (with_reducible repeat (first | apply Kd.S_alloc | apply Kd.S_drewN | apply Kd.S_drew)); exact Kd.S_mono (Kd.S_far (p := ⟨gb118, 2, none⟩) (Kd.S_far (p := ⟨gb118, 1, none⟩) (Kd.S_far (p := ⟨gb118, 0, none⟩) (Kd.S_types HO_13.out BK118.out (by decide)) (fun _ hk => hk.2) (.int .i64 ((rd_T62 l0 x59_4).f0))) (fun _ hk => hk.2) (.int .i64 ((rd_T62 l0 x59_4).f1))) (fun _ hk => hk.2) (.int .i64 ((rd_T62 l0 x59_4).f2))) (fun _ hk => trivial)⟩); (have n1_ : Aside0 (Kd.R (Kd.int .i64) 3 (((w31.setCell ⟨gb118, 0, none⟩ (.int .i64 ((rd_T62 l0 x59_4).f0))).setCell ⟨gb118, 1, none⟩ (.int .i64 ((rd_T62 l0 x59_4).f1))).setCell ⟨gb118, 2, none⟩ (.int .i64 ((rd_T62 l0 x59_4).f2))) w.heap.size (fun _ => True) v115 x14_3) := ⟨by (with_reducible repeat (first | apply Kd.R_alloc | apply Kd.R_drewN | apply Kd.R_drew)); exact Kd.R_mono (Kd.R_far (p := ⟨gb118, 2, none⟩) (Kd.R_far (p := ⟨gb118, 1, none⟩) (Kd.R_far (p := ⟨gb118, 0, none⟩) (Kd.R_types HO_14.out BK118.out (by decide)) (fun _ hk => hk.2) (.int .i64 ((rd_T62 l0 x59_4).f0))) (fun _ hk => hk.2) (.int .i64 ((rd_T62 l0 x59_4).f1))) (fun _ hk => hk.2) (.int .i64 ((rd_T62 l0 x59_4).f2))) (fun _ hk => trivial)⟩)
                                   (have n2_ : Aside0 (Kd.R k59 59 (((w31.setCell ⟨gb118, 0, none⟩ (.int .i64 ((rd_T62 l0 x59_4).f0))).setCell ⟨gb118, 1, none⟩ (.int .i64 ((rd_T62 l0 x59_4).f1))).setCell ⟨gb118, 2, none⟩ (.int .i64 ((rd_T62 l0 x59_4).f2))) w.heap.size (fun _ => True) u15 x15_3) := ⟨by (with_reducible repeat (first | apply Kd.R_alloc | apply Kd.R_drewN | apply Kd.R_drew)); exact Kd.R_mono (Kd.R_far (p := ⟨gb118, 2, none⟩) (Kd.R_far (p := ⟨gb118, 1, none⟩) (Kd.R_far (p := ⟨gb118, 0, none⟩) (Kd.R_types HO_15.out BK118.out (by decide)) (fun _ hk => hk.2) (.int .i64 ((rd_T62 l0 x59_4).f0))) (fun _ hk => hk.2) (.int .i64 ((rd_T62 l0 x59_4).f1))) (fun _ hk => hk.2) (.int .i64 ((rd_T62 l0 x59_4).f2))) (fun _ hk => trivial)⟩)
                                   (have n3_ : Aside0 ((((w31.setCell ⟨gb118, 0, none⟩ (.int .i64 ((rd_T62 l0 x59_4).f0))).setCell ⟨gb118, 1, none⟩ (.int .i64 ((rd_T62 l0 x59_4).f1))).setCell ⟨gb118, 2, none⟩ (.int .i64 ((rd_T62 l0 x59_4).f2))).heap[gb118]? = some (.cells #[.int .i64 ((rd_T62 l0 x59_4).f0), .int .i64 ((rd_T62 l0 x59_4).f1), .int .i64 ((rd_T62 l0 x59_4).f2)] 62 (0, 0))) := ⟨by (with_reducible repeat (first | refine blk_drewN ?_ _ | refine blk_drew ?_ | refine blk_alloc ?_ _)); refine blk_put (cs := #[.int .i64 ((rd_T62 l0 x59_4).f0), .int .i64 ((rd_T62 l0 x59_4).f1), .int .i64 0]) ?_ 2 _ rfl; (with_reducible repeat (first | refine blk_drewN ?_ _ | refine blk_drew ?_ | refine blk_alloc ?_ _)); refine blk_put (cs := #[.int .i64 ((rd_T62 l0 x59_4).f0), .int .i64 0, .int .i64 0]) ?_ 1 _ rfl; (with_reducible repeat (first | refine blk_drewN ?_ _ | refine blk_drew ?_ | refine blk_alloc ?_ _)); refine blk_put (cs := #[.int .i64 0, .int .i64 0, .int .i64 0]) ?_ 0 _ rfl; (with_reducible repeat (first | refine blk_drewN ?_ _ | refine blk_drew ?_ | refine blk_alloc ?_ _)); exact BK118.out⟩); (have n4_ : Aside0 (Below w.heap.size w (((w31.setCell ⟨gb118, 0, none⟩ (.int .i64 ((rd_T62 l0 x59_4).f0))).setCell ⟨gb118, 1, none⟩ (.int .i64 ((rd_T62 l0 x59_4).f1))).setCell ⟨gb118, 2, none⟩ (.int .i64 ((rd_T62 l0 x59_4).f2)))) := ⟨by repeat (first | (with_reducible first | exact HB.out | apply below_alloc | apply pw_below_drewN | apply below_drew1 | refine below_set ?_ GE118.out) | exact HB.out)⟩)
                                   ((try clear HO_13)); ((try clear HO_14)); ((try clear HO_15)); ((try clear BK118)); ((try clear HB))
                                   generalize (((w31.setCell ⟨gb118, 0, none⟩ (.int .i64 ((rd_T62 l0 x59_4).f0))).setCell ⟨gb118, 1, none⟩ (.int .i64 ((rd_T62 l0 x59_4).f1))).setCell ⟨gb118, 2, none⟩ (.int .i64 ((rd_T62 l0 x59_4).f2))) = w36 at n0_ n1_ n2_ n3_ n4_ ⊢
                                   have HO_13 := n0_; have HO_14 := n1_; have HO_15 := n2_; have BK118 := n3_; have HB := n4_; clear n0_ n1_ n2_ n3_ n4_; (have n0_ := Aside0.mk (Kd.S_drew HO_13.out)); (have n1_ := Aside0.mk (Kd.R_drew HO_14.out)); (have n2_ := Aside0.mk (Kd.R_drew HO_15.out)); (have n3_ := Aside0.mk (blk_drew BK118.out)); (have n4_ := Aside0.mk (below_drew1 HB.out)); clear HO_13; clear HO_14; clear HO_15; clear BK118; clear HB; have HO_13 := n0_; have HO_14 := n1_; have HO_15 := n2_; have BK118 := n3_; have HB := n4_; clear n0_ n1_ n2_ n3_ n4_; (have p119 : 0 ≤ (x59_4 : Int) := of_decide_eq_true (by first | (with_reducible assumption) | assumption)); (have q119 : x59_4 < (l1.length : Int) := of_decide_eq_true (by first | (with_reducible assumption) | assumption)); (obtain ⟨ad119, e119, hx119_0⟩ := Kd.at_int HR1.out x59_4 p119 q119); have hw119_0 := hx119_0
                                   cases e119
                                   (first | replace hx119_0 := (HB.out.cell (World.block_lt_of_cell? w _ hx119_0)).trans hx119_0 | skip)
                                   (replace p119 := eq_true p119); (replace q119 := eq_true q119); (have p120 : 0 ≤ (x59_4 : Int) := of_decide_eq_true (by first | (with_reducible assumption) | assumption)); (have q120 : x59_4 < (l1.length : Int) := of_decide_eq_true (by first | (with_reducible assumption) | assumption)); (obtain ⟨ad120, e120, hx120_0⟩ := Kd.at_int HR1.out x59_4 p120 q120); have hw120_0 := hx120_0; (obtain rfl : ad119 = ad120 := (by injection e120))
                                   (first | replace hx120_0 := (HB.out.cell (World.block_lt_of_cell? w _ hx120_0)).trans hx120_0 | skip)
                                   (replace p120 := eq_true p120); (replace q120 := eq_true q120)
                                   refine start_ (n := 18) (S := fun w' => w'.cell? ⟨gb118, 0, none⟩ = some (.int .i64 ((rd_T62 l0 x59_4).f0)) ∧ w'.cell? ⟨gb118, 1, none⟩ = some (.int .i64 ((rd_T62 l0 x59_4).f1)) ∧ w'.cell? ⟨gb118, 2, none⟩ = some (.int .i64 ((rd_T62 l0 x59_4).f2)) ∧ w'.cell? (ad119.add (x59_4).toNat) = some (.int .i64 (rd l1 x59_4)) ∧ w'.cell? (ad119.add (x59_4).toNat) = some (.int .i64 (rd l1 x59_4))) (ds := []) #[false, false, false, false, false, false, false, false, false, false, false, false, false, false, false, false, false, false] (by kernel_rfl) rfl rfl ⟨(blk_cell BK118.out 0).trans rfl, (blk_cell BK118.out 1).trans rfl, (blk_cell BK118.out 2).trans rfl, (by first | exact (HB.out.cell (World.block_lt_of_cell? w _ hw119_0)).trans hw119_0 | exact hw119_0), (by first | exact (HB.out.cell (World.block_lt_of_cell? w _ hw120_0)).trans hw120_0 | exact hw120_0)⟩ (fun hHeld => ?_); refine with_tabW impl_play.tab19 impl_play.bits19 (fun HT_ HW_ => ?_)
                                   generalize w36.drew = w37 at HO_13 HO_14 HO_15 BK118 HB hx119_0 hx120_0 hHeld ⊢
                                   refine pure_ (i := 0) (N := some 64) (v := ?_) (a' := ?_) #[true, false, false, false, false, false, false, false, false, false, false, false, false, false, false, false, false, false] rfl rfl (any_of HT_.out (by kernel_rfl)) (fun _ _ _ h => h) (Or.inl ⟨by rfl, ?_⟩) ?_ ?_
                                   rotate_left
                                   · intro w'
                                     go_simp
                                     with_reducible rfl
                                   rotate_left
                                   · simp only [Act.put, List.setIfInBounds_toArray, List.set_cons_zero, List.set_cons_succ, i64_w, i32_w]
                                     rfl
                                   refine pure_ (i := 1) (N := some 65) (v := ?_) (a' := ?_) #[true, true, false, false, false, false, false, false, false, false, false, false, false, false, false, false, false, false] rfl rfl (any_of HT_.out (by kernel_rfl)) (fun _ _ _ h => h) (Or.inl ⟨by rfl, ?_⟩) ?_ ?_
                                   rotate_left
                                   · intro w'
                                     go_simp
                                     with_reducible rfl
                                   rotate_left
                                   · simp only [Act.put, List.setIfInBounds_toArray, List.set_cons_zero, List.set_cons_succ, i64_w, i32_w]
                                     rfl
                                   refine pure_ (i := 2) (N := some 66) (v := ?_) (a' := ?_) #[true, true, true, false, false, false, false, false, false, false, false, false, false, false, false, false, false, false] rfl rfl (any_of HT_.out (by kernel_rfl)) (fun _ _ _ h => h) (Or.inl ⟨by rfl, ?_⟩) ?_ ?_
                                   rotate_left
                                   · intro w'
                                     go_simp
                                     with_reducible rfl
                                   rotate_left
                                   · simp only [Act.put, List.setIfInBounds_toArray, List.set_cons_zero, List.set_cons_succ, i64_w, i32_w]
                                     rfl
                                   refine pure_ (i := 3) (N := some 67) (v := ?_) (a' := ?_) #[true, true, true, true, false, false, false, false, false, false, false, false, false, false, false, false, false, false] rfl rfl (any_of HT_.out (by kernel_rfl)) (fun _ _ _ h => h) (Or.inl ⟨by rfl, ?_⟩) ?_ ?_
                                   rotate_left
                                   · intro w'
                                     go_simp
                                     with_reducible rfl
                                   rotate_left
                                   · simp only [Act.put, List.setIfInBounds_toArray, List.set_cons_zero, List.set_cons_succ, i64_w, i32_w]
                                     rfl
                                   refine take_ (i := 4) (N := some 68) (v := ?_) (a' := ?_) #[true, true, true, true, true, false, false, false, false, false, false, false, false, false, false, false, false, false] rfl rfl (take_ofW HT_.out HW_.out (by kernel_rfl)) (fun _ _ _ h => h) (Or.inl ⟨by rfl, ?_⟩) hHeld ?_ ?_
                                   rotate_left
                                   · rintro w' ⟨s0, s1, s2, s3, s4⟩
                                     go_simp
                                     with_reducible rfl
                                   rotate_left
                                   · simp only [Act.put, List.setIfInBounds_toArray, List.set_cons_zero, List.set_cons_succ, i64_w, i32_w]
                                     rfl
                                   refine pure_ (i := 5) (N := some 69) (v := ?_) (a' := ?_) #[true, true, true, true, true, true, false, false, false, false, false, false, false, false, false, false, false, false] rfl rfl (any_of HT_.out (by kernel_rfl)) (fun _ _ _ h => h) (Or.inl ⟨by rfl, ?_⟩) ?_ ?_
                                   rotate_left
                                   · intro w'
                                     go_simp
                                     with_reducible rfl
                                   rotate_left
                                   · simp only [Act.put, List.setIfInBounds_toArray, List.set_cons_zero, List.set_cons_succ, i64_w, i32_w]
                                     rfl
                                   refine pure_ (i := 6) (N := some 70) (v := ?_) (a' := ?_) #[true, true, true, true, true, true, true, false, false, false, false, false, false, false, false, false, false, false] rfl rfl (any_of HT_.out (by kernel_rfl)) (fun _ _ _ h => h) (Or.inl ⟨by rfl, ?_⟩) ?_ ?_
                                   rotate_left
                                   · intro w'
                                     go_simp
                                     with_reducible rfl
                                   rotate_left
                                   · simp only [Act.put, List.setIfInBounds_toArray, List.set_cons_zero, List.set_cons_succ, i64_w, i32_w]
                                     rfl
                                   refine pure_ (i := 7) (N := some 71) (v := ?_) (a' := ?_) #[true, true, true, true, true, true, true, true, false, false, false, false, false, false, false, false, false, false] rfl rfl (any_of HT_.out (by kernel_rfl)) (fun _ _ _ h => h) (Or.inl ⟨by rfl, ?_⟩) ?_ ?_
                                   rotate_left
                                   · intro w'
                                     go_simp
                                     with_reducible rfl
                                   rotate_left
                                   · simp only [Act.put, List.setIfInBounds_toArray, List.set_cons_zero, List.set_cons_succ, i64_w, i32_w]
                                     rfl
                                   refine pure_ (i := 8) (N := some 72) (v := ?_) (a' := ?_) #[true, true, true, true, true, true, true, true, true, false, false, false, false, false, false, false, false, false] rfl rfl (any_of HT_.out (by kernel_rfl)) (fun _ _ _ h => h) (Or.inl ⟨by rfl, ?_⟩) ?_ ?_
                                   rotate_left
                                   · intro w'
                                     go_simp
                                     with_reducible rfl
                                   rotate_left
                                   · simp only [Act.put, List.setIfInBounds_toArray, List.set_cons_zero, List.set_cons_succ, i64_w, i32_w]
                                     rfl
                                   refine pure_ (i := 9) (N := some 73) (v := ?_) (a' := ?_) #[true, true, true, true, true, true, true, true, true, true, false, false, false, false, false, false, false, false] rfl rfl (any_of HT_.out (by kernel_rfl)) (fun _ _ _ h => h) (Or.inl ⟨by rfl, ?_⟩) ?_ ?_
                                   rotate_left
                                   · intro w'
                                     go_simp
                                     with_reducible rfl
                                   rotate_left
                                   · simp only [Act.put, List.setIfInBounds_toArray, List.set_cons_zero, List.set_cons_succ, i64_w, i32_w]
                                     rfl
                                   refine pure_ (i := 10) (N := some 74) (v := ?_) (a' := ?_) #[true, true, true, true, true, true, true, true, true, true, true, false, false, false, false, false, false, false] rfl rfl (any_of HT_.out (by kernel_rfl)) (fun _ _ _ h => h) (Or.inl ⟨by rfl, ?_⟩) ?_ ?_
                                   rotate_left
                                   · intro w'
                                     go_simp
                                     with_reducible rfl
                                   rotate_left
                                   · simp only [Act.put, List.setIfInBounds_toArray, List.set_cons_zero, List.set_cons_succ, i64_w, i32_w]
                                     rfl
                                   refine pure_ (i := 13) (N := some 77) (v := ?_) (a' := ?_) #[true, true, true, true, true, true, true, true, true, true, true, false, false, true, false, false, false, false] rfl rfl (any_of HT_.out (by kernel_rfl)) (fun _ _ _ h => h) (Or.inl ⟨by rfl, ?_⟩) ?_ ?_
                                   rotate_left
                                   · intro w'
                                     go_simp
                                     with_reducible rfl
                                   rotate_left
                                   · simp only [Act.put, List.setIfInBounds_toArray, List.set_cons_zero, List.set_cons_succ, i64_w, i32_w]
                                     rfl
                                   refine take_ (i := 11) (N := some 75) (v := ?_) (a' := ?_) #[true, true, true, true, true, true, true, true, true, true, true, true, false, true, false, false, false, false] rfl rfl (take_ofW HT_.out HW_.out (by kernel_rfl)) (fun _ _ _ h => h) (Or.inl ⟨by rfl, ?_⟩) hHeld ?_ ?_
                                   rotate_left
                                   · rintro w' ⟨s0, s1, s2, s3, s4⟩
                                     go_simp
                                     with_reducible rfl
                                   rotate_left
                                   · simp only [Act.put, List.setIfInBounds_toArray, List.set_cons_zero, List.set_cons_succ, i64_w, i32_w]
                                     rfl
                                   refine pure_ (i := 12) (N := some 76) (v := ?_) (a' := ?_) #[true, true, true, true, true, true, true, true, true, true, true, true, true, true, false, false, false, false] rfl rfl (any_of HT_.out (by kernel_rfl)) (fun _ _ _ h => h) (Or.inl ⟨by rfl, ?_⟩) ?_ ?_
                                   rotate_left
                                   · intro w'
                                     go_simp
                                     with_reducible rfl
                                   rotate_left
                                   · simp only [Act.put, List.setIfInBounds_toArray, List.set_cons_zero, List.set_cons_succ, i64_w, i32_w]
                                     rfl
                                   refine take_ (i := 14) (N := some 78) (v := ?_) (a' := ?_) #[true, true, true, true, true, true, true, true, true, true, true, true, true, true, true, false, false, false] rfl rfl (take_ofW HT_.out HW_.out (by kernel_rfl)) (fun _ _ _ h => h) (Or.inl ⟨by rfl, ?_⟩) hHeld ?_ ?_
                                   rotate_left
                                   · rintro w' ⟨s0, s1, s2, s3, s4⟩
                                     go_simp
                                     with_reducible rfl
                                   rotate_left
                                   · simp only [Act.put, List.setIfInBounds_toArray, List.set_cons_zero, List.set_cons_succ, i64_w, i32_w]
                                     rfl
                                   refine pure_ (i := 15) (N := some 79) (v := ?_) (a' := ?_) #[true, true, true, true, true, true, true, true, true, true, true, true, true, true, true, true, false, false] rfl rfl (any_of HT_.out (by kernel_rfl)) (fun _ _ _ h => h) (Or.inl ⟨by rfl, ?_⟩) ?_ ?_
                                   rotate_left
                                   · intro w'
                                     go_simp
                                     with_reducible rfl
                                   rotate_left
                                   · simp only [Act.put, List.setIfInBounds_toArray, List.set_cons_zero, List.set_cons_succ, i64_w, i32_w]
                                     rfl
                                   refine pure_ (i := 16) (N := some 80) (v := ?_) (a' := ?_) #[true, true, true, true, true, true, true, true, true, true, true, true, true, true, true, true, true, false] rfl rfl (any_of HT_.out (by kernel_rfl)) (fun _ _ _ h => h) (Or.inl ⟨by rfl, ?_⟩) ?_ ?_
                                   rotate_left
                                   · intro w'
                                     go_simp
                                     with_reducible rfl
                                   rotate_left
                                   · simp only [Act.put, List.setIfInBounds_toArray, List.set_cons_zero, List.set_cons_succ, i64_w, i32_w]
                                     rfl
                                   refine pure_ (i := 17) (N := some 81) (v := ?_) (a' := ?_) #[true, true, true, true, true, true, true, true, true, true, true, true, true, true, true, true, true, true] rfl rfl (any_of HT_.out (by kernel_rfl)) (fun _ _ _ h => h) (Or.inl ⟨by rfl, ?_⟩) ?_ ?_
                                   rotate_left
                                   · intro w'
                                     go_simp
                                     with_reducible rfl
                                   rotate_left
                                   · simp only [Act.put, List.setIfInBounds_toArray, List.set_cons_zero, List.set_cons_succ, i64_w, i32_w]
                                     rfl
                                   refine done_ (done_of HT_.out (by kernel_rfl)) ?_
                                   try go_wp2
                                   go_meet
                                   case rel => exact ⟨_, (((Int.tmod (wrap64 (x54_3 - (rd l1 x59_4))) ((rd_T62 l0 x59_4).f0)) == 0)), (by first | rfl | (simp; done) | (simp [*]; done)), H', ⟨by have := HJ4.out; have := HK2.out; have := HK3.out; have := HK4.out; first | omega | exact Nat.le_refl _⟩, ⟨by (with_reducible repeat (first | apply Kd.S_alloc | apply Kd.S_drewN | apply Kd.S_drew)); exact HO_13.out⟩, ⟨by (with_reducible repeat (first | apply Kd.R_alloc | apply Kd.R_drewN | apply Kd.R_drew)); exact HO_14.out⟩, ⟨by (with_reducible repeat (first | apply Kd.R_alloc | apply Kd.R_drewN | apply Kd.R_drew)); exact HO_15.out⟩, ⟨by (with_reducible repeat (first | refine blk_drewN ?_ _ | refine blk_drew ?_ | refine blk_alloc ?_ _)); exact BK118.out⟩, ⟨by repeat (first | (with_reducible first | exact HB.out | apply below_alloc | apply pw_below_drewN | apply below_drew1 | refine below_set ?_ GE118.out) | exact HB.out)⟩⟩
                               · rw [if_neg c34] at H
                                 (have c34b0 : decide ((rd l1 x59_4) ≤ x54_3) = false := decide_eq_false c34); clear c34; (have H' := Aside0.mk H); clear H
                                 try go_wp2
                                 (have n0_ : Aside0 (Kd.S kq55 71 (((w31.setCell ⟨gb118, 0, none⟩ (.int .i64 ((rd_T62 l0 x59_4).f0))).setCell ⟨gb118, 1, none⟩ (.int .i64 ((rd_T62 l0 x59_4).f1))).setCell ⟨gb118, 2, none⟩ (.int .i64 ((rd_T62 l0 x59_4).f2))) w.heap.size (fun _ => True) v112 x13_4) := ⟨by (with_reducible repeat (first | apply Kd.S_alloc | apply Kd.S_drewN | apply Kd.S_drew)); exact Kd.S_mono (Kd.S_far (p := ⟨gb118, 2, none⟩) (Kd.S_far (p := ⟨gb118, 1, none⟩) (Kd.S_far (p := ⟨gb118, 0, none⟩) (Kd.S_types HO_13.out BK118.out (by decide)) (fun _ hk => hk.2) (.int .i64 ((rd_T62 l0 x59_4).f0))) (fun _ hk => hk.2) (.int .i64 ((rd_T62 l0 x59_4).f1))) (fun _ hk => hk.2) (.int .i64 ((rd_T62 l0 x59_4).f2))) (fun _ hk => trivial)⟩); (have n1_ : Aside0 (Kd.R (Kd.int .i64) 3 (((w31.setCell ⟨gb118, 0, none⟩ (.int .i64 ((rd_T62 l0 x59_4).f0))).setCell ⟨gb118, 1, none⟩ (.int .i64 ((rd_T62 l0 x59_4).f1))).setCell ⟨gb118, 2, none⟩ (.int .i64 ((rd_T62 l0 x59_4).f2))) w.heap.size (fun _ => True) v115 x14_3) := ⟨by (with_reducible repeat (first | apply Kd.R_alloc | apply Kd.R_drewN | apply Kd.R_drew)); exact Kd.R_mono (Kd.R_far (p := ⟨gb118, 2, none⟩) (Kd.R_far (p := ⟨gb118, 1, none⟩) (Kd.R_far (p := ⟨gb118, 0, none⟩) (Kd.R_types HO_14.out BK118.out (by decide)) (fun _ hk => hk.2) (.int .i64 ((rd_T62 l0 x59_4).f0))) (fun _ hk => hk.2) (.int .i64 ((rd_T62 l0 x59_4).f1))) (fun _ hk => hk.2) (.int .i64 ((rd_T62 l0 x59_4).f2))) (fun _ hk => trivial)⟩)
                                 (have n2_ : Aside0 (Kd.R k59 59 (((w31.setCell ⟨gb118, 0, none⟩ (.int .i64 ((rd_T62 l0 x59_4).f0))).setCell ⟨gb118, 1, none⟩ (.int .i64 ((rd_T62 l0 x59_4).f1))).setCell ⟨gb118, 2, none⟩ (.int .i64 ((rd_T62 l0 x59_4).f2))) w.heap.size (fun _ => True) u15 x15_3) := ⟨by (with_reducible repeat (first | apply Kd.R_alloc | apply Kd.R_drewN | apply Kd.R_drew)); exact Kd.R_mono (Kd.R_far (p := ⟨gb118, 2, none⟩) (Kd.R_far (p := ⟨gb118, 1, none⟩) (Kd.R_far (p := ⟨gb118, 0, none⟩) (Kd.R_types HO_15.out BK118.out (by decide)) (fun _ hk => hk.2) (.int .i64 ((rd_T62 l0 x59_4).f0))) (fun _ hk => hk.2) (.int .i64 ((rd_T62 l0 x59_4).f1))) (fun _ hk => hk.2) (.int .i64 ((rd_T62 l0 x59_4).f2))) (fun _ hk => trivial)⟩)
                                 (have n3_ : Aside0 ((((w31.setCell ⟨gb118, 0, none⟩ (.int .i64 ((rd_T62 l0 x59_4).f0))).setCell ⟨gb118, 1, none⟩ (.int .i64 ((rd_T62 l0 x59_4).f1))).setCell ⟨gb118, 2, none⟩ (.int .i64 ((rd_T62 l0 x59_4).f2))).heap[gb118]? = some (.cells #[.int .i64 ((rd_T62 l0 x59_4).f0), .int .i64 ((rd_T62 l0 x59_4).f1), .int .i64 ((rd_T62 l0 x59_4).f2)] 62 (0, 0))) := ⟨by (with_reducible repeat (first | refine blk_drewN ?_ _ | refine blk_drew ?_ | refine blk_alloc ?_ _)); refine blk_put (cs := #[.int .i64 ((rd_T62 l0 x59_4).f0), .int .i64 ((rd_T62 l0 x59_4).f1), .int .i64 0]) ?_ 2 _ rfl; (with_reducible repeat (first | refine blk_drewN ?_ _ | refine blk_drew ?_ | refine blk_alloc ?_ _)); refine blk_put (cs := #[.int .i64 ((rd_T62 l0 x59_4).f0), .int .i64 0, .int .i64 0]) ?_ 1 _ rfl; (with_reducible repeat (first | refine blk_drewN ?_ _ | refine blk_drew ?_ | refine blk_alloc ?_ _)); refine blk_put (cs := #[.int .i64 0, .int .i64 0, .int .i64 0]) ?_ 0 _ rfl; (with_reducible repeat (first | refine blk_drewN ?_ _ | refine blk_drew ?_ | refine blk_alloc ?_ _)); exact BK118.out⟩); (have n4_ : Aside0 (Below w.heap.size w (((w31.setCell ⟨gb118, 0, none⟩ (.int .i64 ((rd_T62 l0 x59_4).f0))).setCell ⟨gb118, 1, none⟩ (.int .i64 ((rd_T62 l0 x59_4).f1))).setCell ⟨gb118, 2, none⟩ (.int .i64 ((rd_T62 l0 x59_4).f2)))) := ⟨by repeat (first | (with_reducible first | exact HB.out | apply below_alloc | apply pw_below_drewN | apply below_drew1 | refine below_set ?_ GE118.out) | exact HB.out)⟩)
                                 ((try clear HO_13)); ((try clear HO_14)); ((try clear HO_15)); ((try clear BK118)); ((try clear HB))
                                 generalize (((w31.setCell ⟨gb118, 0, none⟩ (.int .i64 ((rd_T62 l0 x59_4).f0))).setCell ⟨gb118, 1, none⟩ (.int .i64 ((rd_T62 l0 x59_4).f1))).setCell ⟨gb118, 2, none⟩ (.int .i64 ((rd_T62 l0 x59_4).f2))) = w38 at n0_ n1_ n2_ n3_ n4_ ⊢
                                 have HO_13 := n0_; have HO_14 := n1_; have HO_15 := n2_; have BK118 := n3_; have HB := n4_; clear n0_ n1_ n2_ n3_ n4_; (have n0_ := Aside0.mk (Kd.S_drew HO_13.out)); (have n1_ := Aside0.mk (Kd.R_drew HO_14.out)); (have n2_ := Aside0.mk (Kd.R_drew HO_15.out)); (have n3_ := Aside0.mk (blk_drew BK118.out)); (have n4_ := Aside0.mk (below_drew1 HB.out)); clear HO_13; clear HO_14; clear HO_15; clear BK118; clear HB; have HO_13 := n0_; have HO_14 := n1_; have HO_15 := n2_; have BK118 := n3_; have HB := n4_; clear n0_ n1_ n2_ n3_ n4_; (have p119 : 0 ≤ (x59_4 : Int) := of_decide_eq_true (by first | (with_reducible assumption) | assumption)); (have q119 : x59_4 < (l1.length : Int) := of_decide_eq_true (by first | (with_reducible assumption) | assumption)); (obtain ⟨ad119, e119, hx119_0⟩ := Kd.at_int HR1.out x59_4 p119 q119); have hw119_0 := hx119_0
                                 cases e119
                                 (first | replace hx119_0 := (HB.out.cell (World.block_lt_of_cell? w _ hx119_0)).trans hx119_0 | skip)
                                 (replace p119 := eq_true p119); (replace q119 := eq_true q119)
                                 refine start_ (n := 18) (S := fun w' => w'.cell? (ad119.add (x59_4).toNat) = some (.int .i64 (rd l1 x59_4))) (ds := []) #[false, false, false, false, false, false, false, false, false, false, false, false, false, false, false, false, false, false] (by kernel_rfl) rfl rfl ((by first | exact (HB.out.cell (World.block_lt_of_cell? w _ hw119_0)).trans hw119_0 | exact hw119_0)) (fun hHeld => ?_); refine with_tabW impl_play.tab19 impl_play.bits19 (fun HT_ HW_ => ?_)
                                 generalize w38.drew = w39 at HO_13 HO_14 HO_15 BK118 HB hx119_0 hHeld ⊢
                                 refine pure_ (i := 0) (N := some 64) (v := ?_) (a' := ?_) #[true, false, false, false, false, false, false, false, false, false, false, false, false, false, false, false, false, false] rfl rfl (any_of HT_.out (by kernel_rfl)) (fun _ _ _ h => h) (Or.inl ⟨by rfl, ?_⟩) ?_ ?_
                                 rotate_left
                                 · intro w'
                                   go_simp
                                   with_reducible rfl
                                 rotate_left
                                 · simp only [Act.put, List.setIfInBounds_toArray, List.set_cons_zero, List.set_cons_succ, i64_w, i32_w]
                                   rfl
                                 refine pure_ (i := 1) (N := some 65) (v := ?_) (a' := ?_) #[true, true, false, false, false, false, false, false, false, false, false, false, false, false, false, false, false, false] rfl rfl (any_of HT_.out (by kernel_rfl)) (fun _ _ _ h => h) (Or.inl ⟨by rfl, ?_⟩) ?_ ?_
                                 rotate_left
                                 · intro w'
                                   go_simp
                                   with_reducible rfl
                                 rotate_left
                                 · simp only [Act.put, List.setIfInBounds_toArray, List.set_cons_zero, List.set_cons_succ, i64_w, i32_w]
                                   rfl
                                 refine pure_ (i := 2) (N := some 66) (v := ?_) (a' := ?_) #[true, true, true, false, false, false, false, false, false, false, false, false, false, false, false, false, false, false] rfl rfl (any_of HT_.out (by kernel_rfl)) (fun _ _ _ h => h) (Or.inl ⟨by rfl, ?_⟩) ?_ ?_
                                 rotate_left
                                 · intro w'
                                   go_simp
                                   with_reducible rfl
                                 rotate_left
                                 · simp only [Act.put, List.setIfInBounds_toArray, List.set_cons_zero, List.set_cons_succ, i64_w, i32_w]
                                   rfl
                                 refine pure_ (i := 3) (N := some 67) (v := ?_) (a' := ?_) #[true, true, true, true, false, false, false, false, false, false, false, false, false, false, false, false, false, false] rfl rfl (any_of HT_.out (by kernel_rfl)) (fun _ _ _ h => h) (Or.inl ⟨by rfl, ?_⟩) ?_ ?_
                                 rotate_left
                                 · intro w'
                                   go_simp
                                   with_reducible rfl
                                 rotate_left
                                 · simp only [Act.put, List.setIfInBounds_toArray, List.set_cons_zero, List.set_cons_succ, i64_w, i32_w]
                                   rfl
                                 refine take_ (i := 4) (N := some 68) (v := ?_) (a' := ?_) #[true, true, true, true, true, false, false, false, false, false, false, false, false, false, false, false, false, false] rfl rfl (take_ofW HT_.out HW_.out (by kernel_rfl)) (fun _ _ _ h => h) (Or.inl ⟨by rfl, ?_⟩) hHeld ?_ ?_
                                 rotate_left
                                 · intro w' s0
                                   go_simp
                                   with_reducible rfl
                                 rotate_left
                                 · simp only [Act.put, List.setIfInBounds_toArray, List.set_cons_zero, List.set_cons_succ, i64_w, i32_w]
                                   rfl
                                 refine pure_ (i := 5) (N := some 69) (v := ?_) (a' := ?_) #[true, true, true, true, true, true, false, false, false, false, false, false, false, false, false, false, false, false] rfl rfl (any_of HT_.out (by kernel_rfl)) (fun _ _ _ h => h) (Or.inl ⟨by rfl, ?_⟩) ?_ ?_
                                 rotate_left
                                 · intro w'
                                   go_simp
                                   with_reducible rfl
                                 rotate_left
                                 · simp only [Act.put, List.setIfInBounds_toArray, List.set_cons_zero, List.set_cons_succ, i64_w, i32_w]
                                   rfl
                                 refine pure_ (i := 6) (N := some 70) (v := ?_) (a' := ?_) #[true, true, true, true, true, true, true, false, false, false, false, false, false, false, false, false, false, false] rfl rfl (any_of HT_.out (by kernel_rfl)) (fun _ _ _ h => h) (Or.inl ⟨by rfl, ?_⟩) ?_ ?_
                                 rotate_left
                                 · intro w'
                                   go_simp
                                   with_reducible rfl
                                 rotate_left
                                 · simp only [Act.put, List.setIfInBounds_toArray, List.set_cons_zero, List.set_cons_succ, i64_w, i32_w]
                                   rfl
                                 refine pure_ (i := 7) (N := some 71) (v := undef) (a' := ?_) #[true, true, true, true, true, true, true, true, false, false, false, false, false, false, false, false, false, false] rfl rfl (any_of HT_.out (by kernel_rfl)) (fun _ _ _ h => h) (Or.inr ⟨by rfl, rfl⟩) ?_ ?_
                                 rotate_left
                                 · simp only [Act.put, List.setIfInBounds_toArray, List.set_cons_zero, List.set_cons_succ, i64_w, i32_w]
                                   rfl
                                 refine pure_ (i := 8) (N := some 72) (v := undef) (a' := ?_) #[true, true, true, true, true, true, true, true, true, false, false, false, false, false, false, false, false, false] rfl rfl (any_of HT_.out (by kernel_rfl)) (fun _ _ _ h => h) (Or.inr ⟨by rfl, rfl⟩) ?_ ?_
                                 rotate_left
                                 · simp only [Act.put, List.setIfInBounds_toArray, List.set_cons_zero, List.set_cons_succ, i64_w, i32_w]
                                   rfl
                                 refine pure_ (i := 9) (N := some 73) (v := undef) (a' := ?_) #[true, true, true, true, true, true, true, true, true, true, false, false, false, false, false, false, false, false] rfl rfl (any_of HT_.out (by kernel_rfl)) (fun _ _ _ h => h) (Or.inr ⟨by rfl, rfl⟩) ?_ ?_
                                 rotate_left
                                 · simp only [Act.put, List.setIfInBounds_toArray, List.set_cons_zero, List.set_cons_succ, i64_w, i32_w]
                                   rfl
                                 refine pure_ (i := 10) (N := some 74) (v := undef) (a' := ?_) #[true, true, true, true, true, true, true, true, true, true, true, false, false, false, false, false, false, false] rfl rfl (any_of HT_.out (by kernel_rfl)) (fun _ _ _ h => h) (Or.inr ⟨by rfl, rfl⟩) ?_ ?_
                                 rotate_left
                                 · simp only [Act.put, List.setIfInBounds_toArray, List.set_cons_zero, List.set_cons_succ, i64_w, i32_w]
                                   rfl
                                 refine pure_ (i := 11) (N := some 75) (v := undef) (a' := ?_) #[true, true, true, true, true, true, true, true, true, true, true, true, false, false, false, false, false, false] rfl rfl (any_of HT_.out (by kernel_rfl)) (fun _ _ _ h => h) (Or.inr ⟨by rfl, rfl⟩) ?_ ?_
                                 rotate_left
                                 · simp only [Act.put, List.setIfInBounds_toArray, List.set_cons_zero, List.set_cons_succ, i64_w, i32_w]
                                   rfl
                                 refine pure_ (i := 12) (N := some 76) (v := undef) (a' := ?_) #[true, true, true, true, true, true, true, true, true, true, true, true, true, false, false, false, false, false] rfl rfl (any_of HT_.out (by kernel_rfl)) (fun _ _ _ h => h) (Or.inr ⟨by rfl, rfl⟩) ?_ ?_
                                 rotate_left
                                 · simp only [Act.put, List.setIfInBounds_toArray, List.set_cons_zero, List.set_cons_succ, i64_w, i32_w]
                                   rfl
                                 refine pure_ (i := 13) (N := some 77) (v := undef) (a' := ?_) #[true, true, true, true, true, true, true, true, true, true, true, true, true, true, false, false, false, false] rfl rfl (any_of HT_.out (by kernel_rfl)) (fun _ _ _ h => h) (Or.inr ⟨by rfl, rfl⟩) ?_ ?_
                                 rotate_left
                                 · simp only [Act.put, List.setIfInBounds_toArray, List.set_cons_zero, List.set_cons_succ, i64_w, i32_w]
                                   rfl
                                 refine pure_ (i := 14) (N := some 78) (v := undef) (a' := ?_) #[true, true, true, true, true, true, true, true, true, true, true, true, true, true, true, false, false, false] rfl rfl (any_of HT_.out (by kernel_rfl)) (fun _ _ _ h => h) (Or.inr ⟨by rfl, rfl⟩) ?_ ?_
                                 rotate_left
                                 · simp only [Act.put, List.setIfInBounds_toArray, List.set_cons_zero, List.set_cons_succ, i64_w, i32_w]
                                   rfl
                                 refine pure_ (i := 15) (N := some 79) (v := undef) (a' := ?_) #[true, true, true, true, true, true, true, true, true, true, true, true, true, true, true, true, false, false] rfl rfl (any_of HT_.out (by kernel_rfl)) (fun _ _ _ h => h) (Or.inr ⟨by rfl, rfl⟩) ?_ ?_
                                 rotate_left
                                 · simp only [Act.put, List.setIfInBounds_toArray, List.set_cons_zero, List.set_cons_succ, i64_w, i32_w]
                                   rfl
                                 refine pure_ (i := 16) (N := some 80) (v := undef) (a' := ?_) #[true, true, true, true, true, true, true, true, true, true, true, true, true, true, true, true, true, false] rfl rfl (any_of HT_.out (by kernel_rfl)) (fun _ _ _ h => h) (Or.inr ⟨by rfl, rfl⟩) ?_ ?_
                                 rotate_left
                                 · simp only [Act.put, List.setIfInBounds_toArray, List.set_cons_zero, List.set_cons_succ, i64_w, i32_w]
                                   rfl
                                 refine pure_ (i := 17) (N := some 81) (v := ?_) (a' := ?_) #[true, true, true, true, true, true, true, true, true, true, true, true, true, true, true, true, true, true] rfl rfl (any_of HT_.out (by kernel_rfl)) (fun _ _ _ h => h) (Or.inl ⟨by rfl, ?_⟩) ?_ ?_
                                 rotate_left
                                 · intro w'
                                   go_simp
                                   with_reducible rfl
                                 rotate_left
                                 · simp only [Act.put, List.setIfInBounds_toArray, List.set_cons_zero, List.set_cons_succ, i64_w, i32_w]
                                   rfl
                                 refine done_ (done_of HT_.out (by kernel_rfl)) ?_
                                 try go_wp2
                                 go_meet
                                 case rel => exact ⟨_, (false), (by first | rfl | (simp; done) | (simp [*]; done)), H', ⟨by have := HJ4.out; have := HK2.out; have := HK3.out; have := HK4.out; first | omega | exact Nat.le_refl _⟩, ⟨by (with_reducible repeat (first | apply Kd.S_alloc | apply Kd.S_drewN | apply Kd.S_drew)); exact HO_13.out⟩, ⟨by (with_reducible repeat (first | apply Kd.R_alloc | apply Kd.R_drewN | apply Kd.R_drew)); exact HO_14.out⟩, ⟨by (with_reducible repeat (first | apply Kd.R_alloc | apply Kd.R_drewN | apply Kd.R_drew)); exact HO_15.out⟩, ⟨by (with_reducible repeat (first | refine blk_drewN ?_ _ | refine blk_drew ?_ | refine blk_alloc ?_ _)); exact BK118.out⟩, ⟨by repeat (first | (with_reducible first | exact HB.out | apply below_alloc | apply pw_below_drewN | apply below_drew1 | refine below_set ?_ GE118.out) | exact HB.out)⟩⟩
                             · rw [if_neg c33] at H
                               exact absurd H (by simp)
                           case rest =>
                            clear HC30; (try clear c1); (try clear p1); (try clear q1); (try clear hx1); (try clear c2); (try clear p2); (try clear c3); (try clear p6); (try clear c7); (try clear c8); (try clear c8b0); (try clear c8b1); (try clear c8b2); (try clear p10); (try clear q10); (try clear hx10); (try clear p11); (try clear q11); (try clear hx11); (try clear p12); (try clear q12); (try clear hx12); (try clear c13); (try clear c14); (try clear c14b0); (try clear c15); (try clear c15b0); (try clear c16); (try clear c16b0); (try clear c18); (try clear c19); (try clear c19b0); (try clear c19b1); (try clear c20); (try clear c20b0); (try clear c20b1); (try clear c21); (try clear c21b0); (try clear c21b1); (try clear c26); (try clear c26b0); (try clear c27); (try clear c27b0); (try clear c28); (try clear c28b0); (try clear c29); (try clear c29b0); (try clear c33); (try clear c33b0); (try clear c34); (try clear c34b0); (try clear c35); (try clear c35b0); (try clear c35b1); (try clear c38); (try clear hcz32_0); (try clear hcz32_1); (try clear hcz32_2); (try clear hfz32_0); (try clear hfz32_1); (try clear hfz32_2); (try clear hx109_0); (try clear hx117_0); (try clear hx117_1); (try clear hx117_2); (try clear hx119_0); (try clear hx120_0); (try clear p1); (try clear p10); (try clear p109); (try clear p117); (try clear p119); (try clear p120); (try clear p2); (try clear p6); (try clear q1); (try clear q10); (try clear q109); (try clear q117); (try clear q119); (try clear q120)
                            (obtain ⟨kq, x81_29, rfl, HA, HJ29, HO_13, HO_14, HO_15, BK118, HB⟩ := hcut)
                            cases kq with
                            | zero => exact absurd HA.out (by simp [impl_play.j4])
                            | succ kj29 =>
                             have H := HA.out; clear HA; (simp only [impl_play.j4] at H); (have HC40 := Aside0.mk H); clear H
                             go_upto_if 81 with (fail)
                             go_cut [] (fun wc => ∃ (kq : Nat) (x13_39 : List (List (S55))), Aside0 (impl_play.j5 kq l0 l1 x13_39 x14_3 x15_3 x54_3 x17_4 x59_4 a2 x54_3 l0 (l0.length : Int) x59_4 = some (r1, r2, r3)) ∧ Aside0 (kq ≤ kj29) ∧ Aside0 (Kd.S kq55 71 wc w.heap.size (fun _ => True) v112 x13_39) ∧ Aside0 (Kd.R (Kd.int .i64) 3 wc w.heap.size (fun _ => True) v115 x14_3) ∧ Aside0 (Kd.R k59 59 wc w.heap.size (fun _ => True) u15 x15_3) ∧ Aside0 (wc.heap[gb118]? = some (.cells #[.int .i64 ((rd_T62 l0 x59_4).f0), .int .i64 ((rd_T62 l0 x59_4).f1), .int .i64 ((rd_T62 l0 x59_4).f2)] 62 (0, 0))) ∧ Aside0 (Below w.heap.size w wc))
                             case first =>
                              as_aux_lemma =>
                               have H := HC40.out; clear HC40
                               by_cases c41 : x81_29 = true
                               · subst c41
                                 (have H1 : (if 0 ≤ x59_4 then (if x59_4 < (x13_4.length : Int) then (if (rd_L3 x13_4 x59_4).length < 8796093022208 then (impl_play.j5 kj29 l0 l1 (x13_4.set (x59_4 : Int).toNat ((rd_L3 x13_4 x59_4) ++ [(⟨x54_3, ((rd_T62 l0 x59_4).f1)⟩ : S55)])) x14_3 x15_3 x54_3 x17_4 x59_4 a2 x54_3 l0 (l0.length : Int) x59_4) else (none)) else (none)) else (none)) = some (r1, r2, r3) := by rw [if_pos rfl] at H; exact H); clear H; have H := H1; clear H1
                                 by_cases c42 : 0 ≤ x59_4
                                 · rw [if_pos c42] at H
                                   (have c42b0 : decide (0 ≤ x59_4) = true := decide_eq_true c42); clear c42
                                   (first | rw [c42b0] | (simp only [i64_w, i32_w]; rw [c42b0]) | skip)
                                   by_cases c43 : x59_4 < (x13_4.length : Int)
                                   · rw [if_pos c43] at H
                                     (have c43b0 : decide (x59_4 < (x13_4.length : Int)) = true := decide_eq_true c43); clear c43
                                     by_cases c44 : (rd_L3 x13_4 x59_4).length < 8796093022208
                                     · rw [if_pos c44] at H
                                       (have LMc44 := Aside0.mk c44); clear c44; (obtain ⟨y122, hy122⟩ : ∃ y_ : List (S55), y_ = ((rd_L3 x13_4 x59_4) ++ [(⟨x54_3, ((rd_T62 l0 x59_4).f1)⟩ : S55)]) := ⟨_, rfl⟩); (replace H : (impl_play.j5 kj29 l0 l1 (x13_4.set (x59_4 : Int).toNat y122) x14_3 x15_3 x54_3 x17_4 x59_4 a2 x54_3 l0 (l0.length : Int) x59_4) = some (r1, r2, r3) := by first | (rw [hy122]; with_reducible exact H) | (have H2_ := (Option.bind_some _ _).symm.trans H; rw [hy122]; with_reducible exact H2_) | (have H2_ := (Option.bind_some _ _).symm.trans H; with_reducible exact H2_) | with_reducible exact H | (rw [hy122]; exact H) | exact H); (have Ny122 := Aside0.mk hy122); clear hy122; (obtain ⟨y125, hy125⟩ : ∃ y_ : List (List (S55)), y_ = (x13_4.set (x59_4 : Int).toNat y122) := ⟨_, rfl⟩); (replace H : (impl_play.j5 kj29 l0 l1 y125 x14_3 x15_3 x54_3 x17_4 x59_4 a2 x54_3 l0 (l0.length : Int) x59_4) = some (r1, r2, r3) := by first | (rw [hy125]; with_reducible exact H) | (have H2_ := (Option.bind_some _ _).symm.trans H; rw [hy125]; with_reducible exact H2_) | (have H2_ := (Option.bind_some _ _).symm.trans H; with_reducible exact H2_) | with_reducible exact H | (rw [hy125]; exact H) | exact H); (have Ny125 := Aside0.mk hy125); clear hy125; (have H' := Aside0.mk H); clear H
                                       try go_wp2
                                       (have n0_ := Aside0.mk (Kd.S_drew HO_13.out)); (have n1_ := Aside0.mk (Kd.R_drew HO_14.out)); (have n2_ := Aside0.mk (Kd.R_drew HO_15.out)); (have n3_ := Aside0.mk (blk_drew BK118.out)); (have n4_ := Aside0.mk (below_drew1 HB.out)); clear HO_13; clear HO_14; clear HO_15; clear BK118; clear HB; have HO_13 := n0_; have HO_14 := n1_; have HO_15 := n2_; have BK118 := n3_; have HB := n4_; clear n0_ n1_ n2_ n3_ n4_; (obtain ⟨Ao47, co47, eo47⟩ := Kd.S_slice HO_13.out)
                                       (first | subst eo47 | (injection eo47 with f1_ f2_ f3_; have f4_ := f1_.symm; have f5_ := f3_.symm; clear f1_ f2_ f3_; subst f4_; subst f5_))
                                       (have p121 : 0 ≤ (x59_4 : Int) := of_decide_eq_true (by first | (with_reducible assumption) | assumption)); (have q121 : x59_4 < (x13_4.length : Int) := of_decide_eq_true (by first | (with_reducible assumption) | assumption)); (obtain ⟨ad121, A121_0, c121_0, e121, hx121_0, hl121_0, hi121_0⟩ := at_Q3 (Kd.S_reads' HO_13.out).2.2 x59_4 p121 q121)
                                       cases e121
                                       (obtain ⟨ce121, hce121, hMe121, hcc121⟩ := Kd.S_get HO_13.out [] x59_4 p121 (by first | exact q121 | exact of_decide_eq_true (by first | (with_reducible assumption) | assumption) | (have e_ := (Kd.S_reads' HO_13.out).1; omega))); (obtain ⟨ve121_0, rfl, ge121_0⟩ := hMe121); (have hv121_0 := hcc121 0 _ rfl); (rw [Nat.add_zero, show kq55.sz = 1 from rfl, Nat.mul_one] at hv121_0); (replace hv121_0 := Option.some.inj (hv121_0.symm.trans hx121_0)); (rw [hv121_0] at ge121_0); (have HL121_0 := Aside0.mk (show Kd.Q k55 55 _ _ _ _ (rd_L3 x13_4 x59_4) from ge121_0)); clear hv121_0 ge121_0; (have HX121_0 := Aside0.mk hx121_0); clear hcc121 hce121; (have HR121_0 := Aside0.mk hi121_0); (have HC121_0 := Aside0.mk hl121_0); clear hi121_0 hl121_0; (replace p121 := eq_true p121); (replace q121 := eq_true q121); (obtain ⟨go48, co48, eo48, gb48, gl48, cl48, HG48⟩ := Kd.S_form HO_13.out (by have h_ : (x59_4 : Int) < ((x13_4.length : Int) : Int) := of_decide_eq_true (by first | (with_reducible assumption) | assumption); have h2_ : 0 ≤ (x59_4 : Int) := (of_decide_eq_true (by first | (with_reducible assumption) | assumption)); omega))
                                       (first | cases eo48 | (injection eo48 with ea_ en_ ec_; (first | subst ea_ | (injection ea_ with ea_; subst ea_)); subst ec_; clear en_))
                                       (have GB48 := Aside0.mk gb48); (have GG48 := Aside0.mk HG48); clear gb48 gl48 HG48
                                       (first | simp only [add_plain] at hx121_0 | skip)
                                       (obtain ⟨oki48, ce48, hcl48, hM48, hcc48, _, _, hH48⟩ := Kd.S_elem HO_13.out [] (x59_4 : Int) (of_decide_eq_true (by first | (with_reducible assumption) | assumption)) (by have h_ : (x59_4 : Int) < ((x13_4.length : Int) : Int) := of_decide_eq_true (by first | (with_reducible assumption) | assumption); first | exact h_ | (have e_ := (Kd.S_reads' HO_13.out).1; omega) | simpa using h_)); (obtain ⟨ve48_0, rfl, ge48_0⟩ := hM48); (have hv48 := hcc48 0 _ rfl); have hX48 := HX121_0.out; ((try simp only [add_plain] at hX48)); ((try simp only [Nat.add_zero] at hv48)); ((try rw [show kq55.sz = 1 from rfl, Nat.mul_one] at hv48)); (replace hv48 := Option.some.inj (hv48.symm.trans hX48)); subst hv48; clear hX48 hcc48 hcl48; (have UU48 := Aside0.mk (show Kd.Q k55 55 _ w.heap.size oki48 (.slice A121_0 (rd_L3 x13_4 x59_4).length c121_0) (rd_L3 x13_4 x59_4) from ge48_0)); (have HH48 := Aside0.mk hH48); (have HN48 := Aside0.mk (Kd.S_reads' HO_13.out).1); clear hH48 ge48_0
                                       refine start_ (n := 14) (S := fun w' => w'.cell? ⟨gb118, 0, none⟩ = some (.int .i64 ((rd_T62 l0 x59_4).f0)) ∧ w'.cell? ⟨gb118, 1, none⟩ = some (.int .i64 ((rd_T62 l0 x59_4).f1)) ∧ w'.cell? ⟨gb118, 2, none⟩ = some (.int .i64 ((rd_T62 l0 x59_4).f2)) ∧ w'.cell? ⟨go48, (x59_4).toNat, none⟩ = some (.slice A121_0 (rd_L3 x13_4 x59_4).length c121_0)) (ds := [13]) #[false, false, false, false, false, false, false, false, false, false, false, false, false, false] (by kernel_rfl) rfl rfl ⟨(blk_cell BK118.out 0).trans rfl, (blk_cell BK118.out 1).trans rfl, (blk_cell BK118.out 2).trans rfl, hx121_0⟩ (fun hHeld => ?_); refine with_tabW impl_play.tab20 impl_play.bits20 (fun HT_ HW_ => ?_)
                                       generalize wc.drew = w46 at HO_13 HO_14 HO_15 BK118 HB GG48 HH48 HL121_0 HR121_0 HX121_0 UU48 hx121_0 hHeld ⊢
                                       refine pure_ (i := 0) (N := some 82) (v := ?_) (a' := ?_) #[true, false, false, false, false, false, false, false, false, false, false, false, false, false] rfl rfl (any_of HT_.out (by kernel_rfl)) (fun _ _ _ h => h) (Or.inl ⟨by rfl, ?_⟩) ?_ ?_
                                       rotate_left
                                       · intro w'
                                         go_simp
                                         with_reducible rfl
                                       rotate_left
                                       · simp only [Act.put, List.setIfInBounds_toArray, List.set_cons_zero, List.set_cons_succ, i64_w, i32_w]
                                         rfl
                                       refine pure_ (i := 1) (N := some 83) (v := ?_) (a' := ?_) #[true, true, false, false, false, false, false, false, false, false, false, false, false, false] rfl rfl (any_of HT_.out (by kernel_rfl)) (fun _ _ _ h => h) (Or.inl ⟨by rfl, ?_⟩) ?_ ?_
                                       rotate_left
                                       · intro w'
                                         go_simp
                                         with_reducible rfl
                                       rotate_left
                                       · simp only [Act.put, List.setIfInBounds_toArray, List.set_cons_zero, List.set_cons_succ, i64_w, i32_w]
                                         rfl
                                       refine pure_ (i := 2) (N := some 84) (v := ?_) (a' := ?_) #[true, true, true, false, false, false, false, false, false, false, false, false, false, false] rfl rfl (any_of HT_.out (by kernel_rfl)) (fun _ _ _ h => h) (Or.inl ⟨by rfl, ?_⟩) ?_ ?_
                                       rotate_left
                                       · intro w'
                                         go_simp
                                         with_reducible rfl
                                       rotate_left
                                       · simp only [Act.put, List.setIfInBounds_toArray, List.set_cons_zero, List.set_cons_succ, i64_w, i32_w]
                                         rfl
                                       refine pure_ (i := 3) (N := some 85) (v := ?_) (a' := ?_) #[true, true, true, true, false, false, false, false, false, false, false, false, false, false] rfl rfl (any_of HT_.out (by kernel_rfl)) (fun _ _ _ h => h) (Or.inl ⟨by rfl, ?_⟩) ?_ ?_
                                       rotate_left
                                       · intro w'
                                         go_simp
                                         with_reducible rfl
                                       rotate_left
                                       · simp only [Act.put, List.setIfInBounds_toArray, List.set_cons_zero, List.set_cons_succ, i64_w, i32_w]
                                         rfl
                                       refine pure_ (i := 4) (N := some 86) (v := ?_) (a' := ?_) #[true, true, true, true, true, false, false, false, false, false, false, false, false, false] rfl rfl (any_of HT_.out (by kernel_rfl)) (fun _ _ _ h => h) (Or.inl ⟨by rfl, ?_⟩) ?_ ?_
                                       rotate_left
                                       · intro w'
                                         go_simp
                                         with_reducible rfl
                                       rotate_left
                                       · simp only [Act.put, List.setIfInBounds_toArray, List.set_cons_zero, List.set_cons_succ, i64_w, i32_w]
                                         rfl
                                       refine pure_ (i := 6) (N := some 88) (v := ?_) (a' := ?_) #[true, true, true, true, true, false, true, false, false, false, false, false, false, false] rfl rfl (any_of HT_.out (by kernel_rfl)) (fun _ _ _ h => h) (Or.inl ⟨by rfl, ?_⟩) ?_ ?_
                                       rotate_left
                                       · intro w'
                                         go_simp
                                         with_reducible rfl
                                       rotate_left
                                       · simp only [Act.put, List.setIfInBounds_toArray, List.set_cons_zero, List.set_cons_succ, i64_w, i32_w]
                                         rfl
                                       refine pure_ (i := 7) (N := some 89) (v := ?_) (a' := ?_) #[true, true, true, true, true, false, true, true, false, false, false, false, false, false] rfl rfl (any_of HT_.out (by kernel_rfl)) (fun _ _ _ h => h) (Or.inl ⟨by rfl, ?_⟩) ?_ ?_
                                       rotate_left
                                       · intro w'
                                         go_simp
                                         with_reducible rfl
                                       rotate_left
                                       · simp only [Act.put, List.setIfInBounds_toArray, List.set_cons_zero, List.set_cons_succ, i64_w, i32_w]
                                         rfl
                                       refine take_ (i := 5) (N := some 87) (v := ?_) (a' := ?_) #[true, true, true, true, true, true, true, true, false, false, false, false, false, false] rfl rfl (take_ofW HT_.out HW_.out (by kernel_rfl)) (fun _ _ _ h => h) (Or.inl ⟨by rfl, ?_⟩) hHeld ?_ ?_
                                       rotate_left
                                       · rintro w' ⟨s0, s1, s2, s3⟩
                                         go_simp
                                         with_reducible rfl
                                       rotate_left
                                       · simp only [Act.put, List.setIfInBounds_toArray, List.set_cons_zero, List.set_cons_succ, i64_w, i32_w]
                                         rfl
                                       refine take_ (i := 8) (N := some 90) (v := ?_) (a' := ?_) #[true, true, true, true, true, true, true, true, true, false, false, false, false, false] rfl rfl (take_ofW HT_.out HW_.out (by kernel_rfl)) (fun _ _ _ h => h) (Or.inl ⟨by rfl, ?_⟩) hHeld ?_ ?_
                                       rotate_left
                                       · rintro w' ⟨s0, s1, s2, s3⟩
                                         go_simp
                                         with_reducible rfl
                                       rotate_left
                                       · simp only [Act.put, List.setIfInBounds_toArray, List.set_cons_zero, List.set_cons_succ, i64_w, i32_w]
                                         rfl
                                       refine pure_ (i := 9) (N := some 91) (v := ?_) (a' := ?_) #[true, true, true, true, true, true, true, true, true, true, false, false, false, false] rfl rfl (any_of HT_.out (by kernel_rfl)) (fun _ _ _ h => h) (Or.inl ⟨by rfl, ?_⟩) ?_ ?_
                                       rotate_left
                                       · intro w'
                                         go_simp
                                         with_reducible rfl
                                       rotate_left
                                       · simp only [Act.put, List.setIfInBounds_toArray, List.set_cons_zero, List.set_cons_succ, i64_w, i32_w]
                                         rfl
                                       refine one_ (i := 10) (N := some 92) #[true, true, true, true, true, true, true, true, true, true, true, false, false, false] rfl rfl (one_of HT_.out (by kernel_rfl)) (by decide) (fun K hK => ?_)
                                       refine value_ (w1 := ?_) (v := ?_) (by rfl) rfl ?_ ?_
                                       rotate_left 2
                                       · go_simp
                                         constructor
                                         · rfl
                                         · rfl
                                       refine hK.out _ _ ⟨(blk_cell (blk_alloc BK118.out _) 0).trans rfl, (blk_cell (blk_alloc BK118.out _) 1).trans rfl, (blk_cell (blk_alloc BK118.out _) 2).trans rfl, (World.cell?_alloc_lt _ _ _ (World.block_lt_of_cell? _ _ (hHeld.2.2.2))).trans (hHeld.2.2.2)⟩ (fun hHeld => ?_)
                                       clear hK K
                                       refine norm_ (a' := ?_) ?_ ?_
                                       rotate_left
                                       · show Act.put _ (some 92) _ = _
                                         simp only [Act.put, List.setIfInBounds_toArray, List.set_cons_zero, List.set_cons_succ, i64_w, i32_w]
                                         rfl
                                       refine one_ (i := 11) (N := some 93) #[true, true, true, true, true, true, true, true, true, true, true, true, false, false] rfl rfl (one_of HT_.out (by kernel_rfl)) (by decide) (fun K hK => ?_)
                                       refine Kd.Q_append_step k55 (w0 := w) w.heap.size (by rfl) (.tmp 87) (.tmp 92) 71 55 (.agg #[(.int .i64 0), (.int .i64 0)]) 16 rfl Try.underlying71 info55 rfl (by decide) (by omega) (.slice A121_0 (rd_L3 x13_4 x59_4).length c121_0) (rd_L3 x13_4 x59_4) (⟨x54_3, ((rd_T62 l0 x59_4).f1)⟩ : S55) [.int .i64 x54_3, .int .i64 ((rd_T62 l0 x59_4).f1)] (fun k_ => oki48 k_ ∨ ((fun _ => True)) k_ ∧ w46.heap.size ≤ k_) (fun _ => False) rfl rfl ?aP (fun _ hk => hk.elim) ?aF ?aO ?aB ?aS ?aL ?_
                                       (case aP => exact k55_mkM _ _ _ (⟨x54_3, ((rd_T62 l0 x59_4).f1)⟩ : S55))
                                       (case aB => exact (by repeat (first | (with_reducible first | exact HB.out | apply below_alloc | apply pw_below_drewN | apply below_drew1 | refine below_set ?_ GE118.out) | exact HB.out)))
                                       (case aF => exact (fun k_ hk => .inr ⟨trivial, hk⟩))
                                       (case aO => exact (by (with_reducible repeat (first | apply Kd.Q_alloc | apply Kd.Q_drewN | apply Kd.Q_drew)); exact Kd.Q_mono UU48.out (fun _ hk => .inl hk)))
                                       (case aS => exact (below_size (by repeat (first | (with_reducible first | exact HB.out | apply below_alloc | apply pw_below_drewN | apply below_drew1 | refine below_set ?_ GE118.out) | exact HB.out))))
                                       (case aL => have := LMc44.out; omega)
                                       intro v123 w49 ho hb hg hat
                                       (first | have HS3_ := cell_grown hg (hHeld.2.2.2) (by first | (rw [add_block]; exact (fun e_ => ((HL121_0.out.1 _ e_.symm).2) rfl)) | (show some (Addr.add _ _).block ≠ _; rw [add_block]; exact (fun e_ => ((HL121_0.out.1 _ e_.symm).2) rfl)) | exact (fun e_ => ((HL121_0.out.1 _ e_.symm).2) rfl)) | have HS3_ := cell_grown hg (cell_unalloc (hHeld.2.2.2) (by first | (rw [add_block]; exact Kd.S_lt HO_13.out _ rfl) | (show (Addr.add _ _).block < _; rw [add_block]; exact Kd.S_lt HO_13.out _ rfl) | exact Kd.S_lt HO_13.out _ rfl)) (by first | (rw [add_block]; exact (fun e_ => ((HL121_0.out.1 _ e_.symm).2) rfl)) | (show some (Addr.add _ _).block ≠ _; rw [add_block]; exact (fun e_ => ((HL121_0.out.1 _ e_.symm).2) rfl)) | exact (fun e_ => ((HL121_0.out.1 _ e_.symm).2) rfl)))
                                       (rw [← Ny122.out] at ho); (have n0_ := Aside0.mk (Kd.R_over' (v := (.slice A121_0 (rd_L3 x13_4 x59_4).length c121_0)) (by (with_reducible repeat (first | apply Kd.R_alloc | apply Kd.R_drewN | apply Kd.R_drew)); exact HO_14.out) (Kd.Q_typed HL121_0.out) (by decide) hg)); (have n1_ := Aside0.mk (Kd.R_over' (v := (.slice A121_0 (rd_L3 x13_4 x59_4).length c121_0)) (by (with_reducible repeat (first | apply Kd.R_alloc | apply Kd.R_drewN | apply Kd.R_drew)); exact HO_15.out) (Kd.Q_typed HL121_0.out) (by decide) hg)); (have n2_ := Aside0.mk (blk_grown (g := gb118) (o := .cells #[.int .i64 ((rd_T62 l0 x59_4).f0), .int .i64 ((rd_T62 l0 x59_4).f1), .int .i64 ((rd_T62 l0 x59_4).f2)] 62 (0, 0)) (by (with_reducible repeat (first | refine blk_drewN ?_ _ | refine blk_drew ?_ | refine blk_alloc ?_ _)); exact BK118.out) hg (Kd.Q_ne HL121_0.out BK118.out (by decide)))); (have n3_ := Aside0.mk (hb)); (have n4_ := Aside0.mk (Kd.H_grown (Kd.H_widen (by repeat (first | exact HH48.out | refine Kd.H_alloc ?_ _ | refine Kd.H_drewN ?_ _ | refine Kd.H_drew ?_))) hg (fun k_ e_ => .inl (UU48.out.1 k_ e_)))); (have n5_ := Aside0.mk (ho)); clear HO_14; clear HO_15; clear BK118; clear HB; clear HH48; clear HO_13; clear UU48; clear HL121_0; have HO_14 := n0_; have HO_15 := n1_; have BK118 := n2_; have HB := n3_; have HH48 := n4_; have HO124 := n5_; clear n0_ n1_ n2_ n3_ n4_ n5_; clear ho hb hg hat; (have p45 : 0 ≤ (x59_4 : Int) := of_decide_eq_true (by first | (with_reducible assumption) | assumption))
                                       (have q45 : (x59_4 : Int) < ((x13_4.length : Int) : Int) := of_decide_eq_true (by first | (with_reducible assumption) | assumption)); (replace p45 := eq_true p45); (replace q45 := eq_true q45); (obtain ⟨Ao52, co52, eo52⟩ := Q_slice3 HO124.out)
                                       (first | subst eo52 | (injection eo52 with f1_ f2_ f3_; have f4_ := f1_.symm; have f5_ := f3_.symm; clear f1_ f2_ f3_; subst f4_; subst f5_))
                                       (obtain ⟨_, _, hraw50, _, _, hcc50, _⟩ := Kd.H_raw HH48.out (of_decide_eq_true (by first | (with_reducible assumption) | assumption)) (by have h_ : (x59_4 : Int) < ((x13_4.length : Int) : Int) := of_decide_eq_true (by first | (with_reducible assumption) | assumption); first | exact h_ | (have e_ := (HN48.out); omega) | simpa using h_)); (obtain ⟨_, hfr50⟩ := Kd.H_at HH48.out (of_decide_eq_true (by first | (with_reducible assumption) | assumption)) (by have h_ : (x59_4 : Int) < ((x13_4.length : Int) : Int) := of_decide_eq_true (by first | (with_reducible assumption) | assumption); first | exact h_ | (have e_ := (HN48.out); omega) | simpa using h_)); (have hx50_0 := hcc50 0 _ rfl); (have hf50_0 := hfr50 0); ((try simp only [Nat.add_zero] at hx50_0 hf50_0)); ((try rw [show kq55.sz = 1 from rfl, Nat.mul_one] at hx50_0)); ((try rw [show kq55.sz = 1 from rfl, Nat.mul_one] at hf50_0)); (have HP50 := Kd.S_seg0 HH48.out (of_decide_eq_true (by first | (with_reducible assumption) | assumption)) (by have h_ : (x59_4 : Int) < ((x13_4.length : Int) : Int) := of_decide_eq_true (by first | (with_reducible assumption) | assumption); first | exact h_ | (have e_ := (HN48.out); omega) | simpa using h_) (seg := [.slice Ao52 y122.length co52]) (j := 0) (show 1 ≤ 1 from by decide) (x' := y122) (kq_row HO124.out) (fun _ hk => hk)); ((try simp only [show kq55.sz = 1 from rfl, Nat.mul_one, Nat.add_zero] at HP50)); clear hcc50 hfr50
                                       (have HNB118_go48 := Aside0.mk (show gb118 ≠ go48 from by have h_ := Kd.R_ne hraw50 BK118.out (by decide); intro e_; exact h_ (by rw [e_]; rfl))); have HS50 := HP50.1; (rw [← Ny125.out] at HS50); (have HQ50 := Aside0.mk HS50); (obtain ⟨_, hgg50⟩ := Kd.R_typed hraw50 go48 rfl); (have GG50_ := Aside0.mk hgg50); clear HP50 HS50 hgg50
                                       refine hK.out _ _ ⟨(blk_cell BK118.out 0).trans rfl, (blk_cell BK118.out 1).trans rfl, (blk_cell BK118.out 2).trans rfl, HS3_⟩ (fun hHeld => ?_)
                                       clear hK K
                                       refine norm_ (a' := ?_) ?_ ?_
                                       rotate_left
                                       · show Act.put _ (some 93) _ = _
                                         simp only [Act.put, List.setIfInBounds_toArray, List.set_cons_zero, List.set_cons_succ, i64_w, i32_w]
                                         rfl
                                       refine pure_ (i := 12) (N := some 94) (v := ?_) (a' := ?_) #[true, true, true, true, true, true, true, true, true, true, true, true, true, false] rfl rfl (any_of HT_.out (by kernel_rfl)) (fun _ _ _ h => h) (Or.inl ⟨by rfl, ?_⟩) ?_ ?_
                                       rotate_left
                                       · intro w'
                                         go_simp
                                         with_reducible rfl
                                       rotate_left
                                       · simp only [Act.put, List.setIfInBounds_toArray, List.set_cons_zero, List.set_cons_succ, i64_w, i32_w]
                                         rfl
                                       refine last_ (i := 13) (N := none) #[true, true, true, true, true, true, true, true, true, true, true, true, true, true] rfl rfl (one_of HT_.out (by kernel_rfl)) (by decide) (fun K hK => ?_)
                                       refine skip_ (w1 := ?_) (by rfl) rfl ?_ ?_
                                       rotate_left
                                       · go_simp
                                         rfl
                                       refine hK.out _ _ ?_
                                       clear hK K
                                       refine done_ (done_of HT_.out (by kernel_rfl)) ?_
                                       try go_wp2
                                       go_meet
                                       case rel => exact ⟨_, (y125), H', ⟨by have := HJ4.out; have := HK2.out; have := HK3.out; have := HK4.out; have := HJ29.out; first | omega | exact Nat.le_refl _⟩, ⟨by (with_reducible repeat (first | apply Kd.S_alloc | apply Kd.S_drewN | apply Kd.S_drew)); exact HQ50.out⟩, ⟨by (with_reducible repeat (first | apply Kd.R_alloc | apply Kd.R_drewN | apply Kd.R_drew)); exact Kd.R_mono (Kd.R_far (p := ⟨go48, (x59_4 : Int).toNat, none⟩) (Kd.R_types HO_14.out GG50_.out (by decide)) (fun _ hk => hk.2) (.slice Ao52 y122.length co52)) (fun _ hk => trivial)⟩, ⟨by (with_reducible repeat (first | apply Kd.R_alloc | apply Kd.R_drewN | apply Kd.R_drew)); exact Kd.R_mono (Kd.R_far (p := ⟨go48, (x59_4 : Int).toNat, none⟩) (Kd.R_types HO_15.out GG50_.out (by decide)) (fun _ hk => hk.2) (.slice Ao52 y122.length co52)) (fun _ hk => trivial)⟩, ⟨by (with_reducible repeat (first | refine blk_drewN ?_ _ | refine blk_drew ?_ | refine blk_alloc ?_ _)); refine blk_far ?_ HNB118_go48.out _; (with_reducible repeat (first | refine blk_drewN ?_ _ | refine blk_drew ?_ | refine blk_alloc ?_ _)); exact BK118.out⟩, ⟨by repeat (first | (with_reducible first | exact HB.out | apply below_alloc | apply pw_below_drewN | apply below_drew1 | refine below_set ?_ GB48.out | refine below_set ?_ GE118.out) | exact HB.out)⟩⟩
                                     · rw [if_neg c44] at H
                                       exact absurd H (by simp)
                                   · rw [if_neg c43] at H
                                     exact absurd H (by simp)
                                 · rw [if_neg c42] at H
                                   exact absurd H (by simp)
                               · replace c41 := Bool.eq_false_iff.mpr c41
                                 subst c41; (have H1 : (impl_play.j5 kj29 l0 l1 x13_4 x14_3 x15_3 x54_3 x17_4 x59_4 a2 x54_3 l0 (l0.length : Int) x59_4) = some (r1, r2, r3) := by rw [if_neg (show ¬ (false = true) by decide)] at H; exact H); clear H; have H := H1; clear H1; (have H' := Aside0.mk H); clear H
                                 go_wp2
                                 go_meet
                                 case rel => exact ⟨_, (x13_4), H', ⟨by have := HJ4.out; have := HK2.out; have := HK3.out; have := HK4.out; have := HJ29.out; first | omega | exact Nat.le_refl _⟩, ⟨by (with_reducible repeat (first | apply Kd.S_alloc | apply Kd.S_drewN | apply Kd.S_drew)); exact HO_13.out⟩, ⟨by (with_reducible repeat (first | apply Kd.R_alloc | apply Kd.R_drewN | apply Kd.R_drew)); exact HO_14.out⟩, ⟨by (with_reducible repeat (first | apply Kd.R_alloc | apply Kd.R_drewN | apply Kd.R_drew)); exact HO_15.out⟩, ⟨by (with_reducible repeat (first | refine blk_drewN ?_ _ | refine blk_drew ?_ | refine blk_alloc ?_ _)); exact BK118.out⟩, ⟨by repeat (first | (with_reducible first | exact HB.out | apply below_alloc | apply pw_below_drewN | apply below_drew1 | refine below_set ?_ GE118.out) | exact HB.out)⟩⟩
                             case rest =>
                              clear HC40; (try clear c1); (try clear p1); (try clear q1); (try clear hx1); (try clear c2); (try clear p2); (try clear c3); (try clear c4); (try clear p4); (try clear q4); (try clear c5); (try clear hx5); (try clear hf5); (try clear p6); (try clear c7); (try clear c8); (try clear c8b0); (try clear c8b1); (try clear c8b2); (try clear p10); (try clear q10); (try clear hx10); (try clear p11); (try clear q11); (try clear hx11); (try clear c12); (try clear p12); (try clear q12); (try clear hx12); (try clear c13); (try clear c14); (try clear c14b0); (try clear c15); (try clear c15b0); (try clear c16); (try clear c16b0); (try clear c18); (try clear c19); (try clear c19b0); (try clear c19b1); (try clear c20); (try clear c20b0); (try clear c20b1); (try clear c21); (try clear c21b0); (try clear c21b1); (try clear c26); (try clear c26b0); (try clear c27); (try clear c27b0); (try clear c28); (try clear c28b0); (try clear c29); (try clear c29b0); (try clear c33); (try clear c33b0); (try clear c34); (try clear c34b0); (try clear c35); (try clear c35b0); (try clear c35b1); (try clear c38); (try clear c41); (try clear c42); (try clear c42b0); (try clear c43); (try clear c43b0); (try clear c44); (try clear p45); (try clear q45); (try clear c48); (try clear c50); (try clear hx50); (try clear hf50); (try clear hcz32_0); (try clear hcz32_1); (try clear hcz32_2); (try clear hfz32_0); (try clear hfz32_1); (try clear hfz32_2); (try clear hx109_0); (try clear hx117_0); (try clear hx117_1)
                              (try clear hx117_2); (try clear hx119_0); (try clear hx120_0); (try clear hx121_0); (try clear hx50_0); (try clear p1); (try clear p10); (try clear p109); (try clear p11); (try clear p117); (try clear p119); (try clear p12); (try clear p120); (try clear p121); (try clear p2); (try clear p45); (try clear p6); (try clear q1); (try clear q10); (try clear q109); (try clear q11); (try clear q117); (try clear q119); (try clear q12); (try clear q120); (try clear q121); (try clear q45); (obtain ⟨kq, x13_39, HA, HJ39, HO_13, HO_14, HO_15, BK118, HB⟩ := hcut)
                              cases kq with
                              | zero => exact absurd HA.out (by simp [impl_play.j5])
                              | succ kj39 =>
                               have H := HA.out; clear HA; (simp only [impl_play.j5] at H); (have HC53 := Aside0.mk H); clear H
                               go_upto_region 21 with (fail)
                               go_cut [122] (fun v122 wc => ∃ (kq : Nat) (x122_52 : Bool), v122 = .bool x122_52 ∧ Aside0 (impl_play.j6 kq l0 l1 x13_39 x14_3 x15_3 x54_3 x17_4 x59_4 a2 x54_3 l0 (l0.length : Int) x59_4 x122_52 = some (r1, r2, r3)) ∧ Aside0 (kq ≤ kj39) ∧ Aside0 (Kd.S kq55 71 wc w.heap.size (fun _ => True) v112 x13_39) ∧ Aside0 (Kd.R (Kd.int .i64) 3 wc w.heap.size (fun _ => True) v115 x14_3) ∧ Aside0 (Kd.R k59 59 wc w.heap.size (fun _ => True) u15 x15_3) ∧ Aside0 (wc.heap[gb118]? = some (.cells #[.int .i64 ((rd_T62 l0 x59_4).f0), .int .i64 ((rd_T62 l0 x59_4).f1), .int .i64 ((rd_T62 l0 x59_4).f2)] 62 (0, 0))) ∧ Aside0 (Below w.heap.size w wc))
                               case first =>
                                as_aux_lemma =>
                                 have H := HC53.out; clear HC53
                                 by_cases c54 : 0 ≤ x59_4
                                 · rw [if_pos c54] at H
                                   (have c54b0 : decide (0 ≤ x59_4) = true := decide_eq_true c54); clear c54
                                   (first | rw [c54b0] | (simp only [i64_w, i32_w]; rw [c54b0]) | skip)
                                   by_cases c55 : x59_4 < (x13_39.length : Int)
                                   · rw [if_pos c55] at H
                                     (have c55b0 : decide (x59_4 < (x13_39.length : Int)) = true := decide_eq_true c55); clear c55
                                     by_cases c56 : ((rd_L3 x13_39 x59_4).length : Int) > 0
                                     · rw [if_pos c56] at H
                                       (have c56b0 : decide (0 < ((rd_L3 x13_39 x59_4).length : Int)) = true := decide_eq_true c56); (have c56b1 : decide (0 < (rd_L3 x13_39 x59_4).length) = true := decide_eq_true (by omega)); clear c56
                                       by_cases c57 : x17_4 < 0
                                       · rw [if_pos c57] at H
                                         (have c57b0 : decide (x17_4 < 0) = true := decide_eq_true c57); clear c57; (have H' := Aside0.mk H); clear H
                                         try go_wp2
                                         (have n0_ := Aside0.mk (Kd.S_drew HO_13.out)); (have n1_ := Aside0.mk (Kd.R_drew HO_14.out)); (have n2_ := Aside0.mk (Kd.R_drew HO_15.out)); (have n3_ := Aside0.mk (blk_drew BK118.out)); (have n4_ := Aside0.mk (below_drew1 HB.out)); clear HO_13; clear HO_14; clear HO_15; clear BK118; clear HB; have HO_13 := n0_; have HO_14 := n1_; have HO_15 := n2_; have BK118 := n3_; have HB := n4_; clear n0_ n1_ n2_ n3_ n4_; (obtain ⟨Ao59, co59, eo59⟩ := Kd.S_slice HO_13.out)
                                         (first | subst eo59 | (injection eo59 with f1_ f2_ f3_; have f4_ := f1_.symm; have f5_ := f3_.symm; clear f1_ f2_ f3_; subst f4_; subst f5_))
                                         (have p126 : 0 ≤ (x59_4 : Int) := of_decide_eq_true (by first | (with_reducible assumption) | assumption)); (have q126 : x59_4 < (x13_39.length : Int) := of_decide_eq_true (by first | (with_reducible assumption) | assumption)); (obtain ⟨ad126, A126_0, c126_0, e126, hx126_0, hl126_0, hi126_0⟩ := at_Q3 (Kd.S_reads' HO_13.out).2.2 x59_4 p126 q126)
                                         cases e126
                                         (obtain ⟨ce126, hce126, hMe126, hcc126⟩ := Kd.S_get HO_13.out [] x59_4 p126 (by first | exact q126 | exact of_decide_eq_true (by first | (with_reducible assumption) | assumption) | (have e_ := (Kd.S_reads' HO_13.out).1; omega))); (obtain ⟨ve126_0, rfl, ge126_0⟩ := hMe126); (have hv126_0 := hcc126 0 _ rfl); (rw [Nat.add_zero, show kq55.sz = 1 from rfl, Nat.mul_one] at hv126_0); (replace hv126_0 := Option.some.inj (hv126_0.symm.trans hx126_0)); (rw [hv126_0] at ge126_0); (have HL126_0 := Aside0.mk (show Kd.Q k55 55 _ _ _ _ (rd_L3 x13_39 x59_4) from ge126_0)); clear hv126_0 ge126_0; (have HX126_0 := Aside0.mk hx126_0); clear hcc126 hce126; (have HR126_0 := Aside0.mk hi126_0); (have HC126_0 := Aside0.mk hl126_0); clear hi126_0 hl126_0; (replace p126 := eq_true p126); (replace q126 := eq_true q126)
                                         refine start_ (n := 28) (S := fun w' => w'.cell? (ad126.add (x59_4).toNat) = some (.slice A126_0 (rd_L3 x13_39 x59_4).length c126_0)) (ds := []) #[false, false, false, false, false, false, false, false, false, false, false, false, false, false, false, false, false, false, false, false, false, false, false, false, false, false, false, false] (by kernel_rfl) rfl rfl (hx126_0) (fun hHeld => ?_); refine with_tabW impl_play.tab21 impl_play.bits21 (fun HT_ HW_ => ?_)
                                         generalize wc.drew = w58 at HO_13 HO_14 HO_15 BK118 HB HL126_0 HR126_0 HX126_0 hx126_0 hHeld ⊢
                                         refine pure_ (i := 0) (N := some 95) (v := ?_) (a' := ?_) #[true, false, false, false, false, false, false, false, false, false, false, false, false, false, false, false, false, false, false, false, false, false, false, false, false, false, false, false] rfl rfl (any_of HT_.out (by kernel_rfl)) (fun _ _ _ h => h) (Or.inl ⟨by rfl, ?_⟩) ?_ ?_
                                         rotate_left
                                         · intro w'
                                           go_simp
                                           with_reducible rfl
                                         rotate_left
                                         · simp only [Act.put, List.setIfInBounds_toArray, List.set_cons_zero, List.set_cons_succ, i64_w, i32_w]
                                           rfl
                                         refine pure_ (i := 1) (N := some 96) (v := ?_) (a' := ?_) #[true, true, false, false, false, false, false, false, false, false, false, false, false, false, false, false, false, false, false, false, false, false, false, false, false, false, false, false] rfl rfl (any_of HT_.out (by kernel_rfl)) (fun _ _ _ h => h) (Or.inl ⟨by rfl, ?_⟩) ?_ ?_
                                         rotate_left
                                         · intro w'
                                           go_simp
                                           with_reducible rfl
                                         rotate_left
                                         · simp only [Act.put, List.setIfInBounds_toArray, List.set_cons_zero, List.set_cons_succ, i64_w, i32_w]
                                           rfl
                                         refine pure_ (i := 2) (N := some 97) (v := ?_) (a' := ?_) #[true, true, true, false, false, false, false, false, false, false, false, false, false, false, false, false, false, false, false, false, false, false, false, false, false, false, false, false] rfl rfl (any_of HT_.out (by kernel_rfl)) (fun _ _ _ h => h) (Or.inl ⟨by rfl, ?_⟩) ?_ ?_
                                         rotate_left
                                         · intro w'
                                           go_simp
                                           with_reducible rfl
                                         rotate_left
                                         · simp only [Act.put, List.setIfInBounds_toArray, List.set_cons_zero, List.set_cons_succ, i64_w, i32_w]
                                           rfl
                                         refine take_ (i := 3) (N := some 98) (v := ?_) (a' := ?_) #[true, true, true, true, false, false, false, false, false, false, false, false, false, false, false, false, false, false, false, false, false, false, false, false, false, false, false, false] rfl rfl (take_ofW HT_.out HW_.out (by kernel_rfl)) (fun _ _ _ h => h) (Or.inl ⟨by rfl, ?_⟩) hHeld ?_ ?_
                                         rotate_left
                                         · intro w' s0
                                           go_simp
                                           with_reducible rfl
                                         rotate_left
                                         · simp only [Act.put, List.setIfInBounds_toArray, List.set_cons_zero, List.set_cons_succ, i64_w, i32_w]
                                           rfl
                                         refine pure_ (i := 4) (N := some 99) (v := ?_) (a' := ?_) #[true, true, true, true, true, false, false, false, false, false, false, false, false, false, false, false, false, false, false, false, false, false, false, false, false, false, false, false] rfl rfl (any_of HT_.out (by kernel_rfl)) (fun _ _ _ h => h) (Or.inl ⟨by rfl, ?_⟩) ?_ ?_
                                         rotate_left
                                         · intro w'
                                           go_simp
                                           with_reducible rfl
                                         rotate_left
                                         · simp only [Act.put, List.setIfInBounds_toArray, List.set_cons_zero, List.set_cons_succ, i64_w, i32_w]
                                           rfl
                                         refine pure_ (i := 5) (N := some 100) (v := ?_) (a' := ?_) #[true, true, true, true, true, true, false, false, false, false, false, false, false, false, false, false, false, false, false, false, false, false, false, false, false, false, false, false] rfl rfl (any_of HT_.out (by kernel_rfl)) (fun _ _ _ h => h) (Or.inl ⟨by rfl, ?_⟩) ?_ ?_
                                         rotate_left
                                         · intro w'
                                           go_simp
                                           with_reducible rfl
                                         rotate_left
                                         · simp only [Act.put, List.setIfInBounds_toArray, List.set_cons_zero, List.set_cons_succ, i64_w, i32_w]
                                           rfl
                                         refine pure_ (i := 6) (N := some 101) (v := ?_) (a' := ?_) #[true, true, true, true, true, true, true, false, false, false, false, false, false, false, false, false, false, false, false, false, false, false, false, false, false, false, false, false] rfl rfl (any_of HT_.out (by kernel_rfl)) (fun _ _ _ h => h) (Or.inl ⟨by rfl, ?_⟩) ?_ ?_
                                         rotate_left
                                         · intro w'
                                           go_simp
                                           with_reducible rfl
                                         rotate_left
                                         · simp only [Act.put, List.setIfInBounds_toArray, List.set_cons_zero, List.set_cons_succ, i64_w, i32_w]
                                           rfl
                                         refine pure_ (i := 7) (N := some 102) (v := ?_) (a' := ?_) #[true, true, true, true, true, true, true, true, false, false, false, false, false, false, false, false, false, false, false, false, false, false, false, false, false, false, false, false] rfl rfl (any_of HT_.out (by kernel_rfl)) (fun _ _ _ h => h) (Or.inl ⟨by rfl, ?_⟩) ?_ ?_
                                         rotate_left
                                         · intro w'
                                           go_simp
                                           with_reducible rfl
                                         rotate_left
                                         · simp only [Act.put, List.setIfInBounds_toArray, List.set_cons_zero, List.set_cons_succ, i64_w, i32_w]
                                           rfl
                                         refine pure_ (i := 8) (N := some 103) (v := ?_) (a' := ?_) #[true, true, true, true, true, true, true, true, true, false, false, false, false, false, false, false, false, false, false, false, false, false, false, false, false, false, false, false] rfl rfl (any_of HT_.out (by kernel_rfl)) (fun _ _ _ h => h) (Or.inl ⟨by rfl, ?_⟩) ?_ ?_
                                         rotate_left
                                         · intro w'
                                           go_simp
                                           with_reducible rfl
                                         rotate_left
                                         · simp only [Act.put, List.setIfInBounds_toArray, List.set_cons_zero, List.set_cons_succ, i64_w, i32_w]
                                           rfl
                                         refine pure_ (i := 9) (N := some 104) (v := ?_) (a' := ?_) #[true, true, true, true, true, true, true, true, true, true, false, false, false, false, false, false, false, false, false, false, false, false, false, false, false, false, false, false] rfl rfl (any_of HT_.out (by kernel_rfl)) (fun _ _ _ h => h) (Or.inl ⟨by rfl, ?_⟩) ?_ ?_
                                         rotate_left
                                         · intro w'
                                           go_simp
                                           with_reducible rfl
                                         rotate_left
                                         · simp only [Act.put, List.setIfInBounds_toArray, List.set_cons_zero, List.set_cons_succ, i64_w, i32_w]
                                           rfl
                                         refine pure_ (i := 10) (N := some 105) (v := undef) (a' := ?_) #[true, true, true, true, true, true, true, true, true, true, true, false, false, false, false, false, false, false, false, false, false, false, false, false, false, false, false, false] rfl rfl (any_of HT_.out (by kernel_rfl)) (fun _ _ _ h => h) (Or.inr ⟨by rfl, rfl⟩) ?_ ?_
                                         rotate_left
                                         · simp only [Act.put, List.setIfInBounds_toArray, List.set_cons_zero, List.set_cons_succ, i64_w, i32_w]
                                           rfl
                                         refine pure_ (i := 11) (N := some 106) (v := undef) (a' := ?_) #[true, true, true, true, true, true, true, true, true, true, true, true, false, false, false, false, false, false, false, false, false, false, false, false, false, false, false, false] rfl rfl (any_of HT_.out (by kernel_rfl)) (fun _ _ _ h => h) (Or.inr ⟨by rfl, rfl⟩) ?_ ?_
                                         rotate_left
                                         · simp only [Act.put, List.setIfInBounds_toArray, List.set_cons_zero, List.set_cons_succ, i64_w, i32_w]
                                           rfl
                                         refine pure_ (i := 12) (N := some 107) (v := undef) (a' := ?_) #[true, true, true, true, true, true, true, true, true, true, true, true, true, false, false, false, false, false, false, false, false, false, false, false, false, false, false, false] rfl rfl (any_of HT_.out (by kernel_rfl)) (fun _ _ _ h => h) (Or.inr ⟨by rfl, rfl⟩) ?_ ?_
                                         rotate_left
                                         · simp only [Act.put, List.setIfInBounds_toArray, List.set_cons_zero, List.set_cons_succ, i64_w, i32_w]
                                           rfl
                                         refine pure_ (i := 13) (N := some 108) (v := undef) (a' := ?_) #[true, true, true, true, true, true, true, true, true, true, true, true, true, true, false, false, false, false, false, false, false, false, false, false, false, false, false, false] rfl rfl (any_of HT_.out (by kernel_rfl)) (fun _ _ _ h => h) (Or.inr ⟨by rfl, rfl⟩) ?_ ?_
                                         rotate_left
                                         · simp only [Act.put, List.setIfInBounds_toArray, List.set_cons_zero, List.set_cons_succ, i64_w, i32_w]
                                           rfl
                                         refine pure_ (i := 14) (N := some 109) (v := undef) (a' := ?_) #[true, true, true, true, true, true, true, true, true, true, true, true, true, true, true, false, false, false, false, false, false, false, false, false, false, false, false, false] rfl rfl (any_of HT_.out (by kernel_rfl)) (fun _ _ _ h => h) (Or.inr ⟨by rfl, rfl⟩) ?_ ?_
                                         rotate_left
                                         · simp only [Act.put, List.setIfInBounds_toArray, List.set_cons_zero, List.set_cons_succ, i64_w, i32_w]
                                           rfl
                                         refine pure_ (i := 15) (N := some 110) (v := undef) (a' := ?_) #[true, true, true, true, true, true, true, true, true, true, true, true, true, true, true, true, false, false, false, false, false, false, false, false, false, false, false, false] rfl rfl (any_of HT_.out (by kernel_rfl)) (fun _ _ _ h => h) (Or.inr ⟨by rfl, rfl⟩) ?_ ?_
                                         rotate_left
                                         · simp only [Act.put, List.setIfInBounds_toArray, List.set_cons_zero, List.set_cons_succ, i64_w, i32_w]
                                           rfl
                                         refine pure_ (i := 16) (N := some 111) (v := undef) (a' := ?_) #[true, true, true, true, true, true, true, true, true, true, true, true, true, true, true, true, true, false, false, false, false, false, false, false, false, false, false, false] rfl rfl (any_of HT_.out (by kernel_rfl)) (fun _ _ _ h => h) (Or.inr ⟨by rfl, rfl⟩) ?_ ?_
                                         rotate_left
                                         · simp only [Act.put, List.setIfInBounds_toArray, List.set_cons_zero, List.set_cons_succ, i64_w, i32_w]
                                           rfl
                                         refine pure_ (i := 17) (N := some 112) (v := undef) (a' := ?_) #[true, true, true, true, true, true, true, true, true, true, true, true, true, true, true, true, true, true, false, false, false, false, false, false, false, false, false, false] rfl rfl (any_of HT_.out (by kernel_rfl)) (fun _ _ _ h => h) (Or.inr ⟨by rfl, rfl⟩) ?_ ?_
                                         rotate_left
                                         · simp only [Act.put, List.setIfInBounds_toArray, List.set_cons_zero, List.set_cons_succ, i64_w, i32_w]
                                           rfl
                                         refine pure_ (i := 18) (N := some 113) (v := undef) (a' := ?_) #[true, true, true, true, true, true, true, true, true, true, true, true, true, true, true, true, true, true, true, false, false, false, false, false, false, false, false, false] rfl rfl (any_of HT_.out (by kernel_rfl)) (fun _ _ _ h => h) (Or.inr ⟨by rfl, rfl⟩) ?_ ?_
                                         rotate_left
                                         · simp only [Act.put, List.setIfInBounds_toArray, List.set_cons_zero, List.set_cons_succ, i64_w, i32_w]
                                           rfl
                                         refine pure_ (i := 19) (N := some 114) (v := undef) (a' := ?_) #[true, true, true, true, true, true, true, true, true, true, true, true, true, true, true, true, true, true, true, true, false, false, false, false, false, false, false, false] rfl rfl (any_of HT_.out (by kernel_rfl)) (fun _ _ _ h => h) (Or.inr ⟨by rfl, rfl⟩) ?_ ?_
                                         rotate_left
                                         · simp only [Act.put, List.setIfInBounds_toArray, List.set_cons_zero, List.set_cons_succ, i64_w, i32_w]
                                           rfl
                                         refine pure_ (i := 20) (N := some 115) (v := undef) (a' := ?_) #[true, true, true, true, true, true, true, true, true, true, true, true, true, true, true, true, true, true, true, true, true, false, false, false, false, false, false, false] rfl rfl (any_of HT_.out (by kernel_rfl)) (fun _ _ _ h => h) (Or.inr ⟨by rfl, rfl⟩) ?_ ?_
                                         rotate_left
                                         · simp only [Act.put, List.setIfInBounds_toArray, List.set_cons_zero, List.set_cons_succ, i64_w, i32_w]
                                           rfl
                                         refine pure_ (i := 21) (N := some 116) (v := undef) (a' := ?_) #[true, true, true, true, true, true, true, true, true, true, true, true, true, true, true, true, true, true, true, true, true, true, false, false, false, false, false, false] rfl rfl (any_of HT_.out (by kernel_rfl)) (fun _ _ _ h => h) (Or.inr ⟨by rfl, rfl⟩) ?_ ?_
                                         rotate_left
                                         · simp only [Act.put, List.setIfInBounds_toArray, List.set_cons_zero, List.set_cons_succ, i64_w, i32_w]
                                           rfl
                                         refine pure_ (i := 22) (N := some 117) (v := undef) (a' := ?_) #[true, true, true, true, true, true, true, true, true, true, true, true, true, true, true, true, true, true, true, true, true, true, true, false, false, false, false, false] rfl rfl (any_of HT_.out (by kernel_rfl)) (fun _ _ _ h => h) (Or.inr ⟨by rfl, rfl⟩) ?_ ?_
                                         rotate_left
                                         · simp only [Act.put, List.setIfInBounds_toArray, List.set_cons_zero, List.set_cons_succ, i64_w, i32_w]
                                           rfl
                                         refine pure_ (i := 23) (N := some 118) (v := undef) (a' := ?_) #[true, true, true, true, true, true, true, true, true, true, true, true, true, true, true, true, true, true, true, true, true, true, true, true, false, false, false, false] rfl rfl (any_of HT_.out (by kernel_rfl)) (fun _ _ _ h => h) (Or.inr ⟨by rfl, rfl⟩) ?_ ?_
                                         rotate_left
                                         · simp only [Act.put, List.setIfInBounds_toArray, List.set_cons_zero, List.set_cons_succ, i64_w, i32_w]
                                           rfl
                                         refine pure_ (i := 24) (N := some 119) (v := undef) (a' := ?_) #[true, true, true, true, true, true, true, true, true, true, true, true, true, true, true, true, true, true, true, true, true, true, true, true, true, false, false, false] rfl rfl (any_of HT_.out (by kernel_rfl)) (fun _ _ _ h => h) (Or.inr ⟨by rfl, rfl⟩) ?_ ?_
                                         rotate_left
                                         · simp only [Act.put, List.setIfInBounds_toArray, List.set_cons_zero, List.set_cons_succ, i64_w, i32_w]
                                           rfl
                                         refine pure_ (i := 25) (N := some 120) (v := undef) (a' := ?_) #[true, true, true, true, true, true, true, true, true, true, true, true, true, true, true, true, true, true, true, true, true, true, true, true, true, true, false, false] rfl rfl (any_of HT_.out (by kernel_rfl)) (fun _ _ _ h => h) (Or.inr ⟨by rfl, rfl⟩) ?_ ?_
                                         rotate_left
                                         · simp only [Act.put, List.setIfInBounds_toArray, List.set_cons_zero, List.set_cons_succ, i64_w, i32_w]
                                           rfl
                                         refine pure_ (i := 26) (N := some 121) (v := ?_) (a' := ?_) #[true, true, true, true, true, true, true, true, true, true, true, true, true, true, true, true, true, true, true, true, true, true, true, true, true, true, true, false] rfl rfl (any_of HT_.out (by kernel_rfl)) (fun _ _ _ h => h) (Or.inl ⟨by rfl, ?_⟩) ?_ ?_
                                         rotate_left
                                         · intro w'
                                           go_simp
                                           with_reducible rfl
                                         rotate_left
                                         · simp only [Act.put, List.setIfInBounds_toArray, List.set_cons_zero, List.set_cons_succ, i64_w, i32_w]
                                           rfl
                                         refine pure_ (i := 27) (N := some 122) (v := ?_) (a' := ?_) #[true, true, true, true, true, true, true, true, true, true, true, true, true, true, true, true, true, true, true, true, true, true, true, true, true, true, true, true] rfl rfl (any_of HT_.out (by kernel_rfl)) (fun _ _ _ h => h) (Or.inl ⟨by rfl, ?_⟩) ?_ ?_
                                         rotate_left
                                         · intro w'
                                           go_simp
                                           with_reducible rfl
                                         rotate_left
                                         · simp only [Act.put, List.setIfInBounds_toArray, List.set_cons_zero, List.set_cons_succ, i64_w, i32_w]
                                           rfl
                                         refine done_ (done_of HT_.out (by kernel_rfl)) ?_
                                         try go_wp2
                                         go_meet
                                         case rel => exact ⟨_, (true), (by first | rfl | (simp; done) | (simp [*]; done)), H', ⟨by have := HJ4.out; have := HK2.out; have := HK3.out; have := HK4.out; have := HJ29.out; have := HJ39.out; first | omega | exact Nat.le_refl _⟩, ⟨by (with_reducible repeat (first | apply Kd.S_alloc | apply Kd.S_drewN | apply Kd.S_drew)); exact HO_13.out⟩, ⟨by (with_reducible repeat (first | apply Kd.R_alloc | apply Kd.R_drewN | apply Kd.R_drew)); exact HO_14.out⟩, ⟨by (with_reducible repeat (first | apply Kd.R_alloc | apply Kd.R_drewN | apply Kd.R_drew)); exact HO_15.out⟩, ⟨by (with_reducible repeat (first | refine blk_drewN ?_ _ | refine blk_drew ?_ | refine blk_alloc ?_ _)); exact BK118.out⟩, ⟨by repeat (first | (with_reducible first | exact HB.out | apply below_alloc | apply pw_below_drewN | apply below_drew1 | refine below_set ?_ GE118.out) | exact HB.out)⟩⟩
                                       · rw [if_neg c57] at H
                                         (have c57b0 : decide (x17_4 < 0) = false := decide_eq_false c57); clear c57
                                         by_cases c60 : 0 < ((rd_L3 x13_39 x59_4).length : Int)
                                         · rw [if_pos c60] at H
                                           (have c60b0 : decide (0 < ((rd_L3 x13_39 x59_4).length : Int)) = true := decide_eq_true c60); (have c60b1 : decide (0 < (rd_L3 x13_39 x59_4).length) = true := decide_eq_true (by omega)); clear c60
                                           by_cases c61 : 0 ≤ x17_4
                                           · rw [if_pos c61] at H
                                             (have c61b0 : decide (0 ≤ x17_4) = true := decide_eq_true c61); clear c61
                                             by_cases c62 : x17_4 < (x13_39.length : Int)
                                             · rw [if_pos c62] at H
                                               (have c62b0 : decide (x17_4 < (x13_39.length : Int)) = true := decide_eq_true c62); clear c62
                                               by_cases c63 : 0 < ((rd_L3 x13_39 x17_4).length : Int)
                                               · rw [if_pos c63] at H
                                                 (have c63b0 : decide (0 < ((rd_L3 x13_39 x17_4).length : Int)) = true := decide_eq_true c63); (have c63b1 : decide (0 < (rd_L3 x13_39 x17_4).length) = true := decide_eq_true (by omega)); clear c63
                                                 have c64x : x17_4 < (l0.length : Int) := by
                                                  by_cases c_ : x17_4 < (l0.length : Int)
                                                  · exact c_
                                                  · rw [if_neg c_] at H
                                                    exact absurd H (by simp)
                                                 (rw [if_pos c64x] at H); (have C64 := Aside0.mk c64x); clear c64x; (have H' := Aside0.mk H); clear H
                                                 try go_wp2
                                                 (have n0_ := Aside0.mk (Kd.S_drew HO_13.out)); (have n1_ := Aside0.mk (Kd.R_drew HO_14.out)); (have n2_ := Aside0.mk (Kd.R_drew HO_15.out)); (have n3_ := Aside0.mk (blk_drew BK118.out)); (have n4_ := Aside0.mk (below_drew1 HB.out)); clear HO_13; clear HO_14; clear HO_15; clear BK118; clear HB; have HO_13 := n0_; have HO_14 := n1_; have HO_15 := n2_; have BK118 := n3_; have HB := n4_; clear n0_ n1_ n2_ n3_ n4_; (obtain ⟨Ao65, co65, eo65⟩ := Kd.S_slice HO_13.out)
                                                 (first | subst eo65 | (injection eo65 with f1_ f2_ f3_; have f4_ := f1_.symm; have f5_ := f3_.symm; clear f1_ f2_ f3_; subst f4_; subst f5_))
                                                 (have p126 : 0 ≤ (x59_4 : Int) := of_decide_eq_true (by first | (with_reducible assumption) | assumption)); (have q126 : x59_4 < (x13_39.length : Int) := of_decide_eq_true (by first | (with_reducible assumption) | assumption)); (obtain ⟨ad126, A126_0, c126_0, e126, hx126_0, hl126_0, hi126_0⟩ := at_Q3 (Kd.S_reads' HO_13.out).2.2 x59_4 p126 q126)
                                                 cases e126
                                                 (obtain ⟨ce126, hce126, hMe126, hcc126⟩ := Kd.S_get HO_13.out [] x59_4 p126 (by first | exact q126 | exact of_decide_eq_true (by first | (with_reducible assumption) | assumption) | (have e_ := (Kd.S_reads' HO_13.out).1; omega))); (obtain ⟨ve126_0, rfl, ge126_0⟩ := hMe126); (have hv126_0 := hcc126 0 _ rfl); (rw [Nat.add_zero, show kq55.sz = 1 from rfl, Nat.mul_one] at hv126_0); (replace hv126_0 := Option.some.inj (hv126_0.symm.trans hx126_0)); (rw [hv126_0] at ge126_0); (have HL126_0 := Aside0.mk (show Kd.Q k55 55 _ _ _ _ (rd_L3 x13_39 x59_4) from ge126_0)); clear hv126_0 ge126_0; (have HX126_0 := Aside0.mk hx126_0); clear hcc126 hce126; (have HR126_0 := Aside0.mk hi126_0); (have HC126_0 := Aside0.mk hl126_0); clear hi126_0 hl126_0; (replace p126 := eq_true p126); (replace q126 := eq_true q126); (have p127 : 0 ≤ (x59_4 : Int) := of_decide_eq_true (by first | (with_reducible assumption) | assumption)); (have q127 : x59_4 < (x13_39.length : Int) := of_decide_eq_true (by first | (with_reducible assumption) | assumption)); (obtain ⟨ad127, A127_0, c127_0, e127, hx127_0, hl127_0, hi127_0⟩ := at_Q3 (Kd.S_reads' HO_13.out).2.2 x59_4 p127 q127); (obtain rfl : ad126 = ad127 := (by injection e127)); (obtain ⟨ce127, hce127, hMe127, hcc127⟩ := Kd.S_get HO_13.out [] x59_4 p127 (by first | exact q127 | exact of_decide_eq_true (by first | (with_reducible assumption) | assumption) | (have e_ := (Kd.S_reads' HO_13.out).1; omega))); (obtain ⟨ve127_0, rfl, ge127_0⟩ := hMe127)
                                                 (have hv127_0 := hcc127 0 _ rfl); (rw [Nat.add_zero, show kq55.sz = 1 from rfl, Nat.mul_one] at hv127_0); (replace hv127_0 := Option.some.inj (hv127_0.symm.trans hx127_0)); (rw [hv127_0] at ge127_0); (have HL127_0 := Aside0.mk (show Kd.Q k55 55 _ _ _ _ (rd_L3 x13_39 x59_4) from ge127_0)); clear hv127_0 ge127_0; (have HX127_0 := Aside0.mk hx127_0); clear hcc127 hce127; (have HR127_0 := Aside0.mk hi127_0); (have HC127_0 := Aside0.mk hl127_0); clear hi127_0 hl127_0; (replace p127 := eq_true p127); (replace q127 := eq_true q127); (have ea_ := Option.some.inj (hx126_0.symm.trans hx127_0))
                                                 injection ea_ with ea_ en_ ec_
                                                 subst ea_; subst ec_; clear en_; (have p128 : 0 ≤ (0 : Int) := (by omega)); (have q128 : 0 < ((rd_L3 x13_39 x59_4).length : Int) := of_decide_eq_true (by first | (with_reducible assumption) | assumption)); (obtain ⟨ad128, e128, hx128_0, hx128_1⟩ := at_T55 (by repeat (first | (with_reducible exact HR127_0.out) | (with_reducible refine Kd.C_alloc ?_ _) | (with_reducible refine Kd.C_drewN ?_ _) | (with_reducible refine Kd.C_drew ?_) | exact HR127_0.out)) 0 p128 q128)
                                                 cases e128
                                                 (have qi128 : (0 < (rd_L3 x13_39 x59_4).length) = True := eq_true (by omega)); ((try rw [show ((0 : Int)).toNat = 0 from rfl] at hx128_0)); ((try rw [show 0 * 2 = 0 from rfl] at hx128_0)); ((try rw [Addr.add_zero'] at hx128_0)); ((try rw [show ((0 : Int)).toNat = 0 from rfl] at hx128_1)); ((try rw [show 0 * 2 = 0 from rfl] at hx128_1)); ((try rw [Addr.add_zero'] at hx128_1)); (replace p128 := eq_true p128); (replace q128 := eq_true q128); (have p129 : 0 ≤ (x17_4 : Int) := of_decide_eq_true (by first | (with_reducible assumption) | assumption)); (have q129 : x17_4 < (x13_39.length : Int) := of_decide_eq_true (by first | (with_reducible assumption) | assumption)); (obtain ⟨ad129, A129_0, c129_0, e129, hx129_0, hl129_0, hi129_0⟩ := at_Q3 (Kd.S_reads' HO_13.out).2.2 x17_4 p129 q129); (obtain rfl : ad126 = ad129 := (by injection e129)); (obtain ⟨ce129, hce129, hMe129, hcc129⟩ := Kd.S_get HO_13.out [] x17_4 p129 (by first | exact q129 | exact of_decide_eq_true (by first | (with_reducible assumption) | assumption) | (have e_ := (Kd.S_reads' HO_13.out).1; omega))); (obtain ⟨ve129_0, rfl, ge129_0⟩ := hMe129); (have hv129_0 := hcc129 0 _ rfl); (rw [Nat.add_zero, show kq55.sz = 1 from rfl, Nat.mul_one] at hv129_0); (replace hv129_0 := Option.some.inj (hv129_0.symm.trans hx129_0)); (rw [hv129_0] at ge129_0); (have HL129_0 := Aside0.mk (show Kd.Q k55 55 _ _ _ _ (rd_L3 x13_39 x17_4) from ge129_0)); clear hv129_0 ge129_0; (have HX129_0 := Aside0.mk hx129_0); clear hcc129 hce129
                                                 (have HR129_0 := Aside0.mk hi129_0); (have HC129_0 := Aside0.mk hl129_0); clear hi129_0 hl129_0; (replace p129 := eq_true p129); (replace q129 := eq_true q129); (have p130 : 0 ≤ (0 : Int) := (by omega)); (have q130 : 0 < ((rd_L3 x13_39 x17_4).length : Int) := of_decide_eq_true (by first | (with_reducible assumption) | assumption)); (obtain ⟨ad130, e130, hx130_0, hx130_1⟩ := at_T55 (by repeat (first | (with_reducible exact HR129_0.out) | (with_reducible refine Kd.C_alloc ?_ _) | (with_reducible refine Kd.C_drewN ?_ _) | (with_reducible refine Kd.C_drew ?_) | exact HR129_0.out)) 0 p130 q130)
                                                 cases e130
                                                 (have qi130 : (0 < (rd_L3 x13_39 x17_4).length) = True := eq_true (by omega)); ((try rw [show ((0 : Int)).toNat = 0 from rfl] at hx130_0)); ((try rw [show 0 * 2 = 0 from rfl] at hx130_0)); ((try rw [Addr.add_zero'] at hx130_0)); ((try rw [show ((0 : Int)).toNat = 0 from rfl] at hx130_1)); ((try rw [show 0 * 2 = 0 from rfl] at hx130_1)); ((try rw [Addr.add_zero'] at hx130_1)); (replace p130 := eq_true p130); (replace q130 := eq_true q130)
                                                 refine start_ (n := 28) (S := fun w' => w'.cell? (ad126.add (x59_4).toNat) = some (.slice (some ad128) (rd_L3 x13_39 x59_4).length c126_0) ∧ w'.cell? (ad126.add (x59_4).toNat) = some (.slice (some ad128) (rd_L3 x13_39 x59_4).length c126_0) ∧ w'.cell? ad128 = some (.int .i64 ((rd_T55 (rd_L3 x13_39 x59_4) 0).f0)) ∧ w'.cell? ⟨ad128.block, ad128.off + 1, none⟩ = some (.int .i64 ((rd_T55 (rd_L3 x13_39 x59_4) 0).f1)) ∧ w'.cell? (ad126.add (x17_4).toNat) = some (.slice (some ad130) (rd_L3 x13_39 x17_4).length c129_0) ∧ w'.cell? ad130 = some (.int .i64 ((rd_T55 (rd_L3 x13_39 x17_4) 0).f0)) ∧ w'.cell? ⟨ad130.block, ad130.off + 1, none⟩ = some (.int .i64 ((rd_T55 (rd_L3 x13_39 x17_4) 0).f1))) (ds := []) #[false, false, false, false, false, false, false, false, false, false, false, false, false, false, false, false, false, false, false, false, false, false, false, false, false, false, false, false] (by kernel_rfl) rfl rfl ⟨hx126_0, hx127_0, hx128_0, hx128_1, hx129_0, hx130_0, hx130_1⟩ (fun hHeld => ?_); refine with_tabW impl_play.tab21 impl_play.bits21 (fun HT_ HW_ => ?_)
                                                 generalize wc.drew = w64 at HO_13 HO_14 HO_15 BK118 HB HL126_0 HL127_0 HL129_0 HR126_0 HR127_0 HR129_0 HX126_0 HX127_0 HX129_0 hx126_0 hx127_0 hx128_0 hx128_1 hx129_0 hx130_0 hx130_1 hHeld ⊢
                                                 refine pure_ (i := 0) (N := some 95) (v := ?_) (a' := ?_) #[true, false, false, false, false, false, false, false, false, false, false, false, false, false, false, false, false, false, false, false, false, false, false, false, false, false, false, false] rfl rfl (any_of HT_.out (by kernel_rfl)) (fun _ _ _ h => h) (Or.inl ⟨by rfl, ?_⟩) ?_ ?_
                                                 rotate_left
                                                 · intro w'
                                                   go_simp
                                                   with_reducible rfl
                                                 rotate_left
                                                 · simp only [Act.put, List.setIfInBounds_toArray, List.set_cons_zero, List.set_cons_succ, i64_w, i32_w]
                                                   rfl
                                                 refine pure_ (i := 1) (N := some 96) (v := ?_) (a' := ?_) #[true, true, false, false, false, false, false, false, false, false, false, false, false, false, false, false, false, false, false, false, false, false, false, false, false, false, false, false] rfl rfl (any_of HT_.out (by kernel_rfl)) (fun _ _ _ h => h) (Or.inl ⟨by rfl, ?_⟩) ?_ ?_
                                                 rotate_left
                                                 · intro w'
                                                   go_simp
                                                   with_reducible rfl
                                                 rotate_left
                                                 · simp only [Act.put, List.setIfInBounds_toArray, List.set_cons_zero, List.set_cons_succ, i64_w, i32_w]
                                                   rfl
                                                 refine pure_ (i := 2) (N := some 97) (v := ?_) (a' := ?_) #[true, true, true, false, false, false, false, false, false, false, false, false, false, false, false, false, false, false, false, false, false, false, false, false, false, false, false, false] rfl rfl (any_of HT_.out (by kernel_rfl)) (fun _ _ _ h => h) (Or.inl ⟨by rfl, ?_⟩) ?_ ?_
                                                 rotate_left
                                                 · intro w'
                                                   go_simp
                                                   with_reducible rfl
                                                 rotate_left
                                                 · simp only [Act.put, List.setIfInBounds_toArray, List.set_cons_zero, List.set_cons_succ, i64_w, i32_w]
                                                   rfl
                                                 refine take_ (i := 3) (N := some 98) (v := ?_) (a' := ?_) #[true, true, true, true, false, false, false, false, false, false, false, false, false, false, false, false, false, false, false, false, false, false, false, false, false, false, false, false] rfl rfl (take_ofW HT_.out HW_.out (by kernel_rfl)) (fun _ _ _ h => h) (Or.inl ⟨by rfl, ?_⟩) hHeld ?_ ?_
                                                 rotate_left
                                                 · rintro w' ⟨s0, s1, s2, s3, s4, s5, s6⟩
                                                   go_simp
                                                   with_reducible rfl
                                                 rotate_left
                                                 · simp only [Act.put, List.setIfInBounds_toArray, List.set_cons_zero, List.set_cons_succ, i64_w, i32_w]
                                                   rfl
                                                 refine pure_ (i := 4) (N := some 99) (v := ?_) (a' := ?_) #[true, true, true, true, true, false, false, false, false, false, false, false, false, false, false, false, false, false, false, false, false, false, false, false, false, false, false, false] rfl rfl (any_of HT_.out (by kernel_rfl)) (fun _ _ _ h => h) (Or.inl ⟨by rfl, ?_⟩) ?_ ?_
                                                 rotate_left
                                                 · intro w'
                                                   go_simp
                                                   with_reducible rfl
                                                 rotate_left
                                                 · simp only [Act.put, List.setIfInBounds_toArray, List.set_cons_zero, List.set_cons_succ, i64_w, i32_w]
                                                   rfl
                                                 refine pure_ (i := 5) (N := some 100) (v := ?_) (a' := ?_) #[true, true, true, true, true, true, false, false, false, false, false, false, false, false, false, false, false, false, false, false, false, false, false, false, false, false, false, false] rfl rfl (any_of HT_.out (by kernel_rfl)) (fun _ _ _ h => h) (Or.inl ⟨by rfl, ?_⟩) ?_ ?_
                                                 rotate_left
                                                 · intro w'
                                                   go_simp
                                                   with_reducible rfl
                                                 rotate_left
                                                 · simp only [Act.put, List.setIfInBounds_toArray, List.set_cons_zero, List.set_cons_succ, i64_w, i32_w]
                                                   rfl
                                                 refine pure_ (i := 6) (N := some 101) (v := ?_) (a' := ?_) #[true, true, true, true, true, true, true, false, false, false, false, false, false, false, false, false, false, false, false, false, false, false, false, false, false, false, false, false] rfl rfl (any_of HT_.out (by kernel_rfl)) (fun _ _ _ h => h) (Or.inl ⟨by rfl, ?_⟩) ?_ ?_
                                                 rotate_left
                                                 · intro w'
                                                   go_simp
                                                   with_reducible rfl
                                                 rotate_left
                                                 · simp only [Act.put, List.setIfInBounds_toArray, List.set_cons_zero, List.set_cons_succ, i64_w, i32_w]
                                                   rfl
                                                 refine pure_ (i := 7) (N := some 102) (v := ?_) (a' := ?_) #[true, true, true, true, true, true, true, true, false, false, false, false, false, false, false, false, false, false, false, false, false, false, false, false, false, false, false, false] rfl rfl (any_of HT_.out (by kernel_rfl)) (fun _ _ _ h => h) (Or.inl ⟨by rfl, ?_⟩) ?_ ?_
                                                 rotate_left
                                                 · intro w'
                                                   go_simp
                                                   with_reducible rfl
                                                 rotate_left
                                                 · simp only [Act.put, List.setIfInBounds_toArray, List.set_cons_zero, List.set_cons_succ, i64_w, i32_w]
                                                   rfl
                                                 refine pure_ (i := 8) (N := some 103) (v := ?_) (a' := ?_) #[true, true, true, true, true, true, true, true, true, false, false, false, false, false, false, false, false, false, false, false, false, false, false, false, false, false, false, false] rfl rfl (any_of HT_.out (by kernel_rfl)) (fun _ _ _ h => h) (Or.inl ⟨by rfl, ?_⟩) ?_ ?_
                                                 rotate_left
                                                 · intro w'
                                                   go_simp
                                                   with_reducible rfl
                                                 rotate_left
                                                 · simp only [Act.put, List.setIfInBounds_toArray, List.set_cons_zero, List.set_cons_succ, i64_w, i32_w]
                                                   rfl
                                                 refine pure_ (i := 9) (N := some 104) (v := ?_) (a' := ?_) #[true, true, true, true, true, true, true, true, true, true, false, false, false, false, false, false, false, false, false, false, false, false, false, false, false, false, false, false] rfl rfl (any_of HT_.out (by kernel_rfl)) (fun _ _ _ h => h) (Or.inl ⟨by rfl, ?_⟩) ?_ ?_
                                                 rotate_left
                                                 · intro w'
                                                   go_simp
                                                   with_reducible rfl
                                                 rotate_left
                                                 · simp only [Act.put, List.setIfInBounds_toArray, List.set_cons_zero, List.set_cons_succ, i64_w, i32_w]
                                                   rfl
                                                 refine pure_ (i := 10) (N := some 105) (v := ?_) (a' := ?_) #[true, true, true, true, true, true, true, true, true, true, true, false, false, false, false, false, false, false, false, false, false, false, false, false, false, false, false, false] rfl rfl (any_of HT_.out (by kernel_rfl)) (fun _ _ _ h => h) (Or.inl ⟨by rfl, ?_⟩) ?_ ?_
                                                 rotate_left
                                                 · intro w'
                                                   go_simp
                                                   with_reducible rfl
                                                 rotate_left
                                                 · simp only [Act.put, List.setIfInBounds_toArray, List.set_cons_zero, List.set_cons_succ, i64_w, i32_w]
                                                   rfl
                                                 refine pure_ (i := 11) (N := some 106) (v := ?_) (a' := ?_) #[true, true, true, true, true, true, true, true, true, true, true, true, false, false, false, false, false, false, false, false, false, false, false, false, false, false, false, false] rfl rfl (any_of HT_.out (by kernel_rfl)) (fun _ _ _ h => h) (Or.inl ⟨by rfl, ?_⟩) ?_ ?_
                                                 rotate_left
                                                 · intro w'
                                                   go_simp
                                                   with_reducible rfl
                                                 rotate_left
                                                 · simp only [Act.put, List.setIfInBounds_toArray, List.set_cons_zero, List.set_cons_succ, i64_w, i32_w]
                                                   rfl
                                                 refine pure_ (i := 12) (N := some 107) (v := ?_) (a' := ?_) #[true, true, true, true, true, true, true, true, true, true, true, true, true, false, false, false, false, false, false, false, false, false, false, false, false, false, false, false] rfl rfl (any_of HT_.out (by kernel_rfl)) (fun _ _ _ h => h) (Or.inl ⟨by rfl, ?_⟩) ?_ ?_
                                                 rotate_left
                                                 · intro w'
                                                   go_simp
                                                   with_reducible rfl
                                                 rotate_left
                                                 · simp only [Act.put, List.setIfInBounds_toArray, List.set_cons_zero, List.set_cons_succ, i64_w, i32_w]
                                                   rfl
                                                 refine pure_ (i := 13) (N := some 108) (v := ?_) (a' := ?_) #[true, true, true, true, true, true, true, true, true, true, true, true, true, true, false, false, false, false, false, false, false, false, false, false, false, false, false, false] rfl rfl (any_of HT_.out (by kernel_rfl)) (fun _ _ _ h => h) (Or.inl ⟨by rfl, ?_⟩) ?_ ?_
                                                 rotate_left
                                                 · intro w'
                                                   go_simp
                                                   with_reducible rfl
                                                 rotate_left
                                                 · simp only [Act.put, List.setIfInBounds_toArray, List.set_cons_zero, List.set_cons_succ, i64_w, i32_w]
                                                   rfl
                                                 refine pure_ (i := 14) (N := some 109) (v := ?_) (a' := ?_) #[true, true, true, true, true, true, true, true, true, true, true, true, true, true, true, false, false, false, false, false, false, false, false, false, false, false, false, false] rfl rfl (any_of HT_.out (by kernel_rfl)) (fun _ _ _ h => h) (Or.inl ⟨by rfl, ?_⟩) ?_ ?_
                                                 rotate_left
                                                 · intro w'
                                                   go_simp
                                                   with_reducible rfl
                                                 rotate_left
                                                 · simp only [Act.put, List.setIfInBounds_toArray, List.set_cons_zero, List.set_cons_succ, i64_w, i32_w]
                                                   rfl
                                                 refine pure_ (i := 18) (N := some 113) (v := ?_) (a' := ?_) #[true, true, true, true, true, true, true, true, true, true, true, true, true, true, true, false, false, false, true, false, false, false, false, false, false, false, false, false] rfl rfl (any_of HT_.out (by kernel_rfl)) (fun _ _ _ h => h) (Or.inl ⟨by rfl, ?_⟩) ?_ ?_
                                                 rotate_left
                                                 · intro w'
                                                   go_simp
                                                   with_reducible rfl
                                                 rotate_left
                                                 · simp only [Act.put, List.setIfInBounds_toArray, List.set_cons_zero, List.set_cons_succ, i64_w, i32_w]
                                                   rfl
                                                 refine pure_ (i := 19) (N := some 114) (v := ?_) (a' := ?_) #[true, true, true, true, true, true, true, true, true, true, true, true, true, true, true, false, false, false, true, true, false, false, false, false, false, false, false, false] rfl rfl (any_of HT_.out (by kernel_rfl)) (fun _ _ _ h => h) (Or.inl ⟨by rfl, ?_⟩) ?_ ?_
                                                 rotate_left
                                                 · intro w'
                                                   go_simp
                                                   with_reducible rfl
                                                 rotate_left
                                                 · simp only [Act.put, List.setIfInBounds_toArray, List.set_cons_zero, List.set_cons_succ, i64_w, i32_w]
                                                   rfl
                                                 refine pure_ (i := 20) (N := some 115) (v := ?_) (a' := ?_) #[true, true, true, true, true, true, true, true, true, true, true, true, true, true, true, false, false, false, true, true, true, false, false, false, false, false, false, false] rfl rfl (any_of HT_.out (by kernel_rfl)) (fun _ _ _ h => h) (Or.inl ⟨by rfl, ?_⟩) ?_ ?_
                                                 rotate_left
                                                 · intro w'
                                                   go_simp
                                                   with_reducible rfl
                                                 rotate_left
                                                 · simp only [Act.put, List.setIfInBounds_toArray, List.set_cons_zero, List.set_cons_succ, i64_w, i32_w]
                                                   rfl
                                                 refine pure_ (i := 21) (N := some 116) (v := ?_) (a' := ?_) #[true, true, true, true, true, true, true, true, true, true, true, true, true, true, true, false, false, false, true, true, true, true, false, false, false, false, false, false] rfl rfl (any_of HT_.out (by kernel_rfl)) (fun _ _ _ h => h) (Or.inl ⟨by rfl, ?_⟩) ?_ ?_
                                                 rotate_left
                                                 · intro w'
                                                   go_simp
                                                   with_reducible rfl
                                                 rotate_left
                                                 · simp only [Act.put, List.setIfInBounds_toArray, List.set_cons_zero, List.set_cons_succ, i64_w, i32_w]
                                                   rfl
                                                 refine take_ (i := 15) (N := some 110) (v := ?_) (a' := ?_) #[true, true, true, true, true, true, true, true, true, true, true, true, true, true, true, true, false, false, true, true, true, true, false, false, false, false, false, false] rfl rfl (take_ofW HT_.out HW_.out (by kernel_rfl)) (fun _ _ _ h => h) (Or.inl ⟨by rfl, ?_⟩) hHeld ?_ ?_
                                                 rotate_left
                                                 · rintro w' ⟨s0, s1, s2, s3, s4, s5, s6⟩
                                                   go_simp
                                                   with_reducible rfl
                                                 rotate_left
                                                 · simp only [Act.put, List.setIfInBounds_toArray, List.set_cons_zero, List.set_cons_succ, i64_w, i32_w]
                                                   rfl
                                                 refine pure_ (i := 16) (N := some 111) (v := ?_) (a' := ?_) #[true, true, true, true, true, true, true, true, true, true, true, true, true, true, true, true, true, false, true, true, true, true, false, false, false, false, false, false] rfl rfl (any_of HT_.out (by kernel_rfl)) (fun _ _ _ h => h) (Or.inl ⟨by rfl, ?_⟩) ?_ ?_
                                                 rotate_left
                                                 · intro w'
                                                   go_simp
                                                   with_reducible rfl
                                                 rotate_left
                                                 · simp only [Act.put, List.setIfInBounds_toArray, List.set_cons_zero, List.set_cons_succ, i64_w, i32_w]
                                                   rfl
                                                 refine take_ (i := 17) (N := some 112) (v := ?_) (a' := ?_) #[true, true, true, true, true, true, true, true, true, true, true, true, true, true, true, true, true, true, true, true, true, true, false, false, false, false, false, false] rfl rfl (take_ofW HT_.out HW_.out (by kernel_rfl)) (fun _ _ _ h => h) (Or.inl ⟨by rfl, ?_⟩) hHeld ?_ ?_
                                                 rotate_left
                                                 · rintro w' ⟨s0, s1, s2, s3, s4, s5, s6⟩
                                                   go_simp
                                                   with_reducible rfl
                                                 rotate_left
                                                 · simp only [Act.put, List.setIfInBounds_toArray, List.set_cons_zero, List.set_cons_succ, i64_w, i32_w]
                                                   rfl
                                                 refine take_ (i := 22) (N := some 117) (v := ?_) (a' := ?_) #[true, true, true, true, true, true, true, true, true, true, true, true, true, true, true, true, true, true, true, true, true, true, true, false, false, false, false, false] rfl rfl (take_ofW HT_.out HW_.out (by kernel_rfl)) (fun _ _ _ h => h) (Or.inl ⟨by rfl, ?_⟩) hHeld ?_ ?_
                                                 rotate_left
                                                 · rintro w' ⟨s0, s1, s2, s3, s4, s5, s6⟩
                                                   go_simp
                                                   with_reducible rfl
                                                 rotate_left
                                                 · simp only [Act.put, List.setIfInBounds_toArray, List.set_cons_zero, List.set_cons_succ, i64_w, i32_w]
                                                   rfl
                                                 refine pure_ (i := 23) (N := some 118) (v := ?_) (a' := ?_) #[true, true, true, true, true, true, true, true, true, true, true, true, true, true, true, true, true, true, true, true, true, true, true, true, false, false, false, false] rfl rfl (any_of HT_.out (by kernel_rfl)) (fun _ _ _ h => h) (Or.inl ⟨by rfl, ?_⟩) ?_ ?_
                                                 rotate_left
                                                 · intro w'
                                                   go_simp
                                                   with_reducible rfl
                                                 rotate_left
                                                 · simp only [Act.put, List.setIfInBounds_toArray, List.set_cons_zero, List.set_cons_succ, i64_w, i32_w]
                                                   rfl
                                                 refine take_ (i := 24) (N := some 119) (v := ?_) (a' := ?_) #[true, true, true, true, true, true, true, true, true, true, true, true, true, true, true, true, true, true, true, true, true, true, true, true, true, false, false, false] rfl rfl (take_ofW HT_.out HW_.out (by kernel_rfl)) (fun _ _ _ h => h) (Or.inl ⟨by rfl, ?_⟩) hHeld ?_ ?_
                                                 rotate_left
                                                 · rintro w' ⟨s0, s1, s2, s3, s4, s5, s6⟩
                                                   go_simp
                                                   with_reducible rfl
                                                 rotate_left
                                                 · simp only [Act.put, List.setIfInBounds_toArray, List.set_cons_zero, List.set_cons_succ, i64_w, i32_w]
                                                   rfl
                                                 refine one_ (i := 25) (N := some 120) #[true, true, true, true, true, true, true, true, true, true, true, true, true, true, true, true, true, true, true, true, true, true, true, true, true, true, false, false] rfl rfl (one_of HT_.out (by kernel_rfl)) (by decide) (fun K hK => ?_)
                                                 refine goesF_ (f := 29) Try.func29 (by kernel_rfl) rfl #[.int .i64 x59_4, .agg #[.int .i64 ((rd_T55 (rd_L3 x13_39 x59_4) 0).f0), .int .i64 ((rd_T55 (rd_L3 x13_39 x59_4) 0).f1)], .int .i64 x17_4, .agg #[.int .i64 ((rd_T55 (rd_L3 x13_39 x17_4) 0).f0), .int .i64 ((rd_T55 (rd_L3 x13_39 x17_4) 0).f1)]] (by rfl) rfl rfl rfl (by (try simp only [List.map_toArray, List.map_cons, List.map_nil]); first | done | rfl) ?_
                                                 refine (sooner29.calls l0 x59_4 x17_4 (rd_T55 (rd_L3 x13_39 x59_4) 0) (rd_T55 (rd_L3 x13_39 x17_4) 0) w64).mono ?_
                                                 rintro e w65 ⟨rfl, hb_⟩
                                                 refine ⟨_, rfl, ?_⟩
                                                 (have n0_ := Aside0.mk (Kd.S_below HO_13.out hb_)); (have n1_ := Aside0.mk (Kd.R_below HO_14.out hb_)); (have n2_ := Aside0.mk (Kd.R_below HO_15.out hb_)); (have n3_ := Aside0.mk (blk_below BK118.out hb_)); (have n4_ := Aside0.mk (below_step HB.out hb_)); clear HO_13 HO_14 HO_15 BK118 HB; have HO_13 := n0_; have HO_14 := n1_; have HO_15 := n2_; have BK118 := n3_; have HB := n4_; clear n0_ n1_ n2_ n3_ n4_; (obtain ⟨u0, u1, u2, u3, u4, u5, u6⟩ := hHeld)
                                                 refine hK.out _ _ ⟨pw_cell_below hb_ u0, pw_cell_below hb_ u1, pw_cell_below hb_ u2, pw_cell_below hb_ u3, pw_cell_below hb_ u4, pw_cell_below hb_ u5, pw_cell_below hb_ u6⟩ (fun hHeld => ?_)
                                                 clear hK K hb_ u0 u1 u2 u3 u4 u5 u6
                                                 refine norm_ (a' := ?_) ?_ ?_
                                                 rotate_left
                                                 · show Act.put _ (some 120) _ = _
                                                   simp only [Act.put, List.setIfInBounds_toArray, List.set_cons_zero, List.set_cons_succ, i64_w, i32_w]
                                                   rfl
                                                 refine pure_ (i := 26) (N := some 121) (v := ?_) (a' := ?_) #[true, true, true, true, true, true, true, true, true, true, true, true, true, true, true, true, true, true, true, true, true, true, true, true, true, true, true, false] rfl rfl (any_of HT_.out (by kernel_rfl)) (fun _ _ _ h => h) (Or.inl ⟨by rfl, ?_⟩) ?_ ?_
                                                 rotate_left
                                                 · intro w'
                                                   go_simp
                                                   with_reducible rfl
                                                 rotate_left
                                                 · simp only [Act.put, List.setIfInBounds_toArray, List.set_cons_zero, List.set_cons_succ, i64_w, i32_w]
                                                   rfl
                                                 refine pure_ (i := 27) (N := some 122) (v := ?_) (a' := ?_) #[true, true, true, true, true, true, true, true, true, true, true, true, true, true, true, true, true, true, true, true, true, true, true, true, true, true, true, true] rfl rfl (any_of HT_.out (by kernel_rfl)) (fun _ _ _ h => h) (Or.inl ⟨by rfl, ?_⟩) ?_ ?_
                                                 rotate_left
                                                 · intro w'
                                                   go_simp
                                                   with_reducible rfl
                                                 rotate_left
                                                 · simp only [Act.put, List.setIfInBounds_toArray, List.set_cons_zero, List.set_cons_succ, i64_w, i32_w]
                                                   rfl
                                                 refine done_ (done_of HT_.out (by kernel_rfl)) ?_
                                                 try go_wp2
                                                 go_meet
                                                 case rel => exact ⟨_, (soonB l0 x59_4 (rd_T55 (rd_L3 x13_39 x59_4) 0) x17_4 (rd_T55 (rd_L3 x13_39 x17_4) 0)), (by first | rfl | (simp; done) | (simp [*]; done)), H', ⟨by have := HJ4.out; have := HK2.out; have := HK3.out; have := HK4.out; have := HJ29.out; have := HJ39.out; first | omega | exact Nat.le_refl _⟩, ⟨by (with_reducible repeat (first | apply Kd.S_alloc | apply Kd.S_drewN | apply Kd.S_drew)); exact HO_13.out⟩, ⟨by (with_reducible repeat (first | apply Kd.R_alloc | apply Kd.R_drewN | apply Kd.R_drew)); exact HO_14.out⟩, ⟨by (with_reducible repeat (first | apply Kd.R_alloc | apply Kd.R_drewN | apply Kd.R_drew)); exact HO_15.out⟩, ⟨by (with_reducible repeat (first | refine blk_drewN ?_ _ | refine blk_drew ?_ | refine blk_alloc ?_ _)); exact BK118.out⟩, ⟨by repeat (first | (with_reducible first | exact HB.out | apply below_alloc | apply pw_below_drewN | apply below_drew1 | refine below_set ?_ GE118.out) | exact HB.out)⟩⟩
                                               · rw [if_neg c63] at H
                                                 exact absurd H (by simp)
                                             · rw [if_neg c62] at H
                                               exact absurd H (by simp)
                                           · rw [if_neg c61] at H
                                             exact absurd H (by simp)
                                         · rw [if_neg c60] at H
                                           exact absurd H (by simp)
                                     · rw [if_neg c56] at H
                                       (have c56b0 : decide (0 < ((rd_L3 x13_39 x59_4).length : Int)) = false := decide_eq_false c56); (have c56b1 : decide (0 < (rd_L3 x13_39 x59_4).length) = false := decide_eq_false (by omega)); clear c56; (have H' := Aside0.mk H); clear H
                                       try go_wp2
                                       (have n0_ := Aside0.mk (Kd.S_drew HO_13.out)); (have n1_ := Aside0.mk (Kd.R_drew HO_14.out)); (have n2_ := Aside0.mk (Kd.R_drew HO_15.out)); (have n3_ := Aside0.mk (blk_drew BK118.out)); (have n4_ := Aside0.mk (below_drew1 HB.out)); clear HO_13; clear HO_14; clear HO_15; clear BK118; clear HB; have HO_13 := n0_; have HO_14 := n1_; have HO_15 := n2_; have BK118 := n3_; have HB := n4_; clear n0_ n1_ n2_ n3_ n4_; (obtain ⟨Ao67, co67, eo67⟩ := Kd.S_slice HO_13.out)
                                       (first | subst eo67 | (injection eo67 with f1_ f2_ f3_; have f4_ := f1_.symm; have f5_ := f3_.symm; clear f1_ f2_ f3_; subst f4_; subst f5_))
                                       (have p126 : 0 ≤ (x59_4 : Int) := of_decide_eq_true (by first | (with_reducible assumption) | assumption)); (have q126 : x59_4 < (x13_39.length : Int) := of_decide_eq_true (by first | (with_reducible assumption) | assumption)); (obtain ⟨ad126, A126_0, c126_0, e126, hx126_0, hl126_0, hi126_0⟩ := at_Q3 (Kd.S_reads' HO_13.out).2.2 x59_4 p126 q126)
                                       cases e126
                                       (obtain ⟨ce126, hce126, hMe126, hcc126⟩ := Kd.S_get HO_13.out [] x59_4 p126 (by first | exact q126 | exact of_decide_eq_true (by first | (with_reducible assumption) | assumption) | (have e_ := (Kd.S_reads' HO_13.out).1; omega))); (obtain ⟨ve126_0, rfl, ge126_0⟩ := hMe126); (have hv126_0 := hcc126 0 _ rfl); (rw [Nat.add_zero, show kq55.sz = 1 from rfl, Nat.mul_one] at hv126_0); (replace hv126_0 := Option.some.inj (hv126_0.symm.trans hx126_0)); (rw [hv126_0] at ge126_0); (have HL126_0 := Aside0.mk (show Kd.Q k55 55 _ _ _ _ (rd_L3 x13_39 x59_4) from ge126_0)); clear hv126_0 ge126_0; (have HX126_0 := Aside0.mk hx126_0); clear hcc126 hce126; (have HR126_0 := Aside0.mk hi126_0); (have HC126_0 := Aside0.mk hl126_0); clear hi126_0 hl126_0; (replace p126 := eq_true p126); (replace q126 := eq_true q126)
                                       refine start_ (n := 28) (S := fun w' => w'.cell? (ad126.add (x59_4).toNat) = some (.slice A126_0 (rd_L3 x13_39 x59_4).length c126_0)) (ds := []) #[false, false, false, false, false, false, false, false, false, false, false, false, false, false, false, false, false, false, false, false, false, false, false, false, false, false, false, false] (by kernel_rfl) rfl rfl (hx126_0) (fun hHeld => ?_); refine with_tabW impl_play.tab21 impl_play.bits21 (fun HT_ HW_ => ?_)
                                       generalize wc.drew = w66 at HO_13 HO_14 HO_15 BK118 HB HL126_0 HR126_0 HX126_0 hx126_0 hHeld ⊢
                                       refine pure_ (i := 0) (N := some 95) (v := ?_) (a' := ?_) #[true, false, false, false, false, false, false, false, false, false, false, false, false, false, false, false, false, false, false, false, false, false, false, false, false, false, false, false] rfl rfl (any_of HT_.out (by kernel_rfl)) (fun _ _ _ h => h) (Or.inl ⟨by rfl, ?_⟩) ?_ ?_
                                       rotate_left
                                       · intro w'
                                         go_simp
                                         with_reducible rfl
                                       rotate_left
                                       · simp only [Act.put, List.setIfInBounds_toArray, List.set_cons_zero, List.set_cons_succ, i64_w, i32_w]
                                         rfl
                                       refine pure_ (i := 1) (N := some 96) (v := ?_) (a' := ?_) #[true, true, false, false, false, false, false, false, false, false, false, false, false, false, false, false, false, false, false, false, false, false, false, false, false, false, false, false] rfl rfl (any_of HT_.out (by kernel_rfl)) (fun _ _ _ h => h) (Or.inl ⟨by rfl, ?_⟩) ?_ ?_
                                       rotate_left
                                       · intro w'
                                         go_simp
                                         with_reducible rfl
                                       rotate_left
                                       · simp only [Act.put, List.setIfInBounds_toArray, List.set_cons_zero, List.set_cons_succ, i64_w, i32_w]
                                         rfl
                                       refine pure_ (i := 2) (N := some 97) (v := ?_) (a' := ?_) #[true, true, true, false, false, false, false, false, false, false, false, false, false, false, false, false, false, false, false, false, false, false, false, false, false, false, false, false] rfl rfl (any_of HT_.out (by kernel_rfl)) (fun _ _ _ h => h) (Or.inl ⟨by rfl, ?_⟩) ?_ ?_
                                       rotate_left
                                       · intro w'
                                         go_simp
                                         with_reducible rfl
                                       rotate_left
                                       · simp only [Act.put, List.setIfInBounds_toArray, List.set_cons_zero, List.set_cons_succ, i64_w, i32_w]
                                         rfl
                                       refine take_ (i := 3) (N := some 98) (v := ?_) (a' := ?_) #[true, true, true, true, false, false, false, false, false, false, false, false, false, false, false, false, false, false, false, false, false, false, false, false, false, false, false, false] rfl rfl (take_ofW HT_.out HW_.out (by kernel_rfl)) (fun _ _ _ h => h) (Or.inl ⟨by rfl, ?_⟩) hHeld ?_ ?_
                                       rotate_left
                                       · intro w' s0
                                         go_simp
                                         with_reducible rfl
                                       rotate_left
                                       · simp only [Act.put, List.setIfInBounds_toArray, List.set_cons_zero, List.set_cons_succ, i64_w, i32_w]
                                         rfl
                                       refine pure_ (i := 4) (N := some 99) (v := ?_) (a' := ?_) #[true, true, true, true, true, false, false, false, false, false, false, false, false, false, false, false, false, false, false, false, false, false, false, false, false, false, false, false] rfl rfl (any_of HT_.out (by kernel_rfl)) (fun _ _ _ h => h) (Or.inl ⟨by rfl, ?_⟩) ?_ ?_
                                       rotate_left
                                       · intro w'
                                         go_simp
                                         with_reducible rfl
                                       rotate_left
                                       · simp only [Act.put, List.setIfInBounds_toArray, List.set_cons_zero, List.set_cons_succ, i64_w, i32_w]
                                         rfl
                                       refine pure_ (i := 5) (N := some 100) (v := ?_) (a' := ?_) #[true, true, true, true, true, true, false, false, false, false, false, false, false, false, false, false, false, false, false, false, false, false, false, false, false, false, false, false] rfl rfl (any_of HT_.out (by kernel_rfl)) (fun _ _ _ h => h) (Or.inl ⟨by rfl, ?_⟩) ?_ ?_
                                       rotate_left
                                       · intro w'
                                         go_simp
                                         with_reducible rfl
                                       rotate_left
                                       · simp only [Act.put, List.setIfInBounds_toArray, List.set_cons_zero, List.set_cons_succ, i64_w, i32_w]
                                         rfl
                                       refine pure_ (i := 6) (N := some 101) (v := ?_) (a' := ?_) #[true, true, true, true, true, true, true, false, false, false, false, false, false, false, false, false, false, false, false, false, false, false, false, false, false, false, false, false] rfl rfl (any_of HT_.out (by kernel_rfl)) (fun _ _ _ h => h) (Or.inl ⟨by rfl, ?_⟩) ?_ ?_
                                       rotate_left
                                       · intro w'
                                         go_simp
                                         with_reducible rfl
                                       rotate_left
                                       · simp only [Act.put, List.setIfInBounds_toArray, List.set_cons_zero, List.set_cons_succ, i64_w, i32_w]
                                         rfl
                                       refine pure_ (i := 7) (N := some 102) (v := undef) (a' := ?_) #[true, true, true, true, true, true, true, true, false, false, false, false, false, false, false, false, false, false, false, false, false, false, false, false, false, false, false, false] rfl rfl (any_of HT_.out (by kernel_rfl)) (fun _ _ _ h => h) (Or.inr ⟨by rfl, rfl⟩) ?_ ?_
                                       rotate_left
                                       · simp only [Act.put, List.setIfInBounds_toArray, List.set_cons_zero, List.set_cons_succ, i64_w, i32_w]
                                         rfl
                                       refine pure_ (i := 8) (N := some 103) (v := undef) (a' := ?_) #[true, true, true, true, true, true, true, true, true, false, false, false, false, false, false, false, false, false, false, false, false, false, false, false, false, false, false, false] rfl rfl (any_of HT_.out (by kernel_rfl)) (fun _ _ _ h => h) (Or.inr ⟨by rfl, rfl⟩) ?_ ?_
                                       rotate_left
                                       · simp only [Act.put, List.setIfInBounds_toArray, List.set_cons_zero, List.set_cons_succ, i64_w, i32_w]
                                         rfl
                                       refine pure_ (i := 9) (N := some 104) (v := undef) (a' := ?_) #[true, true, true, true, true, true, true, true, true, true, false, false, false, false, false, false, false, false, false, false, false, false, false, false, false, false, false, false] rfl rfl (any_of HT_.out (by kernel_rfl)) (fun _ _ _ h => h) (Or.inr ⟨by rfl, rfl⟩) ?_ ?_
                                       rotate_left
                                       · simp only [Act.put, List.setIfInBounds_toArray, List.set_cons_zero, List.set_cons_succ, i64_w, i32_w]
                                         rfl
                                       refine pure_ (i := 10) (N := some 105) (v := undef) (a' := ?_) #[true, true, true, true, true, true, true, true, true, true, true, false, false, false, false, false, false, false, false, false, false, false, false, false, false, false, false, false] rfl rfl (any_of HT_.out (by kernel_rfl)) (fun _ _ _ h => h) (Or.inr ⟨by rfl, rfl⟩) ?_ ?_
                                       rotate_left
                                       · simp only [Act.put, List.setIfInBounds_toArray, List.set_cons_zero, List.set_cons_succ, i64_w, i32_w]
                                         rfl
                                       refine pure_ (i := 11) (N := some 106) (v := undef) (a' := ?_) #[true, true, true, true, true, true, true, true, true, true, true, true, false, false, false, false, false, false, false, false, false, false, false, false, false, false, false, false] rfl rfl (any_of HT_.out (by kernel_rfl)) (fun _ _ _ h => h) (Or.inr ⟨by rfl, rfl⟩) ?_ ?_
                                       rotate_left
                                       · simp only [Act.put, List.setIfInBounds_toArray, List.set_cons_zero, List.set_cons_succ, i64_w, i32_w]
                                         rfl
                                       refine pure_ (i := 12) (N := some 107) (v := undef) (a' := ?_) #[true, true, true, true, true, true, true, true, true, true, true, true, true, false, false, false, false, false, false, false, false, false, false, false, false, false, false, false] rfl rfl (any_of HT_.out (by kernel_rfl)) (fun _ _ _ h => h) (Or.inr ⟨by rfl, rfl⟩) ?_ ?_
                                       rotate_left
                                       · simp only [Act.put, List.setIfInBounds_toArray, List.set_cons_zero, List.set_cons_succ, i64_w, i32_w]
                                         rfl
                                       refine pure_ (i := 13) (N := some 108) (v := undef) (a' := ?_) #[true, true, true, true, true, true, true, true, true, true, true, true, true, true, false, false, false, false, false, false, false, false, false, false, false, false, false, false] rfl rfl (any_of HT_.out (by kernel_rfl)) (fun _ _ _ h => h) (Or.inr ⟨by rfl, rfl⟩) ?_ ?_
                                       rotate_left
                                       · simp only [Act.put, List.setIfInBounds_toArray, List.set_cons_zero, List.set_cons_succ, i64_w, i32_w]
                                         rfl
                                       refine pure_ (i := 14) (N := some 109) (v := undef) (a' := ?_) #[true, true, true, true, true, true, true, true, true, true, true, true, true, true, true, false, false, false, false, false, false, false, false, false, false, false, false, false] rfl rfl (any_of HT_.out (by kernel_rfl)) (fun _ _ _ h => h) (Or.inr ⟨by rfl, rfl⟩) ?_ ?_
                                       rotate_left
                                       · simp only [Act.put, List.setIfInBounds_toArray, List.set_cons_zero, List.set_cons_succ, i64_w, i32_w]
                                         rfl
                                       refine pure_ (i := 15) (N := some 110) (v := undef) (a' := ?_) #[true, true, true, true, true, true, true, true, true, true, true, true, true, true, true, true, false, false, false, false, false, false, false, false, false, false, false, false] rfl rfl (any_of HT_.out (by kernel_rfl)) (fun _ _ _ h => h) (Or.inr ⟨by rfl, rfl⟩) ?_ ?_
                                       rotate_left
                                       · simp only [Act.put, List.setIfInBounds_toArray, List.set_cons_zero, List.set_cons_succ, i64_w, i32_w]
                                         rfl
                                       refine pure_ (i := 16) (N := some 111) (v := undef) (a' := ?_) #[true, true, true, true, true, true, true, true, true, true, true, true, true, true, true, true, true, false, false, false, false, false, false, false, false, false, false, false] rfl rfl (any_of HT_.out (by kernel_rfl)) (fun _ _ _ h => h) (Or.inr ⟨by rfl, rfl⟩) ?_ ?_
                                       rotate_left
                                       · simp only [Act.put, List.setIfInBounds_toArray, List.set_cons_zero, List.set_cons_succ, i64_w, i32_w]
                                         rfl
                                       refine pure_ (i := 17) (N := some 112) (v := undef) (a' := ?_) #[true, true, true, true, true, true, true, true, true, true, true, true, true, true, true, true, true, true, false, false, false, false, false, false, false, false, false, false] rfl rfl (any_of HT_.out (by kernel_rfl)) (fun _ _ _ h => h) (Or.inr ⟨by rfl, rfl⟩) ?_ ?_
                                       rotate_left
                                       · simp only [Act.put, List.setIfInBounds_toArray, List.set_cons_zero, List.set_cons_succ, i64_w, i32_w]
                                         rfl
                                       refine pure_ (i := 18) (N := some 113) (v := undef) (a' := ?_) #[true, true, true, true, true, true, true, true, true, true, true, true, true, true, true, true, true, true, true, false, false, false, false, false, false, false, false, false] rfl rfl (any_of HT_.out (by kernel_rfl)) (fun _ _ _ h => h) (Or.inr ⟨by rfl, rfl⟩) ?_ ?_
                                       rotate_left
                                       · simp only [Act.put, List.setIfInBounds_toArray, List.set_cons_zero, List.set_cons_succ, i64_w, i32_w]
                                         rfl
                                       refine pure_ (i := 19) (N := some 114) (v := undef) (a' := ?_) #[true, true, true, true, true, true, true, true, true, true, true, true, true, true, true, true, true, true, true, true, false, false, false, false, false, false, false, false] rfl rfl (any_of HT_.out (by kernel_rfl)) (fun _ _ _ h => h) (Or.inr ⟨by rfl, rfl⟩) ?_ ?_
                                       rotate_left
                                       · simp only [Act.put, List.setIfInBounds_toArray, List.set_cons_zero, List.set_cons_succ, i64_w, i32_w]
                                         rfl
                                       refine pure_ (i := 20) (N := some 115) (v := undef) (a' := ?_) #[true, true, true, true, true, true, true, true, true, true, true, true, true, true, true, true, true, true, true, true, true, false, false, false, false, false, false, false] rfl rfl (any_of HT_.out (by kernel_rfl)) (fun _ _ _ h => h) (Or.inr ⟨by rfl, rfl⟩) ?_ ?_
                                       rotate_left
                                       · simp only [Act.put, List.setIfInBounds_toArray, List.set_cons_zero, List.set_cons_succ, i64_w, i32_w]
                                         rfl
                                       refine pure_ (i := 21) (N := some 116) (v := undef) (a' := ?_) #[true, true, true, true, true, true, true, true, true, true, true, true, true, true, true, true, true, true, true, true, true, true, false, false, false, false, false, false] rfl rfl (any_of HT_.out (by kernel_rfl)) (fun _ _ _ h => h) (Or.inr ⟨by rfl, rfl⟩) ?_ ?_
                                       rotate_left
                                       · simp only [Act.put, List.setIfInBounds_toArray, List.set_cons_zero, List.set_cons_succ, i64_w, i32_w]
                                         rfl
                                       refine pure_ (i := 22) (N := some 117) (v := undef) (a' := ?_) #[true, true, true, true, true, true, true, true, true, true, true, true, true, true, true, true, true, true, true, true, true, true, true, false, false, false, false, false] rfl rfl (any_of HT_.out (by kernel_rfl)) (fun _ _ _ h => h) (Or.inr ⟨by rfl, rfl⟩) ?_ ?_
                                       rotate_left
                                       · simp only [Act.put, List.setIfInBounds_toArray, List.set_cons_zero, List.set_cons_succ, i64_w, i32_w]
                                         rfl
                                       refine pure_ (i := 23) (N := some 118) (v := undef) (a' := ?_) #[true, true, true, true, true, true, true, true, true, true, true, true, true, true, true, true, true, true, true, true, true, true, true, true, false, false, false, false] rfl rfl (any_of HT_.out (by kernel_rfl)) (fun _ _ _ h => h) (Or.inr ⟨by rfl, rfl⟩) ?_ ?_
                                       rotate_left
                                       · simp only [Act.put, List.setIfInBounds_toArray, List.set_cons_zero, List.set_cons_succ, i64_w, i32_w]
                                         rfl
                                       refine pure_ (i := 24) (N := some 119) (v := undef) (a' := ?_) #[true, true, true, true, true, true, true, true, true, true, true, true, true, true, true, true, true, true, true, true, true, true, true, true, true, false, false, false] rfl rfl (any_of HT_.out (by kernel_rfl)) (fun _ _ _ h => h) (Or.inr ⟨by rfl, rfl⟩) ?_ ?_
                                       rotate_left
                                       · simp only [Act.put, List.setIfInBounds_toArray, List.set_cons_zero, List.set_cons_succ, i64_w, i32_w]
                                         rfl
                                       refine pure_ (i := 25) (N := some 120) (v := undef) (a' := ?_) #[true, true, true, true, true, true, true, true, true, true, true, true, true, true, true, true, true, true, true, true, true, true, true, true, true, true, false, false] rfl rfl (any_of HT_.out (by kernel_rfl)) (fun _ _ _ h => h) (Or.inr ⟨by rfl, rfl⟩) ?_ ?_
                                       rotate_left
                                       · simp only [Act.put, List.setIfInBounds_toArray, List.set_cons_zero, List.set_cons_succ, i64_w, i32_w]
                                         rfl
                                       refine pure_ (i := 26) (N := some 121) (v := undef) (a' := ?_) #[true, true, true, true, true, true, true, true, true, true, true, true, true, true, true, true, true, true, true, true, true, true, true, true, true, true, true, false] rfl rfl (any_of HT_.out (by kernel_rfl)) (fun _ _ _ h => h) (Or.inr ⟨by rfl, rfl⟩) ?_ ?_
                                       rotate_left
                                       · simp only [Act.put, List.setIfInBounds_toArray, List.set_cons_zero, List.set_cons_succ, i64_w, i32_w]
                                         rfl
                                       refine pure_ (i := 27) (N := some 122) (v := ?_) (a' := ?_) #[true, true, true, true, true, true, true, true, true, true, true, true, true, true, true, true, true, true, true, true, true, true, true, true, true, true, true, true] rfl rfl (any_of HT_.out (by kernel_rfl)) (fun _ _ _ h => h) (Or.inl ⟨by rfl, ?_⟩) ?_ ?_
                                       rotate_left
                                       · intro w'
                                         go_simp
                                         with_reducible rfl
                                       rotate_left
                                       · simp only [Act.put, List.setIfInBounds_toArray, List.set_cons_zero, List.set_cons_succ, i64_w, i32_w]
                                         rfl
                                       refine done_ (done_of HT_.out (by kernel_rfl)) ?_
                                       try go_wp2
                                       go_meet
                                       case rel => exact ⟨_, (false), (by first | rfl | (simp; done) | (simp [*]; done)), H', ⟨by have := HJ4.out; have := HK2.out; have := HK3.out; have := HK4.out; have := HJ29.out; have := HJ39.out; first | omega | exact Nat.le_refl _⟩, ⟨by (with_reducible repeat (first | apply Kd.S_alloc | apply Kd.S_drewN | apply Kd.S_drew)); exact HO_13.out⟩, ⟨by (with_reducible repeat (first | apply Kd.R_alloc | apply Kd.R_drewN | apply Kd.R_drew)); exact HO_14.out⟩, ⟨by (with_reducible repeat (first | apply Kd.R_alloc | apply Kd.R_drewN | apply Kd.R_drew)); exact HO_15.out⟩, ⟨by (with_reducible repeat (first | refine blk_drewN ?_ _ | refine blk_drew ?_ | refine blk_alloc ?_ _)); exact BK118.out⟩, ⟨by repeat (first | (with_reducible first | exact HB.out | apply below_alloc | apply pw_below_drewN | apply below_drew1 | refine below_set ?_ GE118.out) | exact HB.out)⟩⟩
                                   · rw [if_neg c55] at H
                                     exact absurd H (by simp)
                                 · rw [if_neg c54] at H
                                   exact absurd H (by simp)
                               case rest =>
                                clear HC53; (try clear c1); (try clear p1); (try clear q1); (try clear hx1); (try clear qi1); (try clear p2); (try clear c5); (try clear c6); (try clear c12); (try clear p12); (try clear q12); (try clear hx12); (try clear qi12); (try clear p13); (try clear q13); (try clear hx13); (try clear qi13); (try clear c54); (try clear c55); (try clear c56); (try clear c56b0); (try clear c56b1); (try clear c57); (try clear c57b0); (try clear c60); (try clear c60b0); (try clear c60b1); (try clear c61); (try clear c61b0); (try clear c62); (try clear c62b0); (try clear c63); (try clear c63b0); (try clear c63b1); (try clear hx126_0); (try clear hx127_0); (try clear hx128_0); (try clear hx128_1); (try clear hx129_0); (try clear hx130_0); (try clear hx130_1); (try clear p126); (try clear p127); (try clear p128); (try clear p129); (try clear p130); (try clear q126); (try clear q127); (try clear q128); (try clear q129); (try clear q130); (obtain ⟨kq, x122_52, rfl, HA, HJ52, HO_13, HO_14, HO_15, BK118, HB⟩ := hcut)
                                cases kq with
                                | zero => exact absurd HA.out (by simp [impl_play.j6])
                                | succ kj52 =>
                                 have H := HA.out; clear HA; (simp only [impl_play.j6] at H)
                                 by_cases c68 : x122_52 = true
                                 · subst c68
                                   (have H1 : (impl_play.l2 kj52 l0 l1 x13_39 x14_3 x15_3 x54_3 x59_4 a2 x54_3 l0 (l0.length : Int) (wrap64 (x59_4 + 1))) = some (r1, r2, r3) := by rw [if_pos rfl] at H; exact H); clear H; have H := H1; clear H1; (have H' := Aside0.mk H); clear H
                                   go_wp2
                                   go_roundg kj52
                                   case measure => have := HJ4.out; have := HK2.out; have := HK3.out; have := HK4.out; have := HJ29.out; have := HJ39.out; have := HJ52.out; omega
                                   case rel => exact ⟨(x13_39), (x59_4), (wrap64 (x59_4 + 1)), (by first | rfl | (simp; done) | (simp [*]; done)), (by first | rfl | (simp; done) | (simp [*]; done)), H', ⟨by have := HJ4.out; have := HK2.out; have := HK3.out; have := HK4.out; have := HJ29.out; have := HJ39.out; have := HJ52.out; omega⟩, ⟨by (with_reducible repeat (first | apply Kd.S_alloc | apply Kd.S_drewN | apply Kd.S_drew)); exact HO_13.out⟩, ⟨by (with_reducible repeat (first | apply Kd.R_alloc | apply Kd.R_drewN | apply Kd.R_drew)); exact HO_14.out⟩, ⟨by (with_reducible repeat (first | apply Kd.R_alloc | apply Kd.R_drewN | apply Kd.R_drew)); exact HO_15.out⟩, ⟨by repeat (first | (with_reducible first | exact HB.out | apply below_alloc | apply pw_below_drewN | apply below_drew1 | refine below_set ?_ GE118.out) | exact HB.out)⟩⟩
                                 · replace c68 := Bool.eq_false_iff.mpr c68
                                   subst c68; (have H1 : (impl_play.l2 kj52 l0 l1 x13_39 x14_3 x15_3 x54_3 x17_4 a2 x54_3 l0 (l0.length : Int) (wrap64 (x59_4 + 1))) = some (r1, r2, r3) := by rw [if_neg (show ¬ (false = true) by decide)] at H; exact H); clear H; have H := H1; clear H1; (have H' := Aside0.mk H); clear H
                                   go_wp2
                                   go_roundg kj52
                                   case measure => have := HJ4.out; have := HK2.out; have := HK3.out; have := HK4.out; have := HJ29.out; have := HJ39.out; have := HJ52.out; omega
                                   case rel => exact ⟨(x13_39), (x17_4), (wrap64 (x59_4 + 1)), (by first | rfl | (simp; done) | (simp [*]; done)), (by first | rfl | (simp; done) | (simp [*]; done)), H', ⟨by have := HJ4.out; have := HK2.out; have := HK3.out; have := HK4.out; have := HJ29.out; have := HJ39.out; have := HJ52.out; omega⟩, ⟨by (with_reducible repeat (first | apply Kd.S_alloc | apply Kd.S_drewN | apply Kd.S_drew)); exact HO_13.out⟩, ⟨by (with_reducible repeat (first | apply Kd.R_alloc | apply Kd.R_drewN | apply Kd.R_drew)); exact HO_14.out⟩, ⟨by (with_reducible repeat (first | apply Kd.R_alloc | apply Kd.R_drewN | apply Kd.R_drew)); exact HO_15.out⟩, ⟨by repeat (first | (with_reducible first | exact HB.out | apply below_alloc | apply pw_below_drewN | apply below_drew1 | refine below_set ?_ GE118.out) | exact HB.out)⟩⟩
                         · rw [if_neg c29] at H
                           exact absurd H (by simp)
                       · rw [if_neg c28] at H
                         exact absurd H (by simp)
                     · rw [if_neg c27] at H
                       (have c27b0 : decide (x59_4 < (l0.length : Int)) = false := decide_eq_false c27); clear c27
                       by_cases c69 : x17_4 < 0
                       · rw [if_pos c69] at H
                         (have c69b0 : decide (x17_4 < 0) = true := decide_eq_true c69); clear c69; (have H' := Aside0.mk H); clear H
                         go_wp2
                         go_roundg k4
                         case measure => have := HJ4.out; have := HK2.out; have := HK3.out; have := HK4.out; omega
                         case rel => exact ⟨(x13_4), (x14_3), (x15_3), (wrap64 (x54_3 + 1)), (by first | rfl | (simp; done) | (simp [*]; done)), H', ⟨by have := HJ4.out; have := HK2.out; have := HK3.out; have := HK4.out; omega⟩, ⟨by (with_reducible repeat (first | apply Kd.S_alloc | apply Kd.S_drewN | apply Kd.S_drew)); exact HO_13.out⟩, ⟨by (with_reducible repeat (first | apply Kd.R_alloc | apply Kd.R_drewN | apply Kd.R_drew)); exact HO_14.out⟩, ⟨by (with_reducible repeat (first | apply Kd.R_alloc | apply Kd.R_drewN | apply Kd.R_drew)); exact HO_15.out⟩, ⟨by repeat (first | (with_reducible first | exact HB.out | apply below_alloc | apply pw_below_drewN | apply below_drew1) | exact HB.out)⟩⟩
                       · rw [if_neg c69] at H
                         (have c69b0 : decide (x17_4 < 0) = false := decide_eq_false c69); clear c69; (have HC70 := Aside0.mk H); clear H; (obtain ⟨Ao71, co71, eo71⟩ := Kd.R_slice HO_15.out); subst eo71
                         go_upto_region 26 with (fail)
                         go_cut [150] (fun v150 wc => ∃ (kq : Nat) (x150_69 : Bool), v150 = .bool x150_69 ∧ Aside0 (impl_play.j7 kq l0 l1 x13_4 x14_3 x15_3 x54_3 x17_4 (x15_3.length : Int) a2 x54_3 x150_69 = some (r1, r2, r3)) ∧ Aside0 (kq ≤ k4) ∧ Aside0 (Kd.S kq55 71 wc w.heap.size (fun _ => True) v112 x13_4) ∧ Aside0 (Kd.R (Kd.int .i64) 3 wc w.heap.size (fun _ => True) v115 x14_3) ∧ Aside0 (Kd.R k59 59 wc w.heap.size (fun _ => True) (.slice Ao71 x15_3.length co71) x15_3) ∧ Aside0 (Below w.heap.size w wc))
                         case first =>
                          as_aux_lemma =>
                           have H := HC70.out; clear HC70
                           by_cases c72 : (x15_3.length : Int) > 0
                           · rw [if_pos c72] at H
                             (have c72b0 : decide (0 < (x15_3.length : Int)) = true := decide_eq_true c72); (have c72b1 : decide (0 < x15_3.length) = true := decide_eq_true (by omega)); clear c72
                             (first | rw [c72b0] | (simp only [i64_w, i32_w]; rw [c72b0]) | skip)
                             (obtain ⟨ji73, hji73⟩ : ∃ j_ : Int, (wrap64 ((x15_3.length : Int) - 1)) = j_ := ⟨_, rfl⟩); (replace H : (if 0 ≤ (ji73) then (if (ji73) < (x15_3.length : Int) then (if ((rd_T59 x15_3 (ji73)).f2) = x17_4 then (impl_play.j7 k4 l0 l1 x13_4 x14_3 x15_3 x54_3 x17_4 (x15_3.length : Int) a2 x54_3 (((rd_T59 x15_3 (ji73)).f1) == x54_3)) else (impl_play.j7 k4 l0 l1 x13_4 x14_3 x15_3 x54_3 x17_4 (x15_3.length : Int) a2 x54_3 false)) else (none)) else (none)) = some (r1, r2, r3) := by first | (rw [hji73] at H; exact H) | (simp only [hji73] at H ⊢; exact H)); (have hji73w : (IntKind.i64.wrap ((x15_3.length : Int) - 1)) = ji73 := (i64_w _).trans hji73)
                             by_cases c74 : 0 ≤ (ji73)
                             · rw [if_pos c74] at H
                               (have c74b0 : decide (0 ≤ (ji73)) = true := decide_eq_true c74); clear c74
                               by_cases c75 : (ji73) < (x15_3.length : Int)
                               · rw [if_pos c75] at H
                                 (have c75b0 : decide ((ji73) < (x15_3.length : Int)) = true := decide_eq_true c75); clear c75
                                 by_cases c76 : ((rd_T59 x15_3 (ji73)).f2) = x17_4
                                 · rw [if_pos c76] at H
                                   (have c76b0 : (((rd_T59 x15_3 (ji73)).f2) == x17_4) = true := beq_iff_eq.mpr c76); (have c76b1 : (((rd_T59 x15_3 (ji73)).f2) != x17_4) = false := bne_eq_false_iff_eq.mpr c76); clear c76; (have H' := Aside0.mk H); clear H; (have p131 : 0 ≤ ((ji73) : Int) := of_decide_eq_true (by first | (with_reducible assumption) | assumption)); (have q131 : (ji73) < (x15_3.length : Int) := of_decide_eq_true (by first | (with_reducible assumption) | assumption)); (obtain ⟨ad131, e131, hx131_0, hx131_1, hx131_2⟩ := at_T59 (Kd.R_reads' HO_15.out).2.2 (ji73) p131 q131)
                                   cases e131
                                   (replace p131 := eq_true p131); (replace q131 := eq_true q131); (have p132 : 0 ≤ ((ji73) : Int) := of_decide_eq_true (by first | (with_reducible assumption) | assumption)); (have q132 : (ji73) < (x15_3.length : Int) := of_decide_eq_true (by first | (with_reducible assumption) | assumption)); (obtain ⟨ad132, e132, hx132_0, hx132_1, hx132_2⟩ := at_T59 (Kd.R_reads' HO_15.out).2.2 (ji73) p132 q132); (obtain rfl : ad131 = ad132 := (by injection e132)); (replace p132 := eq_true p132); (replace q132 := eq_true q132)
                                   go_wp2
                                   go_meet
                                   case rel => exact ⟨_, ((((rd_T59 x15_3 (ji73)).f1) == x54_3)), (by first | rfl | (simp; done) | (refine congrArg Value.bool (Eq.symm ?_); assumption) | (simp only [← hji73] <;> (first | rfl | (simp; done))) | (simp [*]; done)), H', ⟨by have := HJ4.out; have := HK2.out; have := HK3.out; have := HK4.out; first | omega | exact Nat.le_refl _⟩, ⟨by (with_reducible repeat (first | apply Kd.S_alloc | apply Kd.S_drewN | apply Kd.S_drew)); exact HO_13.out⟩, ⟨by (with_reducible repeat (first | apply Kd.R_alloc | apply Kd.R_drewN | apply Kd.R_drew)); exact HO_14.out⟩, ⟨by (with_reducible repeat (first | apply Kd.R_alloc | apply Kd.R_drewN | apply Kd.R_drew)); exact HO_15.out⟩, ⟨by repeat (first | (with_reducible first | exact HB.out | apply below_alloc | apply pw_below_drewN | apply below_drew1) | exact HB.out)⟩⟩
                                 · rw [if_neg c76] at H
                                   (have c76b0 : (((rd_T59 x15_3 (ji73)).f2) == x17_4) = false := beq_eq_false_iff_ne.mpr c76); (have c76b1 : (((rd_T59 x15_3 (ji73)).f2) != x17_4) = true := bne_iff_ne.mpr c76); (have H' := Aside0.mk H); clear H; (have p131 : 0 ≤ ((ji73) : Int) := of_decide_eq_true (by first | (with_reducible assumption) | assumption)); (have q131 : (ji73) < (x15_3.length : Int) := of_decide_eq_true (by first | (with_reducible assumption) | assumption)); (obtain ⟨ad131, e131, hx131_0, hx131_1, hx131_2⟩ := at_T59 (Kd.R_reads' HO_15.out).2.2 (ji73) p131 q131)
                                   cases e131
                                   (replace p131 := eq_true p131); (replace q131 := eq_true q131)
                                   go_wp2
                                   go_meet
                                   case rel => exact ⟨_, (false), (by first | rfl | (simp; done) | (simp [*]; done)), H', ⟨by have := HJ4.out; have := HK2.out; have := HK3.out; have := HK4.out; first | omega | exact Nat.le_refl _⟩, ⟨by (with_reducible repeat (first | apply Kd.S_alloc | apply Kd.S_drewN | apply Kd.S_drew)); exact HO_13.out⟩, ⟨by (with_reducible repeat (first | apply Kd.R_alloc | apply Kd.R_drewN | apply Kd.R_drew)); exact HO_14.out⟩, ⟨by (with_reducible repeat (first | apply Kd.R_alloc | apply Kd.R_drewN | apply Kd.R_drew)); exact HO_15.out⟩, ⟨by repeat (first | (with_reducible first | exact HB.out | apply below_alloc | apply pw_below_drewN | apply below_drew1) | exact HB.out)⟩⟩
                               · rw [if_neg c75] at H
                                 exact absurd H (by simp)
                             · rw [if_neg c74] at H
                               exact absurd H (by simp)
                           · rw [if_neg c72] at H
                             (have c72b0 : decide (0 < (x15_3.length : Int)) = false := decide_eq_false c72); (have c72b1 : decide (0 < x15_3.length) = false := decide_eq_false (by omega)); clear c72
                             (first | rw [c72b0] | (simp only [i64_w, i32_w]; rw [c72b0]) | skip)
                             (have H' := Aside0.mk H); clear H
                             go_wp2
                             go_meet
                             case rel => exact ⟨_, (false), (by first | rfl | (simp; done) | (simp [*]; done)), H', ⟨by have := HJ4.out; have := HK2.out; have := HK3.out; have := HK4.out; first | omega | exact Nat.le_refl _⟩, ⟨by (with_reducible repeat (first | apply Kd.S_alloc | apply Kd.S_drewN | apply Kd.S_drew)); exact HO_13.out⟩, ⟨by (with_reducible repeat (first | apply Kd.R_alloc | apply Kd.R_drewN | apply Kd.R_drew)); exact HO_14.out⟩, ⟨by (with_reducible repeat (first | apply Kd.R_alloc | apply Kd.R_drewN | apply Kd.R_drew)); exact HO_15.out⟩, ⟨by repeat (first | (with_reducible first | exact HB.out | apply below_alloc | apply pw_below_drewN | apply below_drew1) | exact HB.out)⟩⟩
                         case rest =>
                          clear HC70; (try clear c1); (try clear p1); (try clear q1); (try clear hx1); (try clear qi1); (try clear c2); (try clear p2); (try clear c5); (try clear c6); (try clear p6); (try clear c7); (try clear c12); (try clear p12); (try clear q12); (try clear hx12); (try clear qi12); (try clear p13); (try clear q13); (try clear hx13); (try clear qi13); (try clear c27); (try clear c27b0); (try clear c28); (try clear c29); (try clear c54); (try clear c55); (try clear c56); (try clear c56b0); (try clear c56b1); (try clear c57); (try clear c57b0); (try clear c60); (try clear c60b0); (try clear c60b1); (try clear c61); (try clear c61b0); (try clear c62); (try clear c62b0); (try clear c63); (try clear c63b0); (try clear c63b1); (try clear p64); (try clear c68); (try clear c69); (try clear c69b0); (try clear c72); (try clear c72b0); (try clear c72b1); (try clear c74); (try clear c74b0); (try clear c75); (try clear c75b0); (try clear c76); (try clear c76b0); (try clear c76b1); (try clear hx126_0); (try clear hx127_0); (try clear hx128_0); (try clear hx128_1); (try clear hx129_0); (try clear hx130_0); (try clear hx130_1); (try clear hx131_0); (try clear hx131_1); (try clear hx131_2); (try clear hx132_0); (try clear hx132_1); (try clear hx132_2); (try clear p1); (try clear p12); (try clear p126); (try clear p127); (try clear p128); (try clear p129); (try clear p13); (try clear p130); (try clear p131); (try clear p132); (try clear p2); (try clear q1); (try clear q12); (try clear q126)
                          (try clear q127); (try clear q128); (try clear q129); (try clear q13); (try clear q130); (try clear q131); (try clear q132); (obtain ⟨kq, x150_69, rfl, HA, HJ69, HO_13, HO_14, HO_15, HB⟩ := hcut)
                          cases kq with
                          | zero => exact absurd HA.out (by simp [impl_play.j7])
                          | succ kj69 =>
                           have H := HA.out; clear HA; (simp only [impl_play.j7] at H); (have HC77 := Aside0.mk H); clear H
                           go_upto_if 150 with (fail)
                           go_cut [15] (fun v15 wc => ∃ (kq : Nat) (x15_76 : List (S59)), Aside0 (impl_play.j8 kq l0 l1 x13_4 x14_3 x15_76 x54_3 x17_4 a2 x54_3 = some (r1, r2, r3)) ∧ Aside0 (kq ≤ kj69) ∧ Aside0 (Kd.S kq55 71 wc w.heap.size (fun _ => True) v112 x13_4) ∧ Aside0 (Kd.R (Kd.int .i64) 3 wc w.heap.size (fun _ => True) v115 x14_3) ∧ Aside0 (Kd.R k59 59 wc w.heap.size (fun _ => True) v15 x15_76) ∧ Aside0 (Below w.heap.size w wc))
                           case first =>
                            as_aux_lemma =>
                             have H := HC77.out; clear HC77
                             by_cases c78 : x150_69 = true
                             · subst c78
                               (have H1 : (if 0 ≤ (wrap64 ((x15_3.length : Int) - 1)) then (if (wrap64 ((x15_3.length : Int) - 1)) < (x15_3.length : Int) then (impl_play.j8 kj69 l0 l1 x13_4 x14_3 (x15_3.set ((wrap64 ((x15_3.length : Int) - 1)) : Int).toNat (⟨(rd_T59 x15_3 (wrap64 ((x15_3.length : Int) - 1))).f0, wrap64 (((rd_T59 x15_3 (wrap64 ((x15_3.length : Int) - 1))).f1) + 1), (rd_T59 x15_3 (wrap64 ((x15_3.length : Int) - 1))).f2⟩ : S59)) x54_3 x17_4 a2 x54_3) else (none)) else (none)) = some (r1, r2, r3) := by rw [if_pos rfl] at H; exact H); clear H; have H := H1; clear H1; (obtain ⟨ji79, hji79⟩ : ∃ j_ : Int, (wrap64 ((x15_3.length : Int) - 1)) = j_ := ⟨_, rfl⟩); (replace H : (if 0 ≤ (ji79) then (if (ji79) < (x15_3.length : Int) then (impl_play.j8 kj69 l0 l1 x13_4 x14_3 (x15_3.set ((ji79) : Int).toNat (⟨(rd_T59 x15_3 (ji79)).f0, wrap64 (((rd_T59 x15_3 (ji79)).f1) + 1), (rd_T59 x15_3 (ji79)).f2⟩ : S59)) x54_3 x17_4 a2 x54_3) else (none)) else (none)) = some (r1, r2, r3) := by first | (rw [hji79] at H; exact H) | (simp only [hji79] at H ⊢; exact H)); (have hji79w : (IntKind.i64.wrap ((x15_3.length : Int) - 1)) = ji79 := (i64_w _).trans hji79)
                               by_cases c80 : 0 ≤ (ji79)
                               · rw [if_pos c80] at H
                                 (have c80b0 : decide (0 ≤ (ji79)) = true := decide_eq_true c80); clear c80
                                 (first | rw [c80b0] | (simp only [i64_w, i32_w]; rw [c80b0]) | skip)
                                 by_cases c81 : (ji79) < (x15_3.length : Int)
                                 · rw [if_pos c81] at H
                                   (have c81b0 : decide ((ji79) < (x15_3.length : Int)) = true := decide_eq_true c81); clear c81; (obtain ⟨y134, hy134⟩ : ∃ y_ : List (S59), y_ = (x15_3.set ((ji79) : Int).toNat (⟨(rd_T59 x15_3 (ji79)).f0, wrap64 (((rd_T59 x15_3 (ji79)).f1) + 1), (rd_T59 x15_3 (ji79)).f2⟩ : S59)) := ⟨_, rfl⟩); (replace H : (impl_play.j8 kj69 l0 l1 x13_4 x14_3 y134 x54_3 x17_4 a2 x54_3) = some (r1, r2, r3) := by first | (rw [hy134]; with_reducible exact H) | (have H2_ := (Option.bind_some _ _).symm.trans H; rw [hy134]; with_reducible exact H2_) | (have H2_ := (Option.bind_some _ _).symm.trans H; with_reducible exact H2_) | with_reducible exact H | (rw [hy134]; exact H) | exact H); (have Ny134 := Aside0.mk hy134); clear hy134; (have H' := Aside0.mk H); clear H; (have p133 : 0 ≤ ((ji79) : Int) := of_decide_eq_true (by first | (with_reducible assumption) | assumption)); (have q133 : (ji79) < (x15_3.length : Int) := of_decide_eq_true (by first | (with_reducible assumption) | assumption)); (obtain ⟨ad133, e133, hx133_0, hx133_1, hx133_2⟩ := at_T59 (Kd.R_reads' HO_15.out).2.2 (ji79) p133 q133)
                                   cases e133
                                   (replace p133 := eq_true p133); (replace q133 := eq_true q133); (have p82 : 0 ≤ ((ji79) : Int) := of_decide_eq_true (by first | (with_reducible assumption) | assumption)); (have q82 : ((ji79) : Int) < ((x15_3.length : Int) : Int) := of_decide_eq_true (by first | (with_reducible assumption) | assumption)); (obtain ⟨go82, co82, eo82, gb82, gl82, cl82, HG82⟩ := Kd.R_form HO_15.out (by omega))
                                   (first | cases eo82 | (injection eo82 with ea_ en_ ec_; (first | subst ea_ | (injection ea_ with ea_; subst ea_)); subst ec_; clear en_))
                                   (have GB82 := Aside0.mk gb82); (have GG82 := Aside0.mk HG82); clear gb82 gl82 HG82
                                   (first | simp only [add_plain] at hx133_0 | skip)
                                   (first | simp only [add_plain] at hx133_1 | skip)
                                   (first | simp only [add_plain] at hx133_2 | skip)
                                   (obtain ⟨ce82, hcl82, hM82, hcc82, hfr82⟩ := Kd.R_elem HO_15.out z59 ((ji79) : Int) p82 q82); (obtain rfl := k59_openM hM82); (have hx82_0 : wc.cell? ⟨go82, ((ji79) : Int).toNat * 3, none⟩ = some (.int .i64 ((rd_T59 x15_3 (ji79)).f0)) := hcc82 0 _ rfl); (have hx82_1 : wc.cell? ⟨go82, ((ji79) : Int).toNat * 3 + 1, none⟩ = some (.int .i64 ((rd_T59 x15_3 (ji79)).f1)) := hcc82 1 _ rfl); (have hx82_2 : wc.cell? ⟨go82, ((ji79) : Int).toNat * 3 + 2, none⟩ = some (.int .i64 ((rd_T59 x15_3 (ji79)).f2)) := hcc82 2 _ rfl); (have hf82_0 : wc.frozen? ⟨go82, ((ji79) : Int).toNat * 3, none⟩ = false := hfr82 0); (have hf82_1 : wc.frozen? ⟨go82, ((ji79) : Int).toNat * 3 + 1, none⟩ = false := hfr82 1); (have hf82_2 : wc.frozen? ⟨go82, ((ji79) : Int).toNat * 3 + 2, none⟩ = false := hfr82 2); (clear hcl82 hcc82 hfr82; (try clear hM82)); (replace p82 := eq_true p82); (replace q82 := eq_true q82); (have HX83 := Aside0.mk (show Kd.R k59 59 wc w.heap.size (fun _ => True) (.slice (some ⟨go82, 0, none⟩) x15_3.length co71) x15_3 from (by (with_reducible repeat (first | apply Kd.R_alloc | apply Kd.R_drewN | apply Kd.R_drew)); exact HO_15.out)))
                                   (obtain ⟨ce83, hcl83, hM83, hcc83, hfr83⟩ := Kd.R_elem HX83.out z59 ((ji79) : Int) (of_decide_eq_true (by first | (with_reducible assumption) | assumption)) (by have h_ : ((ji79) : Int) < ((x15_3.length : Int) : Int) := of_decide_eq_true (by first | (with_reducible assumption) | assumption); first | exact h_ | (have e_ := (Kd.R_reads' HO_15.out).1; omega) | simpa using h_)); (obtain rfl := k59_openM hM83); (have HP83 := Kd.R_seg HX83.out ((ji79) : Int) (of_decide_eq_true (by first | (with_reducible assumption) | assumption)) (by have h_ : ((ji79) : Int) < ((x15_3.length : Int) : Int) := of_decide_eq_true (by first | (with_reducible assumption) | assumption); first | exact h_ | (have e_ := (Kd.R_reads' HO_15.out).1; omega) | simpa using h_) (seg := [.int .i64 (wrap64 (((rd_T59 x15_3 (ji79)).f1) + 1))]) (j := 1) hcl83 hcc83 (show 2 ≤ 3 from by decide) (x' := (⟨(rd_T59 x15_3 (ji79)).f0, wrap64 (((rd_T59 x15_3 (ji79)).f1) + 1), (rd_T59 x15_3 (ji79)).f2⟩ : S59)) (k59_mkM _ _ _ (⟨(rd_T59 x15_3 (ji79)).f0, wrap64 (((rd_T59 x15_3 (ji79)).f1) + 1), (rd_T59 x15_3 (ji79)).f2⟩ : S59) ) (fun _ hk => hk)); (have hx83_1 := hcc83 1 _ rfl); ((try simp only [show (k59).sz = 3 from rfl, Nat.mul_one, Nat.add_zero] at hx83_1)); (have hf83_1 := hfr83 1); ((try simp only [show (k59).sz = 3 from rfl, Nat.mul_one, Nat.add_zero] at hf83_1)); (clear hcl83 hcc83 hfr83; (try clear hM83))
                                   go_wp2_with (first | ((with_reducible refine gate_store (t := 3) (p := 159) rfl ?_); refine store_event (t := 3) (p := 159) (v := ?vo_w84) (w1 := (wc.setCell ⟨go82, ((ji79) : Int).toNat * 3 + 1, none⟩ (.int .i64 (wrap64 (((rd_T59 x15_3 (ji79)).f1) + 1))))) ?hg ?ho ?hn ?hr ?_; (case ho => rfl); (case hg => rfl); (case hn => rfl); (case hr => first | (go_simp; done) | (go_simp; rfl)); intro w84 hw; have hg : wc.grownBy w84 (some go82) := (by rw [hw]; exact HP83.2); have hp_ : Kd.R k59 59 w84 w.heap.size (fun _ => True) (.slice (some ⟨go82, 0, none⟩) x15_3.length co71) y134 := (by rw [hw, Ny134.out]; exact HP83.1); clear HP83; have n0_ := Aside0.mk (Kd.S_over' (v := (.slice (some ⟨go82, 0, none⟩) x15_3.length co71)) (by (with_reducible repeat (first | apply Kd.S_alloc | apply Kd.S_drewN | apply Kd.S_drew)); exact HO_13.out) (Kd.R_typed HO_15.out) (by decide) hg); have n1_ := Aside0.mk (Kd.R_over' (v := (.slice (some ⟨go82, 0, none⟩) x15_3.length co71)) (by (with_reducible repeat (first | apply Kd.R_alloc | apply Kd.R_drewN | apply Kd.R_drew)); exact HO_14.out) (Kd.R_typed HO_15.out) (by decide) hg); have n2_ := Aside0.mk (hp_); have n3_ := Aside0.mk ((by rw [hw]; exact below_set (HB.out) GB82.out : Below w.heap.size w w84)); clear HO_13; clear HO_14; clear HO_15; clear HB; have HO_13 := n0_; have HO_14 := n1_; have HO_15 := n2_; have HB := n3_; clear n0_ n1_ n2_ n3_; clear hg hw hp_))
                                   go_meet
                                   case rel => exact ⟨_, (y134), H', ⟨by have := HJ4.out; have := HK2.out; have := HK3.out; have := HK4.out; have := HJ69.out; first | omega | exact Nat.le_refl _⟩, ⟨by (with_reducible repeat (first | apply Kd.S_alloc | apply Kd.S_drewN | apply Kd.S_drew)); exact HO_13.out⟩, ⟨by (with_reducible repeat (first | apply Kd.R_alloc | apply Kd.R_drewN | apply Kd.R_drew)); exact HO_14.out⟩, ⟨by (with_reducible repeat (first | apply Kd.R_alloc | apply Kd.R_drewN | apply Kd.R_drew)); exact HO_15.out⟩, ⟨by repeat (first | (with_reducible first | exact HB.out | apply below_alloc | apply pw_below_drewN | apply below_drew1) | exact HB.out)⟩⟩
                                 · rw [if_neg c81] at H
                                   exact absurd H (by simp)
                               · rw [if_neg c80] at H
                                 exact absurd H (by simp)
                             · replace c78 := Bool.eq_false_iff.mpr c78
                               subst c78; (have H1 : (if x15_3.length < 5864062014805 then (impl_play.j8 kj69 l0 l1 x13_4 x14_3 (x15_3 ++ [(⟨x54_3, wrap64 (x54_3 + 1), x17_4⟩ : S59)]) x54_3 x17_4 a2 x54_3) else (none)) = some (r1, r2, r3) := by rw [if_neg (show ¬ (false = true) by decide)] at H; exact H); clear H; have H := H1; clear H1
                               by_cases c85 : x15_3.length < 5864062014805
                               · rw [if_pos c85] at H
                                 (have LMc85 := Aside0.mk c85); clear c85; (obtain ⟨y135, hy135⟩ : ∃ y_ : List (S59), y_ = (x15_3 ++ [(⟨x54_3, wrap64 (x54_3 + 1), x17_4⟩ : S59)]) := ⟨_, rfl⟩); (replace H : (impl_play.j8 kj69 l0 l1 x13_4 x14_3 y135 x54_3 x17_4 a2 x54_3) = some (r1, r2, r3) := by first | (rw [hy135]; with_reducible exact H) | (have H2_ := (Option.bind_some _ _).symm.trans H; rw [hy135]; with_reducible exact H2_) | (have H2_ := (Option.bind_some _ _).symm.trans H; with_reducible exact H2_) | with_reducible exact H | (rw [hy135]; exact H) | exact H); (have Ny135 := Aside0.mk hy135); clear hy135; (have H' := Aside0.mk H); clear H
                                 go_wp2_with (first | ((with_reducible refine gate_builtin (b := .append) (xs := #[.tmp 160, .tmp 166]) rfl ?_); (try (refine gate_guard (by rfl) ?_; dsimp only)); at_builtin; refine Kd.R_append k59 (w0 := w) w.heap.size rfl (.tmp 160) (.tmp 166) 27 59 (.agg #[(.int .i64 0), (.int .i64 0), (.int .i64 0)]) 24 rfl Try.underlying27 info59 rfl (by decide) (by omega) (.slice Ao71 x15_3.length co71) x15_3 (⟨x54_3, wrap64 (x54_3 + 1), x17_4⟩ : S59) [.int .i64 x54_3, .int .i64 (wrap64 (x54_3 + 1)), .int .i64 x17_4] (fun _ => True) (fun _ => False) rfl rfl ?aP (fun _ hk => hk.elim) ?aF ?aO ?aB ?aS ?aL ?_; (case aP => exact k59_mkM _ _ _ (⟨x54_3, wrap64 (x54_3 + 1), x17_4⟩ : S59)); (case aB => exact (by repeat (first | (with_reducible first | exact HB.out | apply below_alloc | apply pw_below_drewN | apply below_drew1) | exact HB.out))); (case aF => exact (fun _ _ => trivial)); (case aO => exact (by (with_reducible repeat (first | apply Kd.R_alloc | apply Kd.R_drewN | apply Kd.R_drew)); exact HO_15.out)); (case aS => exact (below_size (by repeat (first | (with_reducible first | exact HB.out | apply below_alloc | apply pw_below_drewN | apply below_drew1) | exact HB.out)))); (case aL => have := LMc85.out; omega); intro v136 w86 ho hb hg hat; rw [← Ny135.out] at ho; have n0_ := Aside0.mk (Kd.S_over' (by (with_reducible repeat (first | apply Kd.S_alloc | apply Kd.S_drewN | apply Kd.S_drew)); exact HO_13.out) (Kd.R_typed (by (with_reducible repeat (first | apply Kd.R_alloc | apply Kd.R_drewN | apply Kd.R_drew)); exact HO_15.out)) (by decide) hg); have n1_ := Aside0.mk (Kd.R_over' (by (with_reducible repeat (first | apply Kd.R_alloc | apply Kd.R_drewN | apply Kd.R_drew)); exact HO_14.out) (Kd.R_typed (by (with_reducible repeat (first | apply Kd.R_alloc | apply Kd.R_drewN | apply Kd.R_drew)); exact HO_15.out)) (by decide) hg); have n2_ := Aside0.mk (hb); have n3_ := Aside0.mk (ho); clear HO_13; clear HO_14; clear HB; clear HO_15; have HO_13 := n0_; have HO_14 := n1_; have HB := n2_; have HO137 := n3_; clear n0_ n1_ n2_ n3_; clear ho hb hg hat))
                                 go_meet
                                 case rel => exact ⟨_, (y135), H', ⟨by have := HJ4.out; have := HK2.out; have := HK3.out; have := HK4.out; have := HJ69.out; first | omega | exact Nat.le_refl _⟩, ⟨by (with_reducible repeat (first | apply Kd.S_alloc | apply Kd.S_drewN | apply Kd.S_drew)); exact HO_13.out⟩, ⟨by (with_reducible repeat (first | apply Kd.R_alloc | apply Kd.R_drewN | apply Kd.R_drew)); exact HO_14.out⟩, ⟨by (with_reducible repeat (first | apply Kd.R_alloc | apply Kd.R_drewN | apply Kd.R_drew)); exact HO137.out⟩, ⟨by repeat (first | (with_reducible first | exact HB.out | apply below_alloc | apply pw_below_drewN | apply below_drew1) | exact HB.out)⟩⟩
                               · rw [if_neg c85] at H
                                 exact absurd H (by simp)
                           case rest =>
                            clear HC77; (try clear c1); (try clear p1); (try clear q1); (try clear hx1); (try clear qi1); (try clear c2); (try clear p2); (try clear c5); (try clear c6); (try clear p6); (try clear c7); (try clear c8); (try clear p8); (try clear q8); (try clear hx8); (try clear hf8); (try clear c12); (try clear p12); (try clear q12); (try clear hx12); (try clear qi12); (try clear p13); (try clear q13); (try clear hx13); (try clear qi13); (try clear c27); (try clear c27b0); (try clear c28); (try clear c29); (try clear c54); (try clear c55); (try clear c56); (try clear c56b0); (try clear c56b1); (try clear c57); (try clear c57b0); (try clear c60); (try clear c60b0); (try clear c60b1); (try clear c61); (try clear c61b0); (try clear c62); (try clear c62b0); (try clear c63); (try clear c63b0); (try clear c63b1); (try clear p64); (try clear c68); (try clear c69); (try clear c69b0); (try clear c72); (try clear c72b0); (try clear c72b1); (try clear c74); (try clear c74b0); (try clear c75); (try clear c75b0); (try clear c76); (try clear c76b0); (try clear c76b1); (try clear c78); (try clear c80); (try clear c80b0); (try clear c81); (try clear c81b0); (try clear c82); (try clear p82); (try clear q82); (try clear hx82); (try clear hf82); (try clear c83); (try clear hx83); (try clear hf83); (try clear c85); (try clear hx126_0); (try clear hx127_0); (try clear hx128_0); (try clear hx128_1); (try clear hx129_0); (try clear hx130_0); (try clear hx130_1); (try clear hx131_0); (try clear hx131_1)
                            (try clear hx131_2); (try clear hx132_0); (try clear hx132_1); (try clear hx132_2); (try clear hx133_0); (try clear hx133_1); (try clear hx133_2); (try clear hx82_0); (try clear hx82_1); (try clear hx82_2); (try clear hx83_1); (try clear p1); (try clear p12); (try clear p126); (try clear p127); (try clear p128); (try clear p129); (try clear p13); (try clear p130); (try clear p131); (try clear p132); (try clear p133); (try clear p2); (try clear p6); (try clear p64); (try clear p82); (try clear q1); (try clear q12); (try clear q126); (try clear q127); (try clear q128); (try clear q129); (try clear q13); (try clear q130); (try clear q131); (try clear q132); (try clear q133); (try clear q82); (obtain ⟨kq, x15_76, HA, HJ76, HO_13, HO_14, HO_15, HB⟩ := hcut)
                            cases kq with
                            | zero => exact absurd HA.out (by simp [impl_play.j8])
                            | succ kj76 =>
                             have H := HA.out; clear HA; (simp only [impl_play.j8] at H)
                             by_cases c87 : 0 ≤ x17_4
                             case neg =>
                              rw [if_neg c87] at H
                              exact absurd H (by simp)
                             rw [if_pos c87] at H
                             by_cases c88 : x17_4 < (x13_4.length : Int)
                             case neg =>
                              rw [if_neg c88] at H
                              exact absurd H (by simp)
                             rw [if_pos c88] at H
                             by_cases c89 : 0 < ((rd_L3 x13_4 x17_4).length : Int)
                             case neg =>
                              rw [if_neg c89] at H
                              exact absurd H (by simp)
                             (rw [if_pos c89] at H); (have c87b0 : decide (0 ≤ x17_4) = true := decide_eq_true c87); (have c88b0 : decide (x17_4 < (x13_4.length : Int)) = true := decide_eq_true c88); (obtain ⟨y, hy⟩ : ∃ y, rd_L3 x13_4 x17_4 = y := ⟨_, rfl⟩); (rw [hy] at H c89); (have c89b0 : decide (0 < (y.length : Int)) = true := decide_eq_true c89); (have hyp : 0 < y.length := by omega); (have c89b1 : decide (0 < y.length) = true := decide_eq_true hyp); (obtain ⟨f0, f1, hf⟩ : ∃ f0 f1 : Int, rd_T55 y 0 = ⟨f0, f1⟩ := ⟨_, _, rfl⟩); (simp only [hf] at H); (obtain ⟨gj, cj, ej, gb1, gl1, cl1, HG1⟩ := Kd.S_form HO_13.out (by omega)); subst ej; (obtain ⟨okq, vq, hq, hx, hfx, hok, hH⟩ := whole_elem HO_13.out x17_4 c87 c88); (rw [hy] at hq); (obtain ⟨gq, oq, cq, eq_, gbq, glq, clq, HGq⟩ := Kd.Q_form hq hyp); subst eq_; (obtain ⟨hx0, hx1⟩ := queue_cells hq hyp hf); (obtain ⟨hp1, hp2, hfq⟩ := queue_put hq hyp hf (wrap64 (f1 - 1))); (have hyl : (y.set 0 (⟨f0, wrap64 (f1 - 1)⟩ : S55)).length = y.length := List.length_set); (have hgq : gq ≠ gj := (hok gq (hq.1 _ rfl)).2); (obtain ⟨Ao72, co72, eo72⟩ := Kd.R_slice HO_14.out); subst eo72
                             by_cases c92 : wrap64 (f1 - 1) = 0
                             · rw [if_pos c92] at H
                               (have c92b0 : (wrap64 (f1 - 1) == 0) = true := beq_iff_eq.mpr c92); clear c92
                               by_cases c93 : x17_4 < (x14_3.length : Int)
                               case neg =>
                                rw [if_neg c93] at H
                                exact absurd H (by simp)
                               (rw [if_pos c93] at H); (have c93b0 : decide (x17_4 < (x14_3.length : Int)) = true := decide_eq_true c93); (obtain ⟨ji94, hji94⟩ : ∃ j_ : Int, (mx (rd x14_3 x17_4) (wrap64 ((wrap64 (x54_3 + 1)) - f0))) = j_ := ⟨_, rfl⟩); (rw [hji94] at H); (have hji94_ : (if (rd x14_3 x17_4) < (wrap64 ((wrap64 (x54_3 + 1)) - f0)) then (wrap64 ((wrap64 (x54_3 + 1)) - f0)) else (rd x14_3 x17_4)) = ji94 := hji94); (have H' := Aside0.mk H); clear H
                               go_wp2_with (first
                                | ((with_reducible refine gate_store (t := 3) (p := 179) rfl ?_); refine store_event (t := 3) (p := 179) (v := ?vo_w99) (w1 := (wc.setCell ⟨gq, oq + 1, none⟩ (.int .i64 (wrap64 (f1 - 1))))) ?hg ?ho ?hn ?hr ?_; (case ho => rfl); (case hg => rfl); (case hn => rfl); (case hr => first | (go_simp; done) | (go_simp; rfl)); intro w99 hw; rw [← hw] at hp1 hp2; have n0_ := Aside0.mk (whole_back hH hp2 (fun k_ e_ => by injection e_ with e_; subst e_; exact hq.1 _ rfl) hp1); have n1_ := Aside0.mk (Kd.R_over' (v := (.slice (some ⟨gq, oq, none⟩) y.length cq)) HO_14.out (Kd.Q_typed hq) (by decide) hp2); have n2_ := Aside0.mk (Kd.R_over' (v := (.slice (some ⟨gq, oq, none⟩) y.length cq)) HO_15.out (Kd.Q_typed hq) (by decide) hp2); have n3_ := Aside0.mk ((by rw [hw]; exact below_set HB.out gbq : Below w.heap.size w w99)); have hx' := cell_grown hp2 hx (fun e_ => hgq (by injection e_ with e_; exact e_.symm)); obtain ⟨hz0, hz1⟩ := queue_cells hp1 (by rw [hyl]; exact hyp) (f0 := f0) (f1 := wrap64 (f1 - 1)) (by simp [rd_T55, List.getD_eq_getElem?_getD, hyp]); clear HO_13 HO_14 HO_15 HB hx hx0 hx1 hH hq hw hp1; have HO_13 := n0_; have HO_14 := n1_; have HO_15 := n2_; have HB := n3_; clear n0_ n1_ n2_ n3_)
                                | fail)
                               obtain ⟨gw, cw, ew, gbw, glw, clw, HGw⟩ := Kd.R_form HO_14.out (by omega)
                               (first | cases ew | (injection ew with ea_ en_ ec_; (first | subst ea_ | (injection ea_ with ea_; subst ea_)); subst ec_; clear en_))
                               have GBw := Aside0.mk gbw

                               (have p148 : 0 ≤ (x17_4 : Int) := c87); (obtain ⟨hx95_0, hf95_0⟩ := Kd.R_celln 0 HO_14.out (x17_4 : Int) c87 c93); (have HP102 := Kd.R_putn HO_14.out (x17_4 : Int) ji94); (have hx148_0 : w99.cell? ⟨gw, (x17_4).toNat, none⟩ = some (.int .i64 (rd x14_3 x17_4)) := hx95_0)
                               refine start_ (n := 16) (S := fun w' => w'.cell? ⟨gw, (x17_4).toNat, none⟩ = some (.int .i64 (rd x14_3 x17_4)) ∧ w'.cell? ⟨gq, oq, none⟩ = some (.int .i64 f0)) (ds := [15]) #[false, false, false, false, false, false, false, false, false, false, false, false, false, false, false, false] (by kernel_rfl) rfl rfl ⟨hx148_0, hz0⟩ (fun hHeld => ?_); refine with_tabW impl_play.tab32 impl_play.bits32 (fun HT_ HW_ => ?_)
                               (have n0_ := Aside0.mk (Kd.S_drew HO_13.out)); (have n1_ := Aside0.mk (Kd.R_drew HO_14.out)); (have n2_ := Aside0.mk (Kd.R_drew HO_15.out)); (have n3_ := Aside0.mk (below_drew1 HB.out)); (have n4_ : w99.drew.cell? ⟨gj, x17_4.toNat, none⟩ = _ := hx'); (have n5_ := Aside0.mk (blk_drew HGw)); (have n6_ := Aside0.mk (Kd.R_putn (Kd.R_drew HO_14.out) (x17_4 : Int) ji94)); (have n7_ : w99.drew.frozen? ⟨gw, (x17_4).toNat, none⟩ = false := hf95_0); clear HO_13 HO_14 HO_15 HB hx' hz0 hz1 hx148_0 hx95_0 hf95_0 HP102 HGw hp2
                               generalize w99.drew = w100 at n0_ n1_ n2_ n3_ n4_ n5_ n6_ n7_ hHeld ⊢
                               have hf95_0 := n7_
                               refine pure_ (i := 0) (N := some 185) (v := ?_) (a' := ?_) #[true, false, false, false, false, false, false, false, false, false, false, false, false, false, false, false] rfl rfl (any_of HT_.out (by kernel_rfl)) (fun _ _ _ h => h) (Or.inl ⟨by rfl, ?_⟩) ?_ ?_
                               rotate_left
                               · intro w'
                                 go_simp
                                 with_reducible rfl
                               rotate_left
                               · simp only [Act.put, List.setIfInBounds_toArray, List.set_cons_zero, List.set_cons_succ, i64_w, i32_w]
                                 rfl
                               refine pure_ (i := 1) (N := some 186) (v := ?_) (a' := ?_) #[true, true, false, false, false, false, false, false, false, false, false, false, false, false, false, false] rfl rfl (any_of HT_.out (by kernel_rfl)) (fun _ _ _ h => h) (Or.inl ⟨by rfl, ?_⟩) ?_ ?_
                               rotate_left
                               · intro w'
                                 go_simp
                                 with_reducible rfl
                               rotate_left
                               · simp only [Act.put, List.setIfInBounds_toArray, List.set_cons_zero, List.set_cons_succ, i64_w, i32_w]
                                 rfl
                               refine pure_ (i := 2) (N := some 187) (v := ?_) (a' := ?_) #[true, true, true, false, false, false, false, false, false, false, false, false, false, false, false, false] rfl rfl (any_of HT_.out (by kernel_rfl)) (fun _ _ _ h => h) (Or.inl ⟨by rfl, ?_⟩) ?_ ?_
                               rotate_left
                               · intro w'
                                 go_simp
                                 with_reducible rfl
                               rotate_left
                               · simp only [Act.put, List.setIfInBounds_toArray, List.set_cons_zero, List.set_cons_succ, i64_w, i32_w]
                                 rfl
                               refine pure_ (i := 3) (N := some 188) (v := ?_) (a' := ?_) #[true, true, true, true, false, false, false, false, false, false, false, false, false, false, false, false] rfl rfl (any_of HT_.out (by kernel_rfl)) (fun _ _ _ h => h) (Or.inl ⟨by rfl, ?_⟩) ?_ ?_
                               rotate_left
                               · intro w'
                                 go_simp
                                 with_reducible rfl
                               rotate_left
                               · simp only [Act.put, List.setIfInBounds_toArray, List.set_cons_zero, List.set_cons_succ, i64_w, i32_w]
                                 rfl
                               refine pure_ (i := 4) (N := some 189) (v := ?_) (a' := ?_) #[true, true, true, true, true, false, false, false, false, false, false, false, false, false, false, false] rfl rfl (any_of HT_.out (by kernel_rfl)) (fun _ _ _ h => h) (Or.inl ⟨by rfl, ?_⟩) ?_ ?_
                               rotate_left
                               · intro w'
                                 go_simp
                                 with_reducible rfl
                               rotate_left
                               · simp only [Act.put, List.setIfInBounds_toArray, List.set_cons_zero, List.set_cons_succ, i64_w, i32_w]
                                 rfl
                               refine pure_ (i := 6) (N := some 191) (v := ?_) (a' := ?_) #[true, true, true, true, true, false, true, false, false, false, false, false, false, false, false, false] rfl rfl (any_of HT_.out (by kernel_rfl)) (fun _ _ _ h => h) (Or.inl ⟨by rfl, ?_⟩) ?_ ?_
                               rotate_left
                               · intro w'
                                 go_simp
                                 with_reducible rfl
                               rotate_left
                               · simp only [Act.put, List.setIfInBounds_toArray, List.set_cons_zero, List.set_cons_succ, i64_w, i32_w]
                                 rfl
                               refine pure_ (i := 7) (N := some 192) (v := ?_) (a' := ?_) #[true, true, true, true, true, false, true, true, false, false, false, false, false, false, false, false] rfl rfl (any_of HT_.out (by kernel_rfl)) (fun _ _ _ h => h) (Or.inl ⟨by rfl, ?_⟩) ?_ ?_
                               rotate_left
                               · intro w'
                                 go_simp
                                 with_reducible rfl
                               rotate_left
                               · simp only [Act.put, List.setIfInBounds_toArray, List.set_cons_zero, List.set_cons_succ, i64_w, i32_w]
                                 rfl
                               refine pure_ (i := 8) (N := some 193) (v := ?_) (a' := ?_) #[true, true, true, true, true, false, true, true, true, false, false, false, false, false, false, false] rfl rfl (any_of HT_.out (by kernel_rfl)) (fun _ _ _ h => h) (Or.inl ⟨by rfl, ?_⟩) ?_ ?_
                               rotate_left
                               · intro w'
                                 go_simp
                                 with_reducible rfl
                               rotate_left
                               · simp only [Act.put, List.setIfInBounds_toArray, List.set_cons_zero, List.set_cons_succ, i64_w, i32_w]
                                 rfl
                               refine pure_ (i := 9) (N := some 194) (v := ?_) (a' := ?_) #[true, true, true, true, true, false, true, true, true, true, false, false, false, false, false, false] rfl rfl (any_of HT_.out (by kernel_rfl)) (fun _ _ _ h => h) (Or.inl ⟨by rfl, ?_⟩) ?_ ?_
                               rotate_left
                               · intro w'
                                 go_simp
                                 with_reducible rfl
                               rotate_left
                               · simp only [Act.put, List.setIfInBounds_toArray, List.set_cons_zero, List.set_cons_succ, i64_w, i32_w]
                                 rfl
                               refine pure_ (i := 10) (N := some 195) (v := ?_) (a' := ?_) #[true, true, true, true, true, false, true, true, true, true, true, false, false, false, false, false] rfl rfl (any_of HT_.out (by kernel_rfl)) (fun _ _ _ h => h) (Or.inl ⟨by rfl, ?_⟩) ?_ ?_
                               rotate_left
                               · intro w'
                                 go_simp
                                 with_reducible rfl
                               rotate_left
                               · simp only [Act.put, List.setIfInBounds_toArray, List.set_cons_zero, List.set_cons_succ, i64_w, i32_w]
                                 rfl
                               refine take_ (i := 5) (N := some 190) (v := ?_) (a' := ?_) #[true, true, true, true, true, true, true, true, true, true, true, false, false, false, false, false] rfl rfl (take_ofW HT_.out HW_.out (by kernel_rfl)) (fun _ _ _ h => h) (Or.inl ⟨by rfl, ?_⟩) hHeld ?_ ?_
                               rotate_left
                               · rintro w' ⟨s0, s1⟩
                                 go_simp
                                 with_reducible rfl
                               rotate_left
                               · simp only [Act.put, List.setIfInBounds_toArray, List.set_cons_zero, List.set_cons_succ, i64_w, i32_w]
                                 rfl
                               refine take_ (i := 11) (N := some 196) (v := ?_) (a' := ?_) #[true, true, true, true, true, true, true, true, true, true, true, true, false, false, false, false] rfl rfl (take_ofW HT_.out HW_.out (by kernel_rfl)) (fun _ _ _ h => h) (Or.inl ⟨by rfl, ?_⟩) hHeld ?_ ?_
                               rotate_left
                               · rintro w' ⟨s0, s1⟩
                                 go_simp
                                 with_reducible rfl
                               rotate_left
                               · simp only [Act.put, List.setIfInBounds_toArray, List.set_cons_zero, List.set_cons_succ, i64_w, i32_w]
                                 rfl
                               refine pure_ (i := 12) (N := some 197) (v := ?_) (a' := ?_) #[true, true, true, true, true, true, true, true, true, true, true, true, true, false, false, false] rfl rfl (any_of HT_.out (by kernel_rfl)) (fun _ _ _ h => h) (Or.inl ⟨by rfl, ?_⟩) ?_ ?_
                               rotate_left
                               · intro w'
                                 go_simp
                                 with_reducible rfl
                               rotate_left
                               · simp only [Act.put, List.setIfInBounds_toArray, List.set_cons_zero, List.set_cons_succ, i64_w, i32_w]
                                 rfl
                               refine pure_ (i := 13) (N := some 198) (v := ?_) (a' := ?_) #[true, true, true, true, true, true, true, true, true, true, true, true, true, true, false, false] rfl rfl (any_of HT_.out (by kernel_rfl)) (fun _ _ _ h => h) (Or.inl ⟨by rfl, ?_⟩) ?_ ?_
                               rotate_left
                               · intro w'
                                 go_simp
                                 with_reducible rfl
                               rotate_left
                               · simp only [Act.put, List.setIfInBounds_toArray, List.set_cons_zero, List.set_cons_succ, i64_w, i32_w]
                                 rfl
                               refine pure_ (i := 14) (N := some 199) (v := ?_) (a' := ?_) #[true, true, true, true, true, true, true, true, true, true, true, true, true, true, true, false] rfl rfl (any_of HT_.out (by kernel_rfl)) (fun _ _ _ h => h) (Or.inl ⟨by rfl, ?_⟩) ?_ ?_
                               rotate_left
                               · intro w'
                                 go_simp
                                 with_reducible rfl
                               rotate_left
                               · simp only [Act.put, List.setIfInBounds_toArray, List.set_cons_zero, List.set_cons_succ, i64_w, i32_w]
                                 rfl
                               refine last_ (i := 15) (N := none) #[true, true, true, true, true, true, true, true, true, true, true, true, true, true, true, true] rfl rfl (one_of HT_.out (by kernel_rfl)) (by decide) (fun K hK => ?_)
                               refine skip_ (w1 := ?_) (by rfl) rfl ?_ ?_
                               rotate_left
                               · go_simp
                                 rfl
                               refine hK.out _ _ ?_
                               clear hK K
                               refine done_ (done_of HT_.out (by kernel_rfl)) ?_
                               (have m0_ : Aside0 (Kd.S kq55 71 (w100.setCell ⟨gw, (x17_4 : Int).toNat, none⟩ (.int .i64 ji94)) w.heap.size (fun _ => True) (.slice (some ⟨gj, 0, none⟩) x13_4.length cj) (x13_4.set x17_4.toNat (y.set 0 (⟨f0, wrap64 (f1 - 1)⟩ : S55)))) := ⟨Kd.S_mono (Kd.S_far (p := ⟨gw, (x17_4 : Int).toNat, none⟩) (Kd.S_types n0_.out n5_.out (by decide)) (fun _ hk => hk.2) (.int .i64 ji94)) (fun _ hk => trivial)⟩); (have m2_ : Aside0 (Kd.R k59 59 (w100.setCell ⟨gw, (x17_4 : Int).toNat, none⟩ (.int .i64 ji94)) w.heap.size (fun _ => True) u15 x15_76) := ⟨Kd.R_mono (Kd.R_far (p := ⟨gw, (x17_4 : Int).toNat, none⟩) (Kd.R_types n2_.out n5_.out (by decide)) (fun _ hk => hk.2) (.int .i64 ji94)) (fun _ hk => trivial)⟩); (have m3_ : Aside0 (Below w.heap.size w (w100.setCell ⟨gw, (x17_4 : Int).toNat, none⟩ (.int .i64 ji94))) := ⟨below_set n3_.out GBw.out⟩); (have m4_ : (w100.setCell ⟨gw, (x17_4 : Int).toNat, none⟩ (.int .i64 ji94)).cell? ⟨gj, x17_4.toNat, none⟩ = some (.slice (some ⟨gq, oq, none⟩) y.length cq) := (World.cell?_setCell_other _ _ _ _ (fun e_ => Kd.S_ne n0_.out n5_.out (by decide) (by rw [show gw = gj from congrArg Addr.block e_]; rfl))).trans n4_); have m1_ := n6_; clear n0_ n1_ n2_ n3_ n4_ n5_ n6_ n7_ hf95_0 hHeld hji94 hji94_
                               generalize (w100.setCell ⟨gw, (x17_4 : Int).toNat, none⟩ (.int .i64 ji94)) = w103 at m0_ m1_ m2_ m3_ m4_ ⊢
                               have HO_13 := m0_; have HO_14 := m1_; have HO_15 := m2_; have HB := m3_; clear m0_ m1_ m2_ m3_; (have c88c : x17_4 < ((x13_4.set x17_4.toNat (y.set 0 (⟨f0, wrap64 (f1 - 1)⟩ : S55))).length : Int) := by rw [List.length_set]; exact c88); (obtain ⟨ok3, v3, hq3, hx3, hf3, hok3, hH3⟩ := whole_elem HO_13.out x17_4 c87 c88c); (obtain rfl := Option.some.inj (m4_.symm.trans hx3)); (rw [show rd_L3 (x13_4.set x17_4.toNat (y.set 0 (⟨f0, wrap64 (f1 - 1)⟩ : S55))) x17_4 = y.set 0 (⟨f0, wrap64 (f1 - 1)⟩ : S55) from by simp [rd_L3, List.getD_eq_getElem?_getD, show x17_4.toNat < x13_4.length by omega]] at hq3); (have hr3 := Kd.Q_drop (k := 1) hq3 (by rw [hyl]; omega)); (rw [List.drop_set_of_lt (by decide)] at hr3); (obtain ⟨i03, hi03, _, hsz3, _⟩ := info_parts info55); (have hcut3 := cut_from (P := Try.prog) 71 55 .i64 Try.underlying71 hi03 2 hsz3 (some ⟨gq, oq, none⟩) y.length cq 1 (by omega) (by omega)); (rw [show (1 : Int).toNat = 1 from rfl] at hcut3); (obtain ⟨A3, hA3⟩ : ∃ A1, A1 = (if cq = 1 then (some ⟨gq, oq, none⟩ : Option Addr) else (some (⟨gq, oq, none⟩ : Addr) : Option Addr).map (·.add (1 * 2))) := ⟨_, rfl⟩); (obtain ⟨n3, hn3⟩ : ∃ n1, n1 = y.length - 1 := ⟨_, rfl⟩); (obtain ⟨c3, hc3⟩ : ∃ c1, c1 = cq - 1 := ⟨_, rfl⟩); (rw [← hA3, ← hn3, ← hc3] at hcut3); (replace hr3 : Kd.Q k55 55 w103 w.heap.size ok3 (.slice A3 n3 c3) (y.drop 1) := by rw [hA3, hn3, hc3]; exact hr3); (have HP4 := whole_put hH3 c87 c88 hr3); (have hty3 := Kd.S_typed HO_13.out); clear hA3 hn3 hc3
                               go_wp2_with (first
                                | ((with_reducible refine gate_store (t := 71) (p := 207) rfl ?_); refine store_event (t := 71) (p := 207) (v := ?vo_w105) (w1 := (w103.setCell ⟨gj, x17_4.toNat, none⟩ (.slice A3 n3 c3))) ?hg ?ho ?hn ?hr ?_; (case ho => rfl); (case hg => rfl); (case hn => rfl); (case hr => first | (go_simp; done) | (go_simp; rfl)); intro w105 hw; rw [← hw] at HP4; have n0_ := Aside0.mk HP4.1; have n1_ := Aside0.mk (Kd.R_over' (v := (.slice (some ⟨gj, 0, none⟩) x13_4.length cj)) HO_14.out hty3 (by decide) HP4.2); have n2_ := Aside0.mk (Kd.R_over' (v := (.slice (some ⟨gj, 0, none⟩) x13_4.length cj)) HO_15.out hty3 (by decide) HP4.2); have n3_ := Aside0.mk ((by rw [hw]; exact below_set HB.out gb1 : Below w.heap.size w w105)); clear HO_13 HO_14 HO_15 HB hw hcut3; have HO_13 := n0_; have HO_14 := n1_; have HO_15 := n2_; have HB := n3_; clear n0_ n1_ n2_ n3_)
                                | fail)
                               go_roundg kj76
                               case measure => have := HJ4.out; have := HK2.out; have := HK3.out; have := HK4.out; have := HJ69.out; have := HJ76.out; omega
                               case rel => exact ⟨_, _, x15_76, (wrap64 (x54_3 + 1)), (by first | rfl | (simp; done) | (simp [*]; done)), H', ⟨by have := HJ4.out; have := HK2.out; have := HK3.out; have := HK4.out; have := HJ69.out; have := HJ76.out; omega⟩, ⟨by have h_ := HO_13.out; rw [List.set_set] at h_; exact h_⟩, ⟨HO_14.out⟩, ⟨HO_15.out⟩, ⟨HB.out⟩⟩
                             · rw [if_neg c92] at H
                               (have c92b0 : (wrap64 (f1 - 1) == 0) = false := beq_eq_false_iff_ne.mpr c92); clear c92; (have H' := Aside0.mk H); clear H
                               go_wp2_with (first
                                | ((with_reducible refine gate_store (t := 3) (p := 179) rfl ?_); refine store_event (t := 3) (p := 179) (v := ?vo_w99) (w1 := (wc.setCell ⟨gq, oq + 1, none⟩ (.int .i64 (wrap64 (f1 - 1))))) ?hg ?ho ?hn ?hr ?_; (case ho => rfl); (case hg => rfl); (case hn => rfl); (case hr => first | (go_simp; done) | (go_simp; rfl)); intro w99 hw; rw [← hw] at hp1 hp2; have n0_ := Aside0.mk (whole_back hH hp2 (fun k_ e_ => by injection e_ with e_; subst e_; exact hq.1 _ rfl) hp1); have n1_ := Aside0.mk (Kd.R_over' (v := (.slice (some ⟨gq, oq, none⟩) y.length cq)) HO_14.out (Kd.Q_typed hq) (by decide) hp2); have n2_ := Aside0.mk (Kd.R_over' (v := (.slice (some ⟨gq, oq, none⟩) y.length cq)) HO_15.out (Kd.Q_typed hq) (by decide) hp2); have n3_ := Aside0.mk ((by rw [hw]; exact below_set HB.out gbq : Below w.heap.size w w99)); have hx' := cell_grown hp2 hx (fun e_ => hgq (by injection e_ with e_; exact e_.symm)); obtain ⟨hz0, hz1⟩ := queue_cells hp1 (by rw [hyl]; exact hyp) (f0 := f0) (f1 := wrap64 (f1 - 1)) (by simp [rd_T55, List.getD_eq_getElem?_getD, hyp]); clear HO_13 HO_14 HO_15 HB hx hx0 hx1 hH hq hw hp1; have HO_13 := n0_; have HO_14 := n1_; have HO_15 := n2_; have HB := n3_; clear n0_ n1_ n2_ n3_)
                                | fail)
                               go_roundg kj76
                               case measure => have := HJ4.out; have := HK2.out; have := HK3.out; have := HK4.out; have := HJ69.out; have := HJ76.out; omega
                               case rel => exact ⟨_, x14_3, x15_76, (wrap64 (x54_3 + 1)), (by first | rfl | (simp; done) | (simp [*]; done)), H', ⟨by have := HJ4.out; have := HK2.out; have := HK3.out; have := HK4.out; have := HJ69.out; have := HJ76.out; omega⟩, ⟨HO_13.out⟩, ⟨HO_14.out⟩, ⟨HO_15.out⟩, ⟨HB.out⟩⟩
                 · rw [if_neg c26] at H
                   (have c26b0 : decide (x54_3 < a2) = false := decide_eq_false c26); clear c26; (simp only [Option.some.injEq, Prod.mk.injEq] at H); (obtain ⟨rfl, rfl, rfl⟩ := H)
                   go_wp2
                   go_ret3
                   exact ⟨_, _, by first | rfl | (simp [errW_none, errW_some] <;> rfl) | (simp [*, errW_none, errW_some] <;> rfl), by (with_reducible repeat (first | apply Kd.R_alloc | apply Kd.R_drewN | apply Kd.R_drew)); exact HO_15.out, by (with_reducible repeat (first | apply Kd.R_alloc | apply Kd.R_drewN | apply Kd.R_drew)); exact HO_14.out, by repeat (first | (with_reducible first | exact HB.out | apply below_alloc | apply pw_below_drewN | apply below_drew1) | exact HB.out)⟩
             · rw [if_neg c21] at H
               exact absurd H (by simp)
           · rw [if_neg c20] at H
             exact absurd H (by simp)
         · rw [if_neg c19] at H
           exact absurd H (by simp)

end Go.Proofs.Ytdbcoojibbboiaa.PFnRanked
