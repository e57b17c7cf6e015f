-- Written by this session's own program for the law FnStops; it began as the print's text.
import Derived.LoopN
import Derived.Test.YtkigjidjbjbjlaaQFnStopsx0
import Derived.Test.YtkigjidjbjbjlaaQFnStopsx5
namespace Go.Proofs.Ytkigjidjbjbjlaa.PFnStops
open Go.RowKit Go.Proofs.YtkigjidjbjbjlaaW.PrintWords Go.Proofs.YtkigjidjbjbjlaaW.PrintLast Go.Proofs.YtkigjidjbjbjlaaW.PrintMore
open Go.Proofs.YtkigjidjbjbjlaaW.PrintWords renaming pw_below_drewN → bN, below_set → bS, below_drew1 → bD, below_alloc → bA, blk_frozen → fZ, blk_cell → cZ, below_size → bZ, blk_drewN → kN, blk_alloc → kA, blk_drew → kD, below_step → bP, blk_below → kB
open Go.Proofs.YtkigjidjbjbjlaaW.PrintWords.Aside0 renaming mk → aM
attribute [local go_sem] max2_int min2_int max_two min_two max_three min_three max_four min_four   -- for this text's walks alone
set_option linter.unusedVariables false
set_option linter.unusedSimpArgs false

/-! ### spec_RunStops: function 10 -/
theorem wp_last_k {P : Program} {s : Code} {Q : Exit → Act → World → Prop} {a : Act} {w : World} (h : ∀ K : Act → World → Prop, (∀ a w, Q .normal a w → K a w) → s.wp P (Exit.then K Q) a w) : s.wp P Q a w := by
 refine wp_mono (h _ (fun _ _ q => q)) ?_
 intro e a w hq
 cases e <;> exact hq
mutual
def spec_RunStops.j0 : Nat → List (S36) → Int → Int → Int → Bool → Int → Int → Int → Int → Int → Option (List Int × List Bool × Bool)
 | 0, _, _, _, _, _, _, _, _, _, _ => none
 | k + 1, x1, x2, x3, x4, x57, x276000, x276001, x276002, x276003, x276004 => if x57 = true then (some (([] : List Int), ([] : List Bool), false)) else (spec_RunStops.l0 k x1 x2 x3 x4 0 x276004 ([] : List Int) ([] : List Bool) 0 x276000 x276001 x276002 x276003 x276004 true true)
def spec_RunStops.l0 : Nat → List (S36) → Int → Int → Int → Int → Int → List Int → List Bool → Int → Int → Int → Int → Int → Int → Bool → Bool → Option (List Int × List Bool × Bool)
 | 0, _, _, _, _, _, _, _, _, _, _, _, _, _, _, _, _ => none
 | k + 1, x1, x2, x3, x4, x14, x15, x16, x17, x18, x276000, x276001, x276002, x276003, x276004, x279000, x279001 => if x18 < x4 then (if x276002 = 0 then (none) else (if (Int.tmod x18 x276002) = 0 then (if x18 ≥ x3 then (spec_RunStops.j2 k x1 x2 x3 x4 x14 x15 x16 x17 x18 (decide (x18 ≥ x3)) (!(x2 == 5)) x276000 x276001 x276002 x276003 x276004 x279000 x279001) else (spec_RunStops.j2 k x1 x2 x3 x4 x14 x15 x16 x17 x18 (decide (x18 ≥ x3)) (!false) x276000 x276001 x276002 x276003 x276004 x279000 x279001)) else (spec_RunStops.j2 k x1 x2 x3 x4 x14 x15 x16 x17 x18 (decide (x18 ≥ x3)) false x276000 x276001 x276002 x276003 x276004 x279000 x279001))) else (some (x16, x17, true))
def spec_RunStops.j2 : Nat → List (S36) → Int → Int → Int → Int → Int → List Int → List Bool → Int → Bool → Bool → Int → Int → Int → Int → Int → Bool → Bool → Option (List Int × List Bool × Bool)
 | 0, _, _, _, _, _, _, _, _, _, _, _, _, _, _, _, _, _, _ => none
 | k + 1, x1, x2, x3, x4, x14, x15, x16, x17, x18, x19, x81, x276000, x276001, x276002, x276003, x276004, x279000, x279001 => if x81 = true then (spec_RunStops.j3 k x1 x2 x3 x4 x18 x15 x16 x17 x18 x19 x276000 x276001 x276002 x276003 x276004 x279000 x279001) else (spec_RunStops.j3 k x1 x2 x3 x4 x14 x15 x16 x17 x18 x19 x276000 x276001 x276002 x276003 x276004 x279000 x279001)
def spec_RunStops.j3 : Nat → List (S36) → Int → Int → Int → Int → Int → List Int → List Bool → Int → Bool → Int → Int → Int → Int → Int → Bool → Bool → Option (List Int × List Bool × Bool)
 | 0, _, _, _, _, _, _, _, _, _, _, _, _, _, _, _, _, _ => none
 | k + 1, x1, x2, x3, x4, x14, x15, x16, x17, x18, x19, x276000, x276001, x276002, x276003, x276004, x279000, x279001 => (spec_l26Seen.f k x1 (wrap64 (x18 - x276000))).bind fun t279 => (if x19 = true then (spec_RunStops.j4 k x1 x2 x3 x4 x14 x15 x16 x17 x18 x19 t279 (x2 == (1 + 0)) x276000 x276001 x276002 x276003 x276004 x279000 x279001) else (spec_RunStops.j4 k x1 x2 x3 x4 x14 x15 x16 x17 x18 x19 t279 false x276000 x276001 x276002 x276003 x276004 x279000 x279001))
def spec_RunStops.j4 : Nat → List (S36) → Int → Int → Int → Int → Int → List Int → List Bool → Int → Bool → Bool → Bool → Int → Int → Int → Int → Int → Bool → Bool → Option (List Int × List Bool × Bool)
 | 0, _, _, _, _, _, _, _, _, _, _, _, _, _, _, _, _, _, _, _ => none
 | k + 1, x1, x2, x3, x4, x14, x15, x16, x17, x18, x19, x20, x22, x276000, x276001, x276002, x276003, x276004, x279000, x279001 => if x20 = true then (if x22 = true then (spec_RunStops.j5 k x1 x2 x3 x4 x14 x15 x16 x17 x18 x19 x20 (decide ((wrap64 (x18 - x14)) > x276001)) x276000 x276001 x276002 x276003 x276004 x279000 x279001) else (spec_RunStops.j5 k x1 x2 x3 x4 x14 x15 x16 x17 x18 x19 x20 true x276000 x276001 x276002 x276003 x276004 x279000 x279001)) else (spec_RunStops.j5 k x1 x2 x3 x4 x14 x15 x16 x17 x18 x19 x20 (decide ((wrap64 (x18 - x14)) > x276001)) x276000 x276001 x276002 x276003 x276004 x279000 x279001)
def spec_RunStops.j5 : Nat → List (S36) → Int → Int → Int → Int → Int → List Int → List Bool → Int → Bool → Bool → Bool → Int → Int → Int → Int → Int → Bool → Bool → Option (List Int × List Bool × Bool)
 | 0, _, _, _, _, _, _, _, _, _, _, _, _, _, _, _, _, _, _, _ => none
 | k + 1, x1, x2, x3, x4, x14, x15, x16, x17, x18, x19, x20, x112, x276000, x276001, x276002, x276003, x276004, x279000, x279001 => if x112 = true then (spec_RunStops.j6 k x1 x2 x3 x4 x14 x15 x16 x17 x18 x19 x20 x276000 x276001 x276002 x276003 x276004 false x279001) else (spec_RunStops.j6 k x1 x2 x3 x4 x14 x15 x16 x17 x18 x19 x20 x276000 x276001 x276002 x276003 x276004 x279000 x279001)
def spec_RunStops.j6 : Nat → List (S36) → Int → Int → Int → Int → Int → List Int → List Bool → Int → Bool → Bool → Int → Int → Int → Int → Int → Bool → Bool → Option (List Int × List Bool × Bool)
 | 0, _, _, _, _, _, _, _, _, _, _, _, _, _, _, _, _, _, _ => none
 | k + 1, x1, x2, x3, x4, x14, x15, x16, x17, x18, x19, x20, x276000, x276001, x276002, x276003, x276004, x279000, x279001 => if x19 = true then (spec_RunStops.j7 k x1 x2 x3 x4 x14 x15 x16 x17 x18 x19 x20 (x2 == (1 + 1)) x276000 x276001 x276002 x276003 x276004 x279000 x279001) else (spec_RunStops.j7 k x1 x2 x3 x4 x14 x15 x16 x17 x18 x19 x20 false x276000 x276001 x276002 x276003 x276004 x279000 x279001)
def spec_RunStops.j7 : Nat → List (S36) → Int → Int → Int → Int → Int → List Int → List Bool → Int → Bool → Bool → Bool → Int → Int → Int → Int → Int → Bool → Bool → Option (List Int × List Bool × Bool)
 | 0, _, _, _, _, _, _, _, _, _, _, _, _, _, _, _, _, _, _, _ => none
 | k + 1, x1, x2, x3, x4, x14, x15, x16, x17, x18, x19, x20, x22, x276000, x276001, x276002, x276003, x276004, x279000, x279001 => if x20 = true then (if x22 = true then (spec_RunStops.j8 k x1 x2 x3 x4 x14 x15 x16 x17 x18 x19 (decide ((wrap64 (x18 - x14)) > x276001)) x276000 x276001 x276002 x276003 x276004 x279000 x279001) else (spec_RunStops.j8 k x1 x2 x3 x4 x14 x15 x16 x17 x18 x19 true x276000 x276001 x276002 x276003 x276004 x279000 x279001)) else (spec_RunStops.j8 k x1 x2 x3 x4 x14 x15 x16 x17 x18 x19 (decide ((wrap64 (x18 - x14)) > x276001)) x276000 x276001 x276002 x276003 x276004 x279000 x279001)
def spec_RunStops.j8 : Nat → List (S36) → Int → Int → Int → Int → Int → List Int → List Bool → Int → Bool → Bool → Int → Int → Int → Int → Int → Bool → Bool → Option (List Int × List Bool × Bool)
 | 0, _, _, _, _, _, _, _, _, _, _, _, _, _, _, _, _, _, _ => none
 | k + 1, x1, x2, x3, x4, x14, x15, x16, x17, x18, x19, x112, x276000, x276001, x276002, x276003, x276004, x279000, x279001 => if x112 = true then (spec_RunStops.j9 k x1 x2 x3 x4 x14 x15 x16 x17 x18 x19 x276000 x276001 x276002 x276003 x276004 x279000 false) else (spec_RunStops.j9 k x1 x2 x3 x4 x14 x15 x16 x17 x18 x19 x276000 x276001 x276002 x276003 x276004 x279000 x279001)
def spec_RunStops.j9 : Nat → List (S36) → Int → Int → Int → Int → Int → List Int → List Bool → Int → Bool → Int → Int → Int → Int → Int → Bool → Bool → Option (List Int × List Bool × Bool)
 | 0, _, _, _, _, _, _, _, _, _, _, _, _, _, _, _, _, _ => none
 | k + 1, x1, x2, x3, x4, x14, x15, x16, x17, x18, x19, x276000, x276001, x276002, x276003, x276004, x279000, x279001 => if x19 = true then (spec_RunStops.j10 k x1 x2 x3 x4 x14 x15 x16 x17 x18 x19 true (x2 == (3 + 0)) x276000 x276001 x276002 x276003 x276004 x279000 x279001) else (spec_RunStops.j10 k x1 x2 x3 x4 x14 x15 x16 x17 x18 x19 true false x276000 x276001 x276002 x276003 x276004 x279000 x279001)
def spec_RunStops.j10 : Nat → List (S36) → Int → Int → Int → Int → Int → List Int → List Bool → Int → Bool → Bool → Bool → Int → Int → Int → Int → Int → Bool → Bool → Option (List Int × List Bool × Bool)
 | 0, _, _, _, _, _, _, _, _, _, _, _, _, _, _, _, _, _, _, _ => none
 | k + 1, x1, x2, x3, x4, x14, x15, x16, x17, x18, x19, x23, x25, x276000, x276001, x276002, x276003, x276004, x279000, x279001 => if x23 = true then (if x279000 = true then (spec_RunStops.j11 k x1 x2 x3 x4 x14 x15 x16 x17 x18 x19 true x276000 x276001 x276002 x276003 x276004 x279000 x279001) else (spec_RunStops.j11 k x1 x2 x3 x4 x14 x15 x16 x17 x18 x19 x25 x276000 x276001 x276002 x276003 x276004 x279000 x279001)) else (spec_RunStops.j11 k x1 x2 x3 x4 x14 x15 x16 x17 x18 x19 false x276000 x276001 x276002 x276003 x276004 x279000 x279001)
def spec_RunStops.j11 : Nat → List (S36) → Int → Int → Int → Int → Int → List Int → List Bool → Int → Bool → Bool → Int → Int → Int → Int → Int → Bool → Bool → Option (List Int × List Bool × Bool)
 | 0, _, _, _, _, _, _, _, _, _, _, _, _, _, _, _, _, _, _ => none
 | k + 1, x1, x2, x3, x4, x14, x15, x16, x17, x18, x19, x23, x276000, x276001, x276002, x276003, x276004, x279000, x279001 => if x19 = true then (spec_RunStops.j12 k x1 x2 x3 x4 x14 x15 x16 x17 x18 x23 (x2 == (3 + 1)) x276000 x276001 x276002 x276003 x276004 x279000 x279001) else (spec_RunStops.j12 k x1 x2 x3 x4 x14 x15 x16 x17 x18 x23 false x276000 x276001 x276002 x276003 x276004 x279000 x279001)
def spec_RunStops.j12 : Nat → List (S36) → Int → Int → Int → Int → Int → List Int → List Bool → Int → Bool → Bool → Int → Int → Int → Int → Int → Bool → Bool → Option (List Int × List Bool × Bool)
 | 0, _, _, _, _, _, _, _, _, _, _, _, _, _, _, _, _, _, _ => none
 | k + 1, x1, x2, x3, x4, x14, x15, x16, x17, x18, x23, x25, x276000, x276001, x276002, x276003, x276004, x279000, x279001 => if x23 = true then (if x279001 = true then (spec_RunStops.j13 k x1 x2 x3 x4 x14 x15 x16 x17 x18 true x276000 x276001 x276002 x276003 x276004 x279000 x279001) else (spec_RunStops.j13 k x1 x2 x3 x4 x14 x15 x16 x17 x18 x25 x276000 x276001 x276002 x276003 x276004 x279000 x279001)) else (spec_RunStops.j13 k x1 x2 x3 x4 x14 x15 x16 x17 x18 false x276000 x276001 x276002 x276003 x276004 x279000 x279001)
def spec_RunStops.j13 : Nat → List (S36) → Int → Int → Int → Int → Int → List Int → List Bool → Int → Bool → Int → Int → Int → Int → Int → Bool → Bool → Option (List Int × List Bool × Bool)
 | 0, _, _, _, _, _, _, _, _, _, _, _, _, _, _, _, _, _ => none
 | k + 1, x1, x2, x3, x4, x14, x15, x16, x17, x18, x23, x276000, x276001, x276002, x276003, x276004, x279000, x279001 => if x23 = true then ((spec_l13Cut.f (wrap64 (x15 + x276003)) 0 x276004).bind fun t280 => (if x16.length < 17592186044416 then (if x17.length < 140737488355328 then (spec_RunStops.l0 k x1 x2 x3 x4 x14 t280 (x16 ++ [t280]) (x17 ++ [x23]) (wrap64 (x18 + 1)) x276000 x276001 x276002 x276003 x276004 x279000 x279001) else (none)) else (none))) else ((spec_l13Cut.f (wrap64 (x15 - x276003)) 0 x276004).bind fun t287 => (if x16.length < 17592186044416 then (if x17.length < 140737488355328 then (spec_RunStops.l0 k x1 x2 x3 x4 x14 t287 (x16 ++ [t287]) (x17 ++ [x23]) (wrap64 (x18 + 1)) x276000 x276001 x276002 x276003 x276004 x279000 x279001) else (none)) else (none)))
end
def spec_RunStops.f (k : Nat) (a0_0 : Int) (a0_1 : Int) (a0_2 : Int) (a0_3 : Int) (a0_4 : Int) (l1 : List (S36)) (a2 : Int) (a3 : Int) (a4 : Int) : Option (List Int × List Bool × Bool) := (spec_GoodGear.f a0_0 a0_1 a0_2 a0_3 a0_4).bind fun t276 => (if t276 = true then ((spec_l26Presses.f k l1).bind fun t277 => (if t277 = true then (if a2 < 0 then (spec_RunStops.j0 k l1 a2 a3 a4 true a0_0 a0_1 a0_2 a0_3 a0_4) else (if a2 > 5 then (spec_RunStops.j0 k l1 a2 a3 a4 true a0_0 a0_1 a0_2 a0_3 a0_4) else (if a3 < 0 then (spec_RunStops.j0 k l1 a2 a3 a4 true a0_0 a0_1 a0_2 a0_3 a0_4) else (if a3 > 200 then (spec_RunStops.j0 k l1 a2 a3 a4 true a0_0 a0_1 a0_2 a0_3 a0_4) else (if a4 < 0 then (spec_RunStops.j0 k l1 a2 a3 a4 true a0_0 a0_1 a0_2 a0_3 a0_4) else (spec_RunStops.j0 k l1 a2 a3 a4 (decide (a4 > 200)) a0_0 a0_1 a0_2 a0_3 a0_4)))))) else (spec_RunStops.j0 k l1 a2 a3 a4 true a0_0 a0_1 a0_2 a0_3 a0_4))) else (spec_RunStops.j0 k l1 a2 a3 a4 true a0_0 a0_1 a0_2 a0_3 a0_4))
theorem spec_RunStops.mono_l : ∀ k, (∀ y0 y1 y2 y3 y4 y5 y6 y7 y8 y9, LeO (spec_RunStops.j0 k y0 y1 y2 y3 y4 y5 y6 y7 y8 y9) (spec_RunStops.j0 (k + 1) y0 y1 y2 y3 y4 y5 y6 y7 y8 y9)) ∧ (∀ y0 y1 y2 y3 y4 y5 y6 y7 y8 y9 y10 y11 y12 y13 y14 y15, LeO (spec_RunStops.l0 k y0 y1 y2 y3 y4 y5 y6 y7 y8 y9 y10 y11 y12 y13 y14 y15) (spec_RunStops.l0 (k + 1) y0 y1 y2 y3 y4 y5 y6 y7 y8 y9 y10 y11 y12 y13 y14 y15)) ∧ (∀ y0 y1 y2 y3 y4 y5 y6 y7 y8 y9 y10 y11 y12 y13 y14 y15 y16 y17, LeO (spec_RunStops.j2 k y0 y1 y2 y3 y4 y5 y6 y7 y8 y9 y10 y11 y12 y13 y14 y15 y16 y17) (spec_RunStops.j2 (k + 1) y0 y1 y2 y3 y4 y5 y6 y7 y8 y9 y10 y11 y12 y13 y14 y15 y16 y17)) ∧ (∀ y0 y1 y2 y3 y4 y5 y6 y7 y8 y9 y10 y11 y12 y13 y14 y15 y16, LeO (spec_RunStops.j3 k y0 y1 y2 y3 y4 y5 y6 y7 y8 y9 y10 y11 y12 y13 y14 y15 y16) (spec_RunStops.j3 (k + 1) y0 y1 y2 y3 y4 y5 y6 y7 y8 y9 y10 y11 y12 y13 y14 y15 y16)) ∧ (∀ y0 y1 y2 y3 y4 y5 y6 y7 y8 y9 y10 y11 y12 y13 y14 y15 y16 y17 y18, LeO (spec_RunStops.j4 k y0 y1 y2 y3 y4 y5 y6 y7 y8 y9 y10 y11 y12 y13 y14 y15 y16 y17 y18) (spec_RunStops.j4 (k + 1) y0 y1 y2 y3 y4 y5 y6 y7 y8 y9 y10 y11 y12 y13 y14 y15 y16 y17 y18)) ∧ (∀ y0 y1 y2 y3 y4 y5 y6 y7 y8 y9 y10 y11 y12 y13 y14 y15 y16 y17 y18, LeO (spec_RunStops.j5 k y0 y1 y2 y3 y4 y5 y6 y7 y8 y9 y10 y11 y12 y13 y14 y15 y16 y17 y18) (spec_RunStops.j5 (k + 1) y0 y1 y2 y3 y4 y5 y6 y7 y8 y9 y10 y11 y12 y13 y14 y15 y16 y17 y18)) ∧ (∀ y0 y1 y2 y3 y4 y5 y6 y7 y8 y9 y10 y11 y12 y13 y14 y15 y16 y17, LeO (spec_RunStops.j6 k y0 y1 y2 y3 y4 y5 y6 y7 y8 y9 y10 y11 y12 y13 y14 y15 y16 y17) (spec_RunStops.j6 (k + 1) y0 y1 y2 y3 y4 y5 y6 y7 y8 y9 y10 y11 y12 y13 y14 y15 y16 y17)) ∧ (∀ y0 y1 y2 y3 y4 y5 y6 y7 y8 y9 y10 y11 y12 y13 y14 y15 y16 y17 y18, LeO (spec_RunStops.j7 k y0 y1 y2 y3 y4 y5 y6 y7 y8 y9 y10 y11 y12 y13 y14 y15 y16 y17 y18) (spec_RunStops.j7 (k + 1) y0 y1 y2 y3 y4 y5 y6 y7 y8 y9 y10 y11 y12 y13 y14 y15 y16 y17 y18)) ∧ (∀ y0 y1 y2 y3 y4 y5 y6 y7 y8 y9 y10 y11 y12 y13 y14 y15 y16 y17, LeO (spec_RunStops.j8 k y0 y1 y2 y3 y4 y5 y6 y7 y8 y9 y10 y11 y12 y13 y14 y15 y16 y17) (spec_RunStops.j8 (k + 1) y0 y1 y2 y3 y4 y5 y6 y7 y8 y9 y10 y11 y12 y13 y14 y15 y16 y17)) ∧ (∀ y0 y1 y2 y3 y4 y5 y6 y7 y8 y9 y10 y11 y12 y13 y14 y15 y16, LeO (spec_RunStops.j9 k y0 y1 y2 y3 y4 y5 y6 y7 y8 y9 y10 y11 y12 y13 y14 y15 y16) (spec_RunStops.j9 (k + 1) y0 y1 y2 y3 y4 y5 y6 y7 y8 y9 y10 y11 y12 y13 y14 y15 y16)) ∧ (∀ y0 y1 y2 y3 y4 y5 y6 y7 y8 y9 y10 y11 y12 y13 y14 y15 y16 y17 y18, LeO (spec_RunStops.j10 k y0 y1 y2 y3 y4 y5 y6 y7 y8 y9 y10 y11 y12 y13 y14 y15 y16 y17 y18) (spec_RunStops.j10 (k + 1) y0 y1 y2 y3 y4 y5 y6 y7 y8 y9 y10 y11 y12 y13 y14 y15 y16 y17 y18)) ∧ (∀ y0 y1 y2 y3 y4 y5 y6 y7 y8 y9 y10 y11 y12 y13 y14 y15 y16 y17, LeO (spec_RunStops.j11 k y0 y1 y2 y3 y4 y5 y6 y7 y8 y9 y10 y11 y12 y13 y14 y15 y16 y17) (spec_RunStops.j11 (k + 1) y0 y1 y2 y3 y4 y5 y6 y7 y8 y9 y10 y11 y12 y13 y14 y15 y16 y17)) ∧ (∀ y0 y1 y2 y3 y4 y5 y6 y7 y8 y9 y10 y11 y12 y13 y14 y15 y16 y17, LeO (spec_RunStops.j12 k y0 y1 y2 y3 y4 y5 y6 y7 y8 y9 y10 y11 y12 y13 y14 y15 y16 y17) (spec_RunStops.j12 (k + 1) y0 y1 y2 y3 y4 y5 y6 y7 y8 y9 y10 y11 y12 y13 y14 y15 y16 y17)) ∧ (∀ y0 y1 y2 y3 y4 y5 y6 y7 y8 y9 y10 y11 y12 y13 y14 y15 y16, LeO (spec_RunStops.j13 k y0 y1 y2 y3 y4 y5 y6 y7 y8 y9 y10 y11 y12 y13 y14 y15 y16) (spec_RunStops.j13 (k + 1) y0 y1 y2 y3 y4 y5 y6 y7 y8 y9 y10 y11 y12 y13 y14 y15 y16))
 | 0 => ⟨fun _ _ _ _ _ _ _ _ _ _ r h => by simp [spec_RunStops.j0] at h, fun _ _ _ _ _ _ _ _ _ _ _ _ _ _ _ _ r h => by simp [spec_RunStops.l0] at h, fun _ _ _ _ _ _ _ _ _ _ _ _ _ _ _ _ _ _ r h => by simp [spec_RunStops.j2] at h, fun _ _ _ _ _ _ _ _ _ _ _ _ _ _ _ _ _ r h => by simp [spec_RunStops.j3] at h, fun _ _ _ _ _ _ _ _ _ _ _ _ _ _ _ _ _ _ _ r h => by simp [spec_RunStops.j4] at h, fun _ _ _ _ _ _ _ _ _ _ _ _ _ _ _ _ _ _ _ r h => by simp [spec_RunStops.j5] at h, fun _ _ _ _ _ _ _ _ _ _ _ _ _ _ _ _ _ _ r h => by simp [spec_RunStops.j6] at h, fun _ _ _ _ _ _ _ _ _ _ _ _ _ _ _ _ _ _ _ r h => by simp [spec_RunStops.j7] at h, fun _ _ _ _ _ _ _ _ _ _ _ _ _ _ _ _ _ _ r h => by simp [spec_RunStops.j8] at h, fun _ _ _ _ _ _ _ _ _ _ _ _ _ _ _ _ _ r h => by simp [spec_RunStops.j9] at h, fun _ _ _ _ _ _ _ _ _ _ _ _ _ _ _ _ _ _ _ r h => by simp [spec_RunStops.j10] at h, fun _ _ _ _ _ _ _ _ _ _ _ _ _ _ _ _ _ _ r h => by simp [spec_RunStops.j11] at h, fun _ _ _ _ _ _ _ _ _ _ _ _ _ _ _ _ _ _ r h => by simp [spec_RunStops.j12] at h, fun _ _ _ _ _ _ _ _ _ _ _ _ _ _ _ _ _ r h => by simp [spec_RunStops.j13] at h⟩
 | k + 1 => by
  obtain ⟨ih0, ih1, ih2, ih3, ih4, ih5, ih6, ih7, ih8, ih9, ih10, ih11, ih12, ih13⟩ := spec_RunStops.mono_l k
  refine ⟨?_, ?_, ?_, ?_, ?_, ?_, ?_, ?_, ?_, ?_, ?_, ?_, ?_, ?_⟩
  · intro y0 y1 y2 y3 y4 y5 y6 y7 y8 y9
    unfold spec_RunStops.j0
    repeat' first
    | (with_reducible exact ih0 _ _ _ _ _ _ _ _ _ _)
    | (with_reducible exact ih1 _ _ _ _ _ _ _ _ _ _ _ _ _ _ _ _)
    | (with_reducible exact ih2 _ _ _ _ _ _ _ _ _ _ _ _ _ _ _ _ _ _)
    | (with_reducible exact ih3 _ _ _ _ _ _ _ _ _ _ _ _ _ _ _ _ _)
    | (with_reducible exact ih4 _ _ _ _ _ _ _ _ _ _ _ _ _ _ _ _ _ _ _)
    | (with_reducible exact ih5 _ _ _ _ _ _ _ _ _ _ _ _ _ _ _ _ _ _ _)
    | (with_reducible exact ih6 _ _ _ _ _ _ _ _ _ _ _ _ _ _ _ _ _ _)
    | (with_reducible exact ih7 _ _ _ _ _ _ _ _ _ _ _ _ _ _ _ _ _ _ _)
    | (with_reducible exact ih8 _ _ _ _ _ _ _ _ _ _ _ _ _ _ _ _ _ _)
    | (with_reducible exact ih9 _ _ _ _ _ _ _ _ _ _ _ _ _ _ _ _ _)
    | (with_reducible exact ih10 _ _ _ _ _ _ _ _ _ _ _ _ _ _ _ _ _ _ _)
    | (with_reducible exact ih11 _ _ _ _ _ _ _ _ _ _ _ _ _ _ _ _ _ _)
    | (with_reducible exact ih12 _ _ _ _ _ _ _ _ _ _ _ _ _ _ _ _ _ _)
    | (with_reducible exact ih13 _ _ _ _ _ _ _ _ _ _ _ _ _ _ _ _ _)
    | (with_reducible exact spec_l26Presses.mono _ _)
    | (with_reducible exact spec_l26Seen.mono _ _ _)
    | (with_reducible exact LeO.refl _)
    | (with_reducible exact LeO.none _)
    | (with_reducible refine LeO.ite ?_ ?_)
    | (with_reducible refine LeO.bind ?_ (fun _ => ?_))
    | exact ih0 _ _ _ _ _ _ _ _ _ _
    | exact ih1 _ _ _ _ _ _ _ _ _ _ _ _ _ _ _ _
    | exact ih2 _ _ _ _ _ _ _ _ _ _ _ _ _ _ _ _ _ _
    | exact ih3 _ _ _ _ _ _ _ _ _ _ _ _ _ _ _ _ _
    | exact ih4 _ _ _ _ _ _ _ _ _ _ _ _ _ _ _ _ _ _ _
    | exact ih5 _ _ _ _ _ _ _ _ _ _ _ _ _ _ _ _ _ _ _
    | exact ih6 _ _ _ _ _ _ _ _ _ _ _ _ _ _ _ _ _ _
    | exact ih7 _ _ _ _ _ _ _ _ _ _ _ _ _ _ _ _ _ _ _
    | exact ih8 _ _ _ _ _ _ _ _ _ _ _ _ _ _ _ _ _ _
    | exact ih9 _ _ _ _ _ _ _ _ _ _ _ _ _ _ _ _ _
    | exact ih10 _ _ _ _ _ _ _ _ _ _ _ _ _ _ _ _ _ _ _
    | exact ih11 _ _ _ _ _ _ _ _ _ _ _ _ _ _ _ _ _ _
    | exact ih12 _ _ _ _ _ _ _ _ _ _ _ _ _ _ _ _ _ _
    | exact ih13 _ _ _ _ _ _ _ _ _ _ _ _ _ _ _ _ _
    | exact spec_l26Presses.mono _ _
    | exact spec_l26Seen.mono _ _ _
    | exact LeO.none _
    | refine LeO.ite ?_ ?_
    | refine LeO.bind ?_ (fun _ => ?_)
  · intro y0 y1 y2 y3 y4 y5 y6 y7 y8 y9 y10 y11 y12 y13 y14 y15
    unfold spec_RunStops.l0
    repeat' first
    | (with_reducible exact ih0 _ _ _ _ _ _ _ _ _ _)
    | (with_reducible exact ih1 _ _ _ _ _ _ _ _ _ _ _ _ _ _ _ _)
    | (with_reducible exact ih2 _ _ _ _ _ _ _ _ _ _ _ _ _ _ _ _ _ _)
    | (with_reducible exact ih3 _ _ _ _ _ _ _ _ _ _ _ _ _ _ _ _ _)
    | (with_reducible exact ih4 _ _ _ _ _ _ _ _ _ _ _ _ _ _ _ _ _ _ _)
    | (with_reducible exact ih5 _ _ _ _ _ _ _ _ _ _ _ _ _ _ _ _ _ _ _)
    | (with_reducible exact ih6 _ _ _ _ _ _ _ _ _ _ _ _ _ _ _ _ _ _)
    | (with_reducible exact ih7 _ _ _ _ _ _ _ _ _ _ _ _ _ _ _ _ _ _ _)
    | (with_reducible exact ih8 _ _ _ _ _ _ _ _ _ _ _ _ _ _ _ _ _ _)
    | (with_reducible exact ih9 _ _ _ _ _ _ _ _ _ _ _ _ _ _ _ _ _)
    | (with_reducible exact ih10 _ _ _ _ _ _ _ _ _ _ _ _ _ _ _ _ _ _ _)
    | (with_reducible exact ih11 _ _ _ _ _ _ _ _ _ _ _ _ _ _ _ _ _ _)
    | (with_reducible exact ih12 _ _ _ _ _ _ _ _ _ _ _ _ _ _ _ _ _ _)
    | (with_reducible exact ih13 _ _ _ _ _ _ _ _ _ _ _ _ _ _ _ _ _)
    | (with_reducible exact spec_l26Presses.mono _ _)
    | (with_reducible exact spec_l26Seen.mono _ _ _)
    | (with_reducible exact LeO.refl _)
    | (with_reducible exact LeO.none _)
    | (with_reducible refine LeO.ite ?_ ?_)
    | (with_reducible refine LeO.bind ?_ (fun _ => ?_))
    | exact ih0 _ _ _ _ _ _ _ _ _ _
    | exact ih1 _ _ _ _ _ _ _ _ _ _ _ _ _ _ _ _
    | exact ih2 _ _ _ _ _ _ _ _ _ _ _ _ _ _ _ _ _ _
    | exact ih3 _ _ _ _ _ _ _ _ _ _ _ _ _ _ _ _ _
    | exact ih4 _ _ _ _ _ _ _ _ _ _ _ _ _ _ _ _ _ _ _
    | exact ih5 _ _ _ _ _ _ _ _ _ _ _ _ _ _ _ _ _ _ _
    | exact ih6 _ _ _ _ _ _ _ _ _ _ _ _ _ _ _ _ _ _
    | exact ih7 _ _ _ _ _ _ _ _ _ _ _ _ _ _ _ _ _ _ _
    | exact ih8 _ _ _ _ _ _ _ _ _ _ _ _ _ _ _ _ _ _
    | exact ih9 _ _ _ _ _ _ _ _ _ _ _ _ _ _ _ _ _
    | exact ih10 _ _ _ _ _ _ _ _ _ _ _ _ _ _ _ _ _ _ _
    | exact ih11 _ _ _ _ _ _ _ _ _ _ _ _ _ _ _ _ _ _
    | exact ih12 _ _ _ _ _ _ _ _ _ _ _ _ _ _ _ _ _ _
    | exact ih13 _ _ _ _ _ _ _ _ _ _ _ _ _ _ _ _ _
    | exact spec_l26Presses.mono _ _
    | exact spec_l26Seen.mono _ _ _
    | exact LeO.none _
    | refine LeO.ite ?_ ?_
    | refine LeO.bind ?_ (fun _ => ?_)
  · intro y0 y1 y2 y3 y4 y5 y6 y7 y8 y9 y10 y11 y12 y13 y14 y15 y16 y17
    unfold spec_RunStops.j2
    repeat' first
    | (with_reducible exact ih0 _ _ _ _ _ _ _ _ _ _)
    | (with_reducible exact ih1 _ _ _ _ _ _ _ _ _ _ _ _ _ _ _ _)
    | (with_reducible exact ih2 _ _ _ _ _ _ _ _ _ _ _ _ _ _ _ _ _ _)
    | (with_reducible exact ih3 _ _ _ _ _ _ _ _ _ _ _ _ _ _ _ _ _)
    | (with_reducible exact ih4 _ _ _ _ _ _ _ _ _ _ _ _ _ _ _ _ _ _ _)
    | (with_reducible exact ih5 _ _ _ _ _ _ _ _ _ _ _ _ _ _ _ _ _ _ _)
    | (with_reducible exact ih6 _ _ _ _ _ _ _ _ _ _ _ _ _ _ _ _ _ _)
    | (with_reducible exact ih7 _ _ _ _ _ _ _ _ _ _ _ _ _ _ _ _ _ _ _)
    | (with_reducible exact ih8 _ _ _ _ _ _ _ _ _ _ _ _ _ _ _ _ _ _)
    | (with_reducible exact ih9 _ _ _ _ _ _ _ _ _ _ _ _ _ _ _ _ _)
    | (with_reducible exact ih10 _ _ _ _ _ _ _ _ _ _ _ _ _ _ _ _ _ _ _)
    | (with_reducible exact ih11 _ _ _ _ _ _ _ _ _ _ _ _ _ _ _ _ _ _)
    | (with_reducible exact ih12 _ _ _ _ _ _ _ _ _ _ _ _ _ _ _ _ _ _)
    | (with_reducible exact ih13 _ _ _ _ _ _ _ _ _ _ _ _ _ _ _ _ _)
    | (with_reducible exact spec_l26Presses.mono _ _)
    | (with_reducible exact spec_l26Seen.mono _ _ _)
    | (with_reducible exact LeO.refl _)
    | (with_reducible exact LeO.none _)
    | (with_reducible refine LeO.ite ?_ ?_)
    | (with_reducible refine LeO.bind ?_ (fun _ => ?_))
    | exact ih0 _ _ _ _ _ _ _ _ _ _
    | exact ih1 _ _ _ _ _ _ _ _ _ _ _ _ _ _ _ _
    | exact ih2 _ _ _ _ _ _ _ _ _ _ _ _ _ _ _ _ _ _
    | exact ih3 _ _ _ _ _ _ _ _ _ _ _ _ _ _ _ _ _
    | exact ih4 _ _ _ _ _ _ _ _ _ _ _ _ _ _ _ _ _ _ _
    | exact ih5 _ _ _ _ _ _ _ _ _ _ _ _ _ _ _ _ _ _ _
    | exact ih6 _ _ _ _ _ _ _ _ _ _ _ _ _ _ _ _ _ _
    | exact ih7 _ _ _ _ _ _ _ _ _ _ _ _ _ _ _ _ _ _ _
    | exact ih8 _ _ _ _ _ _ _ _ _ _ _ _ _ _ _ _ _ _
    | exact ih9 _ _ _ _ _ _ _ _ _ _ _ _ _ _ _ _ _
    | exact ih10 _ _ _ _ _ _ _ _ _ _ _ _ _ _ _ _ _ _ _
    | exact ih11 _ _ _ _ _ _ _ _ _ _ _ _ _ _ _ _ _ _
    | exact ih12 _ _ _ _ _ _ _ _ _ _ _ _ _ _ _ _ _ _
    | exact ih13 _ _ _ _ _ _ _ _ _ _ _ _ _ _ _ _ _
    | exact spec_l26Presses.mono _ _
    | exact spec_l26Seen.mono _ _ _
    | exact LeO.none _
    | refine LeO.ite ?_ ?_
    | refine LeO.bind ?_ (fun _ => ?_)
  · intro y0 y1 y2 y3 y4 y5 y6 y7 y8 y9 y10 y11 y12 y13 y14 y15 y16
    unfold spec_RunStops.j3
    repeat' first
    | (with_reducible exact ih0 _ _ _ _ _ _ _ _ _ _)
    | (with_reducible exact ih1 _ _ _ _ _ _ _ _ _ _ _ _ _ _ _ _)
    | (with_reducible exact ih2 _ _ _ _ _ _ _ _ _ _ _ _ _ _ _ _ _ _)
    | (with_reducible exact ih3 _ _ _ _ _ _ _ _ _ _ _ _ _ _ _ _ _)
    | (with_reducible exact ih4 _ _ _ _ _ _ _ _ _ _ _ _ _ _ _ _ _ _ _)
    | (with_reducible exact ih5 _ _ _ _ _ _ _ _ _ _ _ _ _ _ _ _ _ _ _)
    | (with_reducible exact ih6 _ _ _ _ _ _ _ _ _ _ _ _ _ _ _ _ _ _)
    | (with_reducible exact ih7 _ _ _ _ _ _ _ _ _ _ _ _ _ _ _ _ _ _ _)
    | (with_reducible exact ih8 _ _ _ _ _ _ _ _ _ _ _ _ _ _ _ _ _ _)
    | (with_reducible exact ih9 _ _ _ _ _ _ _ _ _ _ _ _ _ _ _ _ _)
    | (with_reducible exact ih10 _ _ _ _ _ _ _ _ _ _ _ _ _ _ _ _ _ _ _)
    | (with_reducible exact ih11 _ _ _ _ _ _ _ _ _ _ _ _ _ _ _ _ _ _)
    | (with_reducible exact ih12 _ _ _ _ _ _ _ _ _ _ _ _ _ _ _ _ _ _)
    | (with_reducible exact ih13 _ _ _ _ _ _ _ _ _ _ _ _ _ _ _ _ _)
    | (with_reducible exact spec_l26Presses.mono _ _)
    | (with_reducible exact spec_l26Seen.mono _ _ _)
    | (with_reducible exact LeO.refl _)
    | (with_reducible exact LeO.none _)
    | (with_reducible refine LeO.ite ?_ ?_)
    | (with_reducible refine LeO.bind ?_ (fun _ => ?_))
    | exact ih0 _ _ _ _ _ _ _ _ _ _
    | exact ih1 _ _ _ _ _ _ _ _ _ _ _ _ _ _ _ _
    | exact ih2 _ _ _ _ _ _ _ _ _ _ _ _ _ _ _ _ _ _
    | exact ih3 _ _ _ _ _ _ _ _ _ _ _ _ _ _ _ _ _
    | exact ih4 _ _ _ _ _ _ _ _ _ _ _ _ _ _ _ _ _ _ _
    | exact ih5 _ _ _ _ _ _ _ _ _ _ _ _ _ _ _ _ _ _ _
    | exact ih6 _ _ _ _ _ _ _ _ _ _ _ _ _ _ _ _ _ _
    | exact ih7 _ _ _ _ _ _ _ _ _ _ _ _ _ _ _ _ _ _ _
    | exact ih8 _ _ _ _ _ _ _ _ _ _ _ _ _ _ _ _ _ _
    | exact ih9 _ _ _ _ _ _ _ _ _ _ _ _ _ _ _ _ _
    | exact ih10 _ _ _ _ _ _ _ _ _ _ _ _ _ _ _ _ _ _ _
    | exact ih11 _ _ _ _ _ _ _ _ _ _ _ _ _ _ _ _ _ _
    | exact ih12 _ _ _ _ _ _ _ _ _ _ _ _ _ _ _ _ _ _
    | exact ih13 _ _ _ _ _ _ _ _ _ _ _ _ _ _ _ _ _
    | exact spec_l26Presses.mono _ _
    | exact spec_l26Seen.mono _ _ _
    | exact LeO.none _
    | refine LeO.ite ?_ ?_
    | refine LeO.bind ?_ (fun _ => ?_)
  · intro y0 y1 y2 y3 y4 y5 y6 y7 y8 y9 y10 y11 y12 y13 y14 y15 y16 y17 y18
    unfold spec_RunStops.j4
    repeat' first
    | (with_reducible exact ih0 _ _ _ _ _ _ _ _ _ _)
    | (with_reducible exact ih1 _ _ _ _ _ _ _ _ _ _ _ _ _ _ _ _)
    | (with_reducible exact ih2 _ _ _ _ _ _ _ _ _ _ _ _ _ _ _ _ _ _)
    | (with_reducible exact ih3 _ _ _ _ _ _ _ _ _ _ _ _ _ _ _ _ _)
    | (with_reducible exact ih4 _ _ _ _ _ _ _ _ _ _ _ _ _ _ _ _ _ _ _)
    | (with_reducible exact ih5 _ _ _ _ _ _ _ _ _ _ _ _ _ _ _ _ _ _ _)
    | (with_reducible exact ih6 _ _ _ _ _ _ _ _ _ _ _ _ _ _ _ _ _ _)
    | (with_reducible exact ih7 _ _ _ _ _ _ _ _ _ _ _ _ _ _ _ _ _ _ _)
    | (with_reducible exact ih8 _ _ _ _ _ _ _ _ _ _ _ _ _ _ _ _ _ _)
    | (with_reducible exact ih9 _ _ _ _ _ _ _ _ _ _ _ _ _ _ _ _ _)
    | (with_reducible exact ih10 _ _ _ _ _ _ _ _ _ _ _ _ _ _ _ _ _ _ _)
    | (with_reducible exact ih11 _ _ _ _ _ _ _ _ _ _ _ _ _ _ _ _ _ _)
    | (with_reducible exact ih12 _ _ _ _ _ _ _ _ _ _ _ _ _ _ _ _ _ _)
    | (with_reducible exact ih13 _ _ _ _ _ _ _ _ _ _ _ _ _ _ _ _ _)
    | (with_reducible exact spec_l26Presses.mono _ _)
    | (with_reducible exact spec_l26Seen.mono _ _ _)
    | (with_reducible exact LeO.refl _)
    | (with_reducible exact LeO.none _)
    | (with_reducible refine LeO.ite ?_ ?_)
    | (with_reducible refine LeO.bind ?_ (fun _ => ?_))
    | exact ih0 _ _ _ _ _ _ _ _ _ _
    | exact ih1 _ _ _ _ _ _ _ _ _ _ _ _ _ _ _ _
    | exact ih2 _ _ _ _ _ _ _ _ _ _ _ _ _ _ _ _ _ _
    | exact ih3 _ _ _ _ _ _ _ _ _ _ _ _ _ _ _ _ _
    | exact ih4 _ _ _ _ _ _ _ _ _ _ _ _ _ _ _ _ _ _ _
    | exact ih5 _ _ _ _ _ _ _ _ _ _ _ _ _ _ _ _ _ _ _
    | exact ih6 _ _ _ _ _ _ _ _ _ _ _ _ _ _ _ _ _ _
    | exact ih7 _ _ _ _ _ _ _ _ _ _ _ _ _ _ _ _ _ _ _
    | exact ih8 _ _ _ _ _ _ _ _ _ _ _ _ _ _ _ _ _ _
    | exact ih9 _ _ _ _ _ _ _ _ _ _ _ _ _ _ _ _ _
    | exact ih10 _ _ _ _ _ _ _ _ _ _ _ _ _ _ _ _ _ _ _
    | exact ih11 _ _ _ _ _ _ _ _ _ _ _ _ _ _ _ _ _ _
    | exact ih12 _ _ _ _ _ _ _ _ _ _ _ _ _ _ _ _ _ _
    | exact ih13 _ _ _ _ _ _ _ _ _ _ _ _ _ _ _ _ _
    | exact spec_l26Presses.mono _ _
    | exact spec_l26Seen.mono _ _ _
    | exact LeO.none _
    | refine LeO.ite ?_ ?_
    | refine LeO.bind ?_ (fun _ => ?_)
  · intro y0 y1 y2 y3 y4 y5 y6 y7 y8 y9 y10 y11 y12 y13 y14 y15 y16 y17 y18
    unfold spec_RunStops.j5
    repeat' first
    | (with_reducible exact ih0 _ _ _ _ _ _ _ _ _ _)
    | (with_reducible exact ih1 _ _ _ _ _ _ _ _ _ _ _ _ _ _ _ _)
    | (with_reducible exact ih2 _ _ _ _ _ _ _ _ _ _ _ _ _ _ _ _ _ _)
    | (with_reducible exact ih3 _ _ _ _ _ _ _ _ _ _ _ _ _ _ _ _ _)
    | (with_reducible exact ih4 _ _ _ _ _ _ _ _ _ _ _ _ _ _ _ _ _ _ _)
    | (with_reducible exact ih5 _ _ _ _ _ _ _ _ _ _ _ _ _ _ _ _ _ _ _)
    | (with_reducible exact ih6 _ _ _ _ _ _ _ _ _ _ _ _ _ _ _ _ _ _)
    | (with_reducible exact ih7 _ _ _ _ _ _ _ _ _ _ _ _ _ _ _ _ _ _ _)
    | (with_reducible exact ih8 _ _ _ _ _ _ _ _ _ _ _ _ _ _ _ _ _ _)
    | (with_reducible exact ih9 _ _ _ _ _ _ _ _ _ _ _ _ _ _ _ _ _)
    | (with_reducible exact ih10 _ _ _ _ _ _ _ _ _ _ _ _ _ _ _ _ _ _ _)
    | (with_reducible exact ih11 _ _ _ _ _ _ _ _ _ _ _ _ _ _ _ _ _ _)
    | (with_reducible exact ih12 _ _ _ _ _ _ _ _ _ _ _ _ _ _ _ _ _ _)
    | (with_reducible exact ih13 _ _ _ _ _ _ _ _ _ _ _ _ _ _ _ _ _)
    | (with_reducible exact spec_l26Presses.mono _ _)
    | (with_reducible exact spec_l26Seen.mono _ _ _)
    | (with_reducible exact LeO.refl _)
    | (with_reducible exact LeO.none _)
    | (with_reducible refine LeO.ite ?_ ?_)
    | (with_reducible refine LeO.bind ?_ (fun _ => ?_))
    | exact ih0 _ _ _ _ _ _ _ _ _ _
    | exact ih1 _ _ _ _ _ _ _ _ _ _ _ _ _ _ _ _
    | exact ih2 _ _ _ _ _ _ _ _ _ _ _ _ _ _ _ _ _ _
    | exact ih3 _ _ _ _ _ _ _ _ _ _ _ _ _ _ _ _ _
    | exact ih4 _ _ _ _ _ _ _ _ _ _ _ _ _ _ _ _ _ _ _
    | exact ih5 _ _ _ _ _ _ _ _ _ _ _ _ _ _ _ _ _ _ _
    | exact ih6 _ _ _ _ _ _ _ _ _ _ _ _ _ _ _ _ _ _
    | exact ih7 _ _ _ _ _ _ _ _ _ _ _ _ _ _ _ _ _ _ _
    | exact ih8 _ _ _ _ _ _ _ _ _ _ _ _ _ _ _ _ _ _
    | exact ih9 _ _ _ _ _ _ _ _ _ _ _ _ _ _ _ _ _
    | exact ih10 _ _ _ _ _ _ _ _ _ _ _ _ _ _ _ _ _ _ _
    | exact ih11 _ _ _ _ _ _ _ _ _ _ _ _ _ _ _ _ _ _
    | exact ih12 _ _ _ _ _ _ _ _ _ _ _ _ _ _ _ _ _ _
    | exact ih13 _ _ _ _ _ _ _ _ _ _ _ _ _ _ _ _ _
    | exact spec_l26Presses.mono _ _
    | exact spec_l26Seen.mono _ _ _
    | exact LeO.none _
    | refine LeO.ite ?_ ?_
    | refine LeO.bind ?_ (fun _ => ?_)
  · intro y0 y1 y2 y3 y4 y5 y6 y7 y8 y9 y10 y11 y12 y13 y14 y15 y16 y17
    unfold spec_RunStops.j6
    repeat' first
    | (with_reducible exact ih0 _ _ _ _ _ _ _ _ _ _)
    | (with_reducible exact ih1 _ _ _ _ _ _ _ _ _ _ _ _ _ _ _ _)
    | (with_reducible exact ih2 _ _ _ _ _ _ _ _ _ _ _ _ _ _ _ _ _ _)
    | (with_reducible exact ih3 _ _ _ _ _ _ _ _ _ _ _ _ _ _ _ _ _)
    | (with_reducible exact ih4 _ _ _ _ _ _ _ _ _ _ _ _ _ _ _ _ _ _ _)
    | (with_reducible exact ih5 _ _ _ _ _ _ _ _ _ _ _ _ _ _ _ _ _ _ _)
    | (with_reducible exact ih6 _ _ _ _ _ _ _ _ _ _ _ _ _ _ _ _ _ _)
    | (with_reducible exact ih7 _ _ _ _ _ _ _ _ _ _ _ _ _ _ _ _ _ _ _)
    | (with_reducible exact ih8 _ _ _ _ _ _ _ _ _ _ _ _ _ _ _ _ _ _)
    | (with_reducible exact ih9 _ _ _ _ _ _ _ _ _ _ _ _ _ _ _ _ _)
    | (with_reducible exact ih10 _ _ _ _ _ _ _ _ _ _ _ _ _ _ _ _ _ _ _)
    | (with_reducible exact ih11 _ _ _ _ _ _ _ _ _ _ _ _ _ _ _ _ _ _)
    | (with_reducible exact ih12 _ _ _ _ _ _ _ _ _ _ _ _ _ _ _ _ _ _)
    | (with_reducible exact ih13 _ _ _ _ _ _ _ _ _ _ _ _ _ _ _ _ _)
    | (with_reducible exact spec_l26Presses.mono _ _)
    | (with_reducible exact spec_l26Seen.mono _ _ _)
    | (with_reducible exact LeO.refl _)
    | (with_reducible exact LeO.none _)
    | (with_reducible refine LeO.ite ?_ ?_)
    | (with_reducible refine LeO.bind ?_ (fun _ => ?_))
    | exact ih0 _ _ _ _ _ _ _ _ _ _
    | exact ih1 _ _ _ _ _ _ _ _ _ _ _ _ _ _ _ _
    | exact ih2 _ _ _ _ _ _ _ _ _ _ _ _ _ _ _ _ _ _
    | exact ih3 _ _ _ _ _ _ _ _ _ _ _ _ _ _ _ _ _
    | exact ih4 _ _ _ _ _ _ _ _ _ _ _ _ _ _ _ _ _ _ _
    | exact ih5 _ _ _ _ _ _ _ _ _ _ _ _ _ _ _ _ _ _ _
    | exact ih6 _ _ _ _ _ _ _ _ _ _ _ _ _ _ _ _ _ _
    | exact ih7 _ _ _ _ _ _ _ _ _ _ _ _ _ _ _ _ _ _ _
    | exact ih8 _ _ _ _ _ _ _ _ _ _ _ _ _ _ _ _ _ _
    | exact ih9 _ _ _ _ _ _ _ _ _ _ _ _ _ _ _ _ _
    | exact ih10 _ _ _ _ _ _ _ _ _ _ _ _ _ _ _ _ _ _ _
    | exact ih11 _ _ _ _ _ _ _ _ _ _ _ _ _ _ _ _ _ _
    | exact ih12 _ _ _ _ _ _ _ _ _ _ _ _ _ _ _ _ _ _
    | exact ih13 _ _ _ _ _ _ _ _ _ _ _ _ _ _ _ _ _
    | exact spec_l26Presses.mono _ _
    | exact spec_l26Seen.mono _ _ _
    | exact LeO.none _
    | refine LeO.ite ?_ ?_
    | refine LeO.bind ?_ (fun _ => ?_)
  · intro y0 y1 y2 y3 y4 y5 y6 y7 y8 y9 y10 y11 y12 y13 y14 y15 y16 y17 y18
    unfold spec_RunStops.j7
    repeat' first
    | (with_reducible exact ih0 _ _ _ _ _ _ _ _ _ _)
    | (with_reducible exact ih1 _ _ _ _ _ _ _ _ _ _ _ _ _ _ _ _)
    | (with_reducible exact ih2 _ _ _ _ _ _ _ _ _ _ _ _ _ _ _ _ _ _)
    | (with_reducible exact ih3 _ _ _ _ _ _ _ _ _ _ _ _ _ _ _ _ _)
    | (with_reducible exact ih4 _ _ _ _ _ _ _ _ _ _ _ _ _ _ _ _ _ _ _)
    | (with_reducible exact ih5 _ _ _ _ _ _ _ _ _ _ _ _ _ _ _ _ _ _ _)
    | (with_reducible exact ih6 _ _ _ _ _ _ _ _ _ _ _ _ _ _ _ _ _ _)
    | (with_reducible exact ih7 _ _ _ _ _ _ _ _ _ _ _ _ _ _ _ _ _ _ _)
    | (with_reducible exact ih8 _ _ _ _ _ _ _ _ _ _ _ _ _ _ _ _ _ _)
    | (with_reducible exact ih9 _ _ _ _ _ _ _ _ _ _ _ _ _ _ _ _ _)
    | (with_reducible exact ih10 _ _ _ _ _ _ _ _ _ _ _ _ _ _ _ _ _ _ _)
    | (with_reducible exact ih11 _ _ _ _ _ _ _ _ _ _ _ _ _ _ _ _ _ _)
    | (with_reducible exact ih12 _ _ _ _ _ _ _ _ _ _ _ _ _ _ _ _ _ _)
    | (with_reducible exact ih13 _ _ _ _ _ _ _ _ _ _ _ _ _ _ _ _ _)
    | (with_reducible exact spec_l26Presses.mono _ _)
    | (with_reducible exact spec_l26Seen.mono _ _ _)
    | (with_reducible exact LeO.refl _)
    | (with_reducible exact LeO.none _)
    | (with_reducible refine LeO.ite ?_ ?_)
    | (with_reducible refine LeO.bind ?_ (fun _ => ?_))
    | exact ih0 _ _ _ _ _ _ _ _ _ _
    | exact ih1 _ _ _ _ _ _ _ _ _ _ _ _ _ _ _ _
    | exact ih2 _ _ _ _ _ _ _ _ _ _ _ _ _ _ _ _ _ _
    | exact ih3 _ _ _ _ _ _ _ _ _ _ _ _ _ _ _ _ _
    | exact ih4 _ _ _ _ _ _ _ _ _ _ _ _ _ _ _ _ _ _ _
    | exact ih5 _ _ _ _ _ _ _ _ _ _ _ _ _ _ _ _ _ _ _
    | exact ih6 _ _ _ _ _ _ _ _ _ _ _ _ _ _ _ _ _ _
    | exact ih7 _ _ _ _ _ _ _ _ _ _ _ _ _ _ _ _ _ _ _
    | exact ih8 _ _ _ _ _ _ _ _ _ _ _ _ _ _ _ _ _ _
    | exact ih9 _ _ _ _ _ _ _ _ _ _ _ _ _ _ _ _ _
    | exact ih10 _ _ _ _ _ _ _ _ _ _ _ _ _ _ _ _ _ _ _
    | exact ih11 _ _ _ _ _ _ _ _ _ _ _ _ _ _ _ _ _ _
    | exact ih12 _ _ _ _ _ _ _ _ _ _ _ _ _ _ _ _ _ _
    | exact ih13 _ _ _ _ _ _ _ _ _ _ _ _ _ _ _ _ _
    | exact spec_l26Presses.mono _ _
    | exact spec_l26Seen.mono _ _ _
    | exact LeO.none _
    | refine LeO.ite ?_ ?_
    | refine LeO.bind ?_ (fun _ => ?_)
  · intro y0 y1 y2 y3 y4 y5 y6 y7 y8 y9 y10 y11 y12 y13 y14 y15 y16 y17
    unfold spec_RunStops.j8
    repeat' first
    | (with_reducible exact ih0 _ _ _ _ _ _ _ _ _ _)
    | (with_reducible exact ih1 _ _ _ _ _ _ _ _ _ _ _ _ _ _ _ _)
    | (with_reducible exact ih2 _ _ _ _ _ _ _ _ _ _ _ _ _ _ _ _ _ _)
    | (with_reducible exact ih3 _ _ _ _ _ _ _ _ _ _ _ _ _ _ _ _ _)
    | (with_reducible exact ih4 _ _ _ _ _ _ _ _ _ _ _ _ _ _ _ _ _ _ _)
    | (with_reducible exact ih5 _ _ _ _ _ _ _ _ _ _ _ _ _ _ _ _ _ _ _)
    | (with_reducible exact ih6 _ _ _ _ _ _ _ _ _ _ _ _ _ _ _ _ _ _)
    | (with_reducible exact ih7 _ _ _ _ _ _ _ _ _ _ _ _ _ _ _ _ _ _ _)
    | (with_reducible exact ih8 _ _ _ _ _ _ _ _ _ _ _ _ _ _ _ _ _ _)
    | (with_reducible exact ih9 _ _ _ _ _ _ _ _ _ _ _ _ _ _ _ _ _)
    | (with_reducible exact ih10 _ _ _ _ _ _ _ _ _ _ _ _ _ _ _ _ _ _ _)
    | (with_reducible exact ih11 _ _ _ _ _ _ _ _ _ _ _ _ _ _ _ _ _ _)
    | (with_reducible exact ih12 _ _ _ _ _ _ _ _ _ _ _ _ _ _ _ _ _ _)
    | (with_reducible exact ih13 _ _ _ _ _ _ _ _ _ _ _ _ _ _ _ _ _)
    | (with_reducible exact spec_l26Presses.mono _ _)
    | (with_reducible exact spec_l26Seen.mono _ _ _)
    | (with_reducible exact LeO.refl _)
    | (with_reducible exact LeO.none _)
    | (with_reducible refine LeO.ite ?_ ?_)
    | (with_reducible refine LeO.bind ?_ (fun _ => ?_))
    | exact ih0 _ _ _ _ _ _ _ _ _ _
    | exact ih1 _ _ _ _ _ _ _ _ _ _ _ _ _ _ _ _
    | exact ih2 _ _ _ _ _ _ _ _ _ _ _ _ _ _ _ _ _ _
    | exact ih3 _ _ _ _ _ _ _ _ _ _ _ _ _ _ _ _ _
    | exact ih4 _ _ _ _ _ _ _ _ _ _ _ _ _ _ _ _ _ _ _
    | exact ih5 _ _ _ _ _ _ _ _ _ _ _ _ _ _ _ _ _ _ _
    | exact ih6 _ _ _ _ _ _ _ _ _ _ _ _ _ _ _ _ _ _
    | exact ih7 _ _ _ _ _ _ _ _ _ _ _ _ _ _ _ _ _ _ _
    | exact ih8 _ _ _ _ _ _ _ _ _ _ _ _ _ _ _ _ _ _
    | exact ih9 _ _ _ _ _ _ _ _ _ _ _ _ _ _ _ _ _
    | exact ih10 _ _ _ _ _ _ _ _ _ _ _ _ _ _ _ _ _ _ _
    | exact ih11 _ _ _ _ _ _ _ _ _ _ _ _ _ _ _ _ _ _
    | exact ih12 _ _ _ _ _ _ _ _ _ _ _ _ _ _ _ _ _ _
    | exact ih13 _ _ _ _ _ _ _ _ _ _ _ _ _ _ _ _ _
    | exact spec_l26Presses.mono _ _
    | exact spec_l26Seen.mono _ _ _
    | exact LeO.none _
    | refine LeO.ite ?_ ?_
    | refine LeO.bind ?_ (fun _ => ?_)
  · intro y0 y1 y2 y3 y4 y5 y6 y7 y8 y9 y10 y11 y12 y13 y14 y15 y16
    unfold spec_RunStops.j9
    repeat' first
    | (with_reducible exact ih0 _ _ _ _ _ _ _ _ _ _)
    | (with_reducible exact ih1 _ _ _ _ _ _ _ _ _ _ _ _ _ _ _ _)
    | (with_reducible exact ih2 _ _ _ _ _ _ _ _ _ _ _ _ _ _ _ _ _ _)
    | (with_reducible exact ih3 _ _ _ _ _ _ _ _ _ _ _ _ _ _ _ _ _)
    | (with_reducible exact ih4 _ _ _ _ _ _ _ _ _ _ _ _ _ _ _ _ _ _ _)
    | (with_reducible exact ih5 _ _ _ _ _ _ _ _ _ _ _ _ _ _ _ _ _ _ _)
    | (with_reducible exact ih6 _ _ _ _ _ _ _ _ _ _ _ _ _ _ _ _ _ _)
    | (with_reducible exact ih7 _ _ _ _ _ _ _ _ _ _ _ _ _ _ _ _ _ _ _)
    | (with_reducible exact ih8 _ _ _ _ _ _ _ _ _ _ _ _ _ _ _ _ _ _)
    | (with_reducible exact ih9 _ _ _ _ _ _ _ _ _ _ _ _ _ _ _ _ _)
    | (with_reducible exact ih10 _ _ _ _ _ _ _ _ _ _ _ _ _ _ _ _ _ _ _)
    | (with_reducible exact ih11 _ _ _ _ _ _ _ _ _ _ _ _ _ _ _ _ _ _)
    | (with_reducible exact ih12 _ _ _ _ _ _ _ _ _ _ _ _ _ _ _ _ _ _)
    | (with_reducible exact ih13 _ _ _ _ _ _ _ _ _ _ _ _ _ _ _ _ _)
    | (with_reducible exact spec_l26Presses.mono _ _)
    | (with_reducible exact spec_l26Seen.mono _ _ _)
    | (with_reducible exact LeO.refl _)
    | (with_reducible exact LeO.none _)
    | (with_reducible refine LeO.ite ?_ ?_)
    | (with_reducible refine LeO.bind ?_ (fun _ => ?_))
    | exact ih0 _ _ _ _ _ _ _ _ _ _
    | exact ih1 _ _ _ _ _ _ _ _ _ _ _ _ _ _ _ _
    | exact ih2 _ _ _ _ _ _ _ _ _ _ _ _ _ _ _ _ _ _
    | exact ih3 _ _ _ _ _ _ _ _ _ _ _ _ _ _ _ _ _
    | exact ih4 _ _ _ _ _ _ _ _ _ _ _ _ _ _ _ _ _ _ _
    | exact ih5 _ _ _ _ _ _ _ _ _ _ _ _ _ _ _ _ _ _ _
    | exact ih6 _ _ _ _ _ _ _ _ _ _ _ _ _ _ _ _ _ _
    | exact ih7 _ _ _ _ _ _ _ _ _ _ _ _ _ _ _ _ _ _ _
    | exact ih8 _ _ _ _ _ _ _ _ _ _ _ _ _ _ _ _ _ _
    | exact ih9 _ _ _ _ _ _ _ _ _ _ _ _ _ _ _ _ _
    | exact ih10 _ _ _ _ _ _ _ _ _ _ _ _ _ _ _ _ _ _ _
    | exact ih11 _ _ _ _ _ _ _ _ _ _ _ _ _ _ _ _ _ _
    | exact ih12 _ _ _ _ _ _ _ _ _ _ _ _ _ _ _ _ _ _
    | exact ih13 _ _ _ _ _ _ _ _ _ _ _ _ _ _ _ _ _
    | exact spec_l26Presses.mono _ _
    | exact spec_l26Seen.mono _ _ _
    | exact LeO.none _
    | refine LeO.ite ?_ ?_
    | refine LeO.bind ?_ (fun _ => ?_)
  · intro y0 y1 y2 y3 y4 y5 y6 y7 y8 y9 y10 y11 y12 y13 y14 y15 y16 y17 y18
    unfold spec_RunStops.j10
    repeat' first
    | (with_reducible exact ih0 _ _ _ _ _ _ _ _ _ _)
    | (with_reducible exact ih1 _ _ _ _ _ _ _ _ _ _ _ _ _ _ _ _)
    | (with_reducible exact ih2 _ _ _ _ _ _ _ _ _ _ _ _ _ _ _ _ _ _)
    | (with_reducible exact ih3 _ _ _ _ _ _ _ _ _ _ _ _ _ _ _ _ _)
    | (with_reducible exact ih4 _ _ _ _ _ _ _ _ _ _ _ _ _ _ _ _ _ _ _)
    | (with_reducible exact ih5 _ _ _ _ _ _ _ _ _ _ _ _ _ _ _ _ _ _ _)
    | (with_reducible exact ih6 _ _ _ _ _ _ _ _ _ _ _ _ _ _ _ _ _ _)
    | (with_reducible exact ih7 _ _ _ _ _ _ _ _ _ _ _ _ _ _ _ _ _ _ _)
    | (with_reducible exact ih8 _ _ _ _ _ _ _ _ _ _ _ _ _ _ _ _ _ _)
    | (with_reducible exact ih9 _ _ _ _ _ _ _ _ _ _ _ _ _ _ _ _ _)
    | (with_reducible exact ih10 _ _ _ _ _ _ _ _ _ _ _ _ _ _ _ _ _ _ _)
    | (with_reducible exact ih11 _ _ _ _ _ _ _ _ _ _ _ _ _ _ _ _ _ _)
    | (with_reducible exact ih12 _ _ _ _ _ _ _ _ _ _ _ _ _ _ _ _ _ _)
    | (with_reducible exact ih13 _ _ _ _ _ _ _ _ _ _ _ _ _ _ _ _ _)
    | (with_reducible exact spec_l26Presses.mono _ _)
    | (with_reducible exact spec_l26Seen.mono _ _ _)
    | (with_reducible exact LeO.refl _)
    | (with_reducible exact LeO.none _)
    | (with_reducible refine LeO.ite ?_ ?_)
    | (with_reducible refine LeO.bind ?_ (fun _ => ?_))
    | exact ih0 _ _ _ _ _ _ _ _ _ _
    | exact ih1 _ _ _ _ _ _ _ _ _ _ _ _ _ _ _ _
    | exact ih2 _ _ _ _ _ _ _ _ _ _ _ _ _ _ _ _ _ _
    | exact ih3 _ _ _ _ _ _ _ _ _ _ _ _ _ _ _ _ _
    | exact ih4 _ _ _ _ _ _ _ _ _ _ _ _ _ _ _ _ _ _ _
    | exact ih5 _ _ _ _ _ _ _ _ _ _ _ _ _ _ _ _ _ _ _
    | exact ih6 _ _ _ _ _ _ _ _ _ _ _ _ _ _ _ _ _ _
    | exact ih7 _ _ _ _ _ _ _ _ _ _ _ _ _ _ _ _ _ _ _
    | exact ih8 _ _ _ _ _ _ _ _ _ _ _ _ _ _ _ _ _ _
    | exact ih9 _ _ _ _ _ _ _ _ _ _ _ _ _ _ _ _ _
    | exact ih10 _ _ _ _ _ _ _ _ _ _ _ _ _ _ _ _ _ _ _
    | exact ih11 _ _ _ _ _ _ _ _ _ _ _ _ _ _ _ _ _ _
    | exact ih12 _ _ _ _ _ _ _ _ _ _ _ _ _ _ _ _ _ _
    | exact ih13 _ _ _ _ _ _ _ _ _ _ _ _ _ _ _ _ _
    | exact spec_l26Presses.mono _ _
    | exact spec_l26Seen.mono _ _ _
    | exact LeO.none _
    | refine LeO.ite ?_ ?_
    | refine LeO.bind ?_ (fun _ => ?_)
  · intro y0 y1 y2 y3 y4 y5 y6 y7 y8 y9 y10 y11 y12 y13 y14 y15 y16 y17
    unfold spec_RunStops.j11
    repeat' first
    | (with_reducible exact ih0 _ _ _ _ _ _ _ _ _ _)
    | (with_reducible exact ih1 _ _ _ _ _ _ _ _ _ _ _ _ _ _ _ _)
    | (with_reducible exact ih2 _ _ _ _ _ _ _ _ _ _ _ _ _ _ _ _ _ _)
    | (with_reducible exact ih3 _ _ _ _ _ _ _ _ _ _ _ _ _ _ _ _ _)
    | (with_reducible exact ih4 _ _ _ _ _ _ _ _ _ _ _ _ _ _ _ _ _ _ _)
    | (with_reducible exact ih5 _ _ _ _ _ _ _ _ _ _ _ _ _ _ _ _ _ _ _)
    | (with_reducible exact ih6 _ _ _ _ _ _ _ _ _ _ _ _ _ _ _ _ _ _)
    | (with_reducible exact ih7 _ _ _ _ _ _ _ _ _ _ _ _ _ _ _ _ _ _ _)
    | (with_reducible exact ih8 _ _ _ _ _ _ _ _ _ _ _ _ _ _ _ _ _ _)
    | (with_reducible exact ih9 _ _ _ _ _ _ _ _ _ _ _ _ _ _ _ _ _)
    | (with_reducible exact ih10 _ _ _ _ _ _ _ _ _ _ _ _ _ _ _ _ _ _ _)
    | (with_reducible exact ih11 _ _ _ _ _ _ _ _ _ _ _ _ _ _ _ _ _ _)
    | (with_reducible exact ih12 _ _ _ _ _ _ _ _ _ _ _ _ _ _ _ _ _ _)
    | (with_reducible exact ih13 _ _ _ _ _ _ _ _ _ _ _ _ _ _ _ _ _)
    | (with_reducible exact spec_l26Presses.mono _ _)
    | (with_reducible exact spec_l26Seen.mono _ _ _)
    | (with_reducible exact LeO.refl _)
    | (with_reducible exact LeO.none _)
    | (with_reducible refine LeO.ite ?_ ?_)
    | (with_reducible refine LeO.bind ?_ (fun _ => ?_))
    | exact ih0 _ _ _ _ _ _ _ _ _ _
    | exact ih1 _ _ _ _ _ _ _ _ _ _ _ _ _ _ _ _
    | exact ih2 _ _ _ _ _ _ _ _ _ _ _ _ _ _ _ _ _ _
    | exact ih3 _ _ _ _ _ _ _ _ _ _ _ _ _ _ _ _ _
    | exact ih4 _ _ _ _ _ _ _ _ _ _ _ _ _ _ _ _ _ _ _
    | exact ih5 _ _ _ _ _ _ _ _ _ _ _ _ _ _ _ _ _ _ _
    | exact ih6 _ _ _ _ _ _ _ _ _ _ _ _ _ _ _ _ _ _
    | exact ih7 _ _ _ _ _ _ _ _ _ _ _ _ _ _ _ _ _ _ _
    | exact ih8 _ _ _ _ _ _ _ _ _ _ _ _ _ _ _ _ _ _
    | exact ih9 _ _ _ _ _ _ _ _ _ _ _ _ _ _ _ _ _
    | exact ih10 _ _ _ _ _ _ _ _ _ _ _ _ _ _ _ _ _ _ _
    | exact ih11 _ _ _ _ _ _ _ _ _ _ _ _ _ _ _ _ _ _
    | exact ih12 _ _ _ _ _ _ _ _ _ _ _ _ _ _ _ _ _ _
    | exact ih13 _ _ _ _ _ _ _ _ _ _ _ _ _ _ _ _ _
    | exact spec_l26Presses.mono _ _
    | exact spec_l26Seen.mono _ _ _
    | exact LeO.none _
    | refine LeO.ite ?_ ?_
    | refine LeO.bind ?_ (fun _ => ?_)
  · intro y0 y1 y2 y3 y4 y5 y6 y7 y8 y9 y10 y11 y12 y13 y14 y15 y16 y17
    unfold spec_RunStops.j12
    repeat' first
    | (with_reducible exact ih0 _ _ _ _ _ _ _ _ _ _)
    | (with_reducible exact ih1 _ _ _ _ _ _ _ _ _ _ _ _ _ _ _ _)
    | (with_reducible exact ih2 _ _ _ _ _ _ _ _ _ _ _ _ _ _ _ _ _ _)
    | (with_reducible exact ih3 _ _ _ _ _ _ _ _ _ _ _ _ _ _ _ _ _)
    | (with_reducible exact ih4 _ _ _ _ _ _ _ _ _ _ _ _ _ _ _ _ _ _ _)
    | (with_reducible exact ih5 _ _ _ _ _ _ _ _ _ _ _ _ _ _ _ _ _ _ _)
    | (with_reducible exact ih6 _ _ _ _ _ _ _ _ _ _ _ _ _ _ _ _ _ _)
    | (with_reducible exact ih7 _ _ _ _ _ _ _ _ _ _ _ _ _ _ _ _ _ _ _)
    | (with_reducible exact ih8 _ _ _ _ _ _ _ _ _ _ _ _ _ _ _ _ _ _)
    | (with_reducible exact ih9 _ _ _ _ _ _ _ _ _ _ _ _ _ _ _ _ _)
    | (with_reducible exact ih10 _ _ _ _ _ _ _ _ _ _ _ _ _ _ _ _ _ _ _)
    | (with_reducible exact ih11 _ _ _ _ _ _ _ _ _ _ _ _ _ _ _ _ _ _)
    | (with_reducible exact ih12 _ _ _ _ _ _ _ _ _ _ _ _ _ _ _ _ _ _)
    | (with_reducible exact ih13 _ _ _ _ _ _ _ _ _ _ _ _ _ _ _ _ _)
    | (with_reducible exact spec_l26Presses.mono _ _)
    | (with_reducible exact spec_l26Seen.mono _ _ _)
    | (with_reducible exact LeO.refl _)
    | (with_reducible exact LeO.none _)
    | (with_reducible refine LeO.ite ?_ ?_)
    | (with_reducible refine LeO.bind ?_ (fun _ => ?_))
    | exact ih0 _ _ _ _ _ _ _ _ _ _
    | exact ih1 _ _ _ _ _ _ _ _ _ _ _ _ _ _ _ _
    | exact ih2 _ _ _ _ _ _ _ _ _ _ _ _ _ _ _ _ _ _
    | exact ih3 _ _ _ _ _ _ _ _ _ _ _ _ _ _ _ _ _
    | exact ih4 _ _ _ _ _ _ _ _ _ _ _ _ _ _ _ _ _ _ _
    | exact ih5 _ _ _ _ _ _ _ _ _ _ _ _ _ _ _ _ _ _ _
    | exact ih6 _ _ _ _ _ _ _ _ _ _ _ _ _ _ _ _ _ _
    | exact ih7 _ _ _ _ _ _ _ _ _ _ _ _ _ _ _ _ _ _ _
    | exact ih8 _ _ _ _ _ _ _ _ _ _ _ _ _ _ _ _ _ _
    | exact ih9 _ _ _ _ _ _ _ _ _ _ _ _ _ _ _ _ _
    | exact ih10 _ _ _ _ _ _ _ _ _ _ _ _ _ _ _ _ _ _ _
    | exact ih11 _ _ _ _ _ _ _ _ _ _ _ _ _ _ _ _ _ _
    | exact ih12 _ _ _ _ _ _ _ _ _ _ _ _ _ _ _ _ _ _
    | exact ih13 _ _ _ _ _ _ _ _ _ _ _ _ _ _ _ _ _
    | exact spec_l26Presses.mono _ _
    | exact spec_l26Seen.mono _ _ _
    | exact LeO.none _
    | refine LeO.ite ?_ ?_
    | refine LeO.bind ?_ (fun _ => ?_)
  · intro y0 y1 y2 y3 y4 y5 y6 y7 y8 y9 y10 y11 y12 y13 y14 y15 y16
    unfold spec_RunStops.j13
    repeat' first
    | (with_reducible exact ih0 _ _ _ _ _ _ _ _ _ _)
    | (with_reducible exact ih1 _ _ _ _ _ _ _ _ _ _ _ _ _ _ _ _)
    | (with_reducible exact ih2 _ _ _ _ _ _ _ _ _ _ _ _ _ _ _ _ _ _)
    | (with_reducible exact ih3 _ _ _ _ _ _ _ _ _ _ _ _ _ _ _ _ _)
    | (with_reducible exact ih4 _ _ _ _ _ _ _ _ _ _ _ _ _ _ _ _ _ _ _)
    | (with_reducible exact ih5 _ _ _ _ _ _ _ _ _ _ _ _ _ _ _ _ _ _ _)
    | (with_reducible exact ih6 _ _ _ _ _ _ _ _ _ _ _ _ _ _ _ _ _ _)
    | (with_reducible exact ih7 _ _ _ _ _ _ _ _ _ _ _ _ _ _ _ _ _ _ _)
    | (with_reducible exact ih8 _ _ _ _ _ _ _ _ _ _ _ _ _ _ _ _ _ _)
    | (with_reducible exact ih9 _ _ _ _ _ _ _ _ _ _ _ _ _ _ _ _ _)
    | (with_reducible exact ih10 _ _ _ _ _ _ _ _ _ _ _ _ _ _ _ _ _ _ _)
    | (with_reducible exact ih11 _ _ _ _ _ _ _ _ _ _ _ _ _ _ _ _ _ _)
    | (with_reducible exact ih12 _ _ _ _ _ _ _ _ _ _ _ _ _ _ _ _ _ _)
    | (with_reducible exact ih13 _ _ _ _ _ _ _ _ _ _ _ _ _ _ _ _ _)
    | (with_reducible exact spec_l26Presses.mono _ _)
    | (with_reducible exact spec_l26Seen.mono _ _ _)
    | (with_reducible exact LeO.refl _)
    | (with_reducible exact LeO.none _)
    | (with_reducible refine LeO.ite ?_ ?_)
    | (with_reducible refine LeO.bind ?_ (fun _ => ?_))
    | exact ih0 _ _ _ _ _ _ _ _ _ _
    | exact ih1 _ _ _ _ _ _ _ _ _ _ _ _ _ _ _ _
    | exact ih2 _ _ _ _ _ _ _ _ _ _ _ _ _ _ _ _ _ _
    | exact ih3 _ _ _ _ _ _ _ _ _ _ _ _ _ _ _ _ _
    | exact ih4 _ _ _ _ _ _ _ _ _ _ _ _ _ _ _ _ _ _ _
    | exact ih5 _ _ _ _ _ _ _ _ _ _ _ _ _ _ _ _ _ _ _
    | exact ih6 _ _ _ _ _ _ _ _ _ _ _ _ _ _ _ _ _ _
    | exact ih7 _ _ _ _ _ _ _ _ _ _ _ _ _ _ _ _ _ _ _
    | exact ih8 _ _ _ _ _ _ _ _ _ _ _ _ _ _ _ _ _ _
    | exact ih9 _ _ _ _ _ _ _ _ _ _ _ _ _ _ _ _ _
    | exact ih10 _ _ _ _ _ _ _ _ _ _ _ _ _ _ _ _ _ _ _
    | exact ih11 _ _ _ _ _ _ _ _ _ _ _ _ _ _ _ _ _ _
    | exact ih12 _ _ _ _ _ _ _ _ _ _ _ _ _ _ _ _ _ _
    | exact ih13 _ _ _ _ _ _ _ _ _ _ _ _ _ _ _ _ _
    | exact spec_l26Presses.mono _ _
    | exact spec_l26Seen.mono _ _ _
    | exact LeO.none _
    | refine LeO.ite ?_ ?_
    | refine LeO.bind ?_ (fun _ => ?_)
theorem spec_RunStops.mono : ∀ a0 a1 a2 a3 a4 a5 a6 a7 a8 k, LeO (spec_RunStops.f k a0 a1 a2 a3 a4 a5 a6 a7 a8) (spec_RunStops.f (k + 1) a0 a1 a2 a3 a4 a5 a6 a7 a8) := by
 intro a0 a1 a2 a3 a4 a5 a6 a7 a8 k
 obtain ⟨ih0, ih1, ih2, ih3, ih4, ih5, ih6, ih7, ih8, ih9, ih10, ih11, ih12, ih13⟩ := spec_RunStops.mono_l k
 unfold spec_RunStops.f
 repeat' first
  | (with_reducible exact ih0 _ _ _ _ _ _ _ _ _ _)
  | (with_reducible exact ih1 _ _ _ _ _ _ _ _ _ _ _ _ _ _ _ _)
  | (with_reducible exact ih2 _ _ _ _ _ _ _ _ _ _ _ _ _ _ _ _ _ _)
  | (with_reducible exact ih3 _ _ _ _ _ _ _ _ _ _ _ _ _ _ _ _ _)
  | (with_reducible exact ih4 _ _ _ _ _ _ _ _ _ _ _ _ _ _ _ _ _ _ _)
  | (with_reducible exact ih5 _ _ _ _ _ _ _ _ _ _ _ _ _ _ _ _ _ _ _)
  | (with_reducible exact ih6 _ _ _ _ _ _ _ _ _ _ _ _ _ _ _ _ _ _)
  | (with_reducible exact ih7 _ _ _ _ _ _ _ _ _ _ _ _ _ _ _ _ _ _ _)
  | (with_reducible exact ih8 _ _ _ _ _ _ _ _ _ _ _ _ _ _ _ _ _ _)
  | (with_reducible exact ih9 _ _ _ _ _ _ _ _ _ _ _ _ _ _ _ _ _)
  | (with_reducible exact ih10 _ _ _ _ _ _ _ _ _ _ _ _ _ _ _ _ _ _ _)
  | (with_reducible exact ih11 _ _ _ _ _ _ _ _ _ _ _ _ _ _ _ _ _ _)
  | (with_reducible exact ih12 _ _ _ _ _ _ _ _ _ _ _ _ _ _ _ _ _ _)
  | (with_reducible exact ih13 _ _ _ _ _ _ _ _ _ _ _ _ _ _ _ _ _)
  | (with_reducible exact spec_l26Presses.mono _ _)
  | (with_reducible exact spec_l26Seen.mono _ _ _)
  | (with_reducible exact LeO.refl _)
  | (with_reducible exact LeO.none _)
  | (with_reducible refine LeO.ite ?_ ?_)
  | (with_reducible refine LeO.bind ?_ (fun _ => ?_))
  | exact ih0 _ _ _ _ _ _ _ _ _ _
  | exact ih1 _ _ _ _ _ _ _ _ _ _ _ _ _ _ _ _
  | exact ih2 _ _ _ _ _ _ _ _ _ _ _ _ _ _ _ _ _ _
  | exact ih3 _ _ _ _ _ _ _ _ _ _ _ _ _ _ _ _ _
  | exact ih4 _ _ _ _ _ _ _ _ _ _ _ _ _ _ _ _ _ _ _
  | exact ih5 _ _ _ _ _ _ _ _ _ _ _ _ _ _ _ _ _ _ _
  | exact ih6 _ _ _ _ _ _ _ _ _ _ _ _ _ _ _ _ _ _
  | exact ih7 _ _ _ _ _ _ _ _ _ _ _ _ _ _ _ _ _ _ _
  | exact ih8 _ _ _ _ _ _ _ _ _ _ _ _ _ _ _ _ _ _
  | exact ih9 _ _ _ _ _ _ _ _ _ _ _ _ _ _ _ _ _
  | exact ih10 _ _ _ _ _ _ _ _ _ _ _ _ _ _ _ _ _ _ _
  | exact ih11 _ _ _ _ _ _ _ _ _ _ _ _ _ _ _ _ _ _
  | exact ih12 _ _ _ _ _ _ _ _ _ _ _ _ _ _ _ _ _ _
  | exact ih13 _ _ _ _ _ _ _ _ _ _ _ _ _ _ _ _ _
  | exact spec_l26Presses.mono _ _
  | exact spec_l26Seen.mono _ _ _
  | exact LeO.none _
  | refine LeO.ite ?_ ?_
  | refine LeO.bind ?_ (fun _ => ?_)
set_option maxHeartbeats 8000000 in
set_option maxRecDepth 100000 in
theorem spec_RunStops.calls (k : Nat) (a0_0 : Int) (a0_1 : Int) (a0_2 : Int) (a0_3 : Int) (a0_4 : Int) (A1 : Option Addr) (c1 : Nat) (l1 : List (S36)) (a2 : Int) (a3 : Int) (a4 : Int) (r1 : List Int) (r2 : List Bool) (r3 : Bool) (w : World) (hr1 : Kd.C k36 w A1 l1.length l1) (hc1 : l1.length ≤ c1) (h : spec_RunStops.f k a0_0 a0_1 a0_2 a0_3 a0_4 l1 a2 a3 a4 = some (r1, r2, r3)) :
 Calls Try.prog 10 #[.agg #[.int .i64 a0_0, .int .i64 a0_1, .int .i64 a0_2, .int .i64 a0_3, .int .i64 a0_4], .slice A1 l1.length c1, .int .i64 a2, .int .i64 a3, .int .i64 a4] w fun e w' => ∃ v0_ v1_ : Value, e = .returned (.tuple #[v0_, v1_, .bool r3]) ∧ Kd.R (Kd.int .i64) 3 w' w.heap.size (fun _ => True) v0_ r1 ∧ Kd.R Kd.bool 4 w' w.heap.size (fun _ => True) v1_ r2 ∧ Below w.heap.size w w' := by
 have hu26 := Try.underlying26; have hu65 := Try.underlying65; (have HR1 := aM hr1); (have HC1 := aM hc1); clear hr1 hc1; (have HB := aM (Below.refl w.heap.size w)); (have H : ((spec_GoodGear.f a0_0 a0_1 a0_2 a0_3 a0_4).bind fun t276 => (if t276 = true then ((spec_l26Presses.f k l1).bind fun t277 => (if t277 = true then (if a2 < 0 then (spec_RunStops.j0 k l1 a2 a3 a4 true a0_0 a0_1 a0_2 a0_3 a0_4) else (if a2 > 5 then (spec_RunStops.j0 k l1 a2 a3 a4 true a0_0 a0_1 a0_2 a0_3 a0_4) else (if a3 < 0 then (spec_RunStops.j0 k l1 a2 a3 a4 true a0_0 a0_1 a0_2 a0_3 a0_4) else (if a3 > 200 then (spec_RunStops.j0 k l1 a2 a3 a4 true a0_0 a0_1 a0_2 a0_3 a0_4) else (if a4 < 0 then (spec_RunStops.j0 k l1 a2 a3 a4 true a0_0 a0_1 a0_2 a0_3 a0_4) else (spec_RunStops.j0 k l1 a2 a3 a4 (decide (a4 > 200)) a0_0 a0_1 a0_2 a0_3 a0_4)))))) else (spec_RunStops.j0 k l1 a2 a3 a4 true a0_0 a0_1 a0_2 a0_3 a0_4))) else (spec_RunStops.j0 k l1 a2 a3 a4 true a0_0 a0_1 a0_2 a0_3 a0_4))) = some (r1, r2, r3) := h); clear h; (have HC6 := aM H); clear H
 go_enter Try.func10, Try.ntmps10
 go_upto_region 1 with (first | ((with_reducible refine gate_dst (N := 5) rfl ?_); refine box_event ?hg (N := 5) ?hd (cs := #[.int .i64 a0_0, .int .i64 a0_1, .int .i64 a0_2, .int .i64 a0_3, .int .i64 a0_4]) (t := 26) ?hr ?_; (case hd => rfl); (case hg => rfl); (case hr => first | (go_simp; done) | (go_simp; rfl)); intro gb275 hg w7 hbox hb; have n0_ := aM (bP (by repeat (first | (with_reducible first | exact HB.out | apply bA | apply bN | apply bD) | exact HB.out)) hb); have n1_ := aM (hbox); have n2_ := aM ((by rw [hg]; exact (bZ (by repeat (first | (with_reducible first | exact HB.out | apply bA | apply bN | apply bD) | exact HB.out))) : w.heap.size ≤ gb275)); have n3_ := aM ((by rw [hg]; exact (bZ (by repeat (first | (with_reducible first | exact HB.out | apply bA | apply bN | apply bD) | exact HB.out))) : w.heap.size ≤ gb275)); clear HB; have HB := n0_; have BK275 := n1_; have GW275 := n2_; have GE275 := n3_; clear n0_ n1_ n2_ n3_; clear hb hbox hg))
 (try simp only [Act.put, List.setIfInBounds_toArray, List.set_cons_zero, List.set_cons_succ])
 go_cut [57] (fun v57 wc => ∃ (kq : Nat) (x57_5 : Bool), v57 = .bool x57_5 ∧ Aside0 (spec_RunStops.j0 kq l1 a2 a3 a4 x57_5 a0_0 a0_1 a0_2 a0_3 a0_4 = some (r1, r2, r3)) ∧ Aside0 (kq ≤ k) ∧ Aside0 (wc.heap[gb275]? = some (.cells #[.int .i64 a0_0, .int .i64 a0_1, .int .i64 a0_2, .int .i64 a0_3, .int .i64 a0_4] 26 (0, 0))) ∧ Aside0 (Below w.heap.size w wc))
 case first =>
  have H := HC6.out; clear HC6; (replace H := Option.bind_eq_some_iff.mp H); (obtain ⟨t276, A80, H⟩ := H); (replace H : (if t276 = true then ((spec_l26Presses.f k l1).bind fun t277 => (if t277 = true then (if a2 < 0 then (spec_RunStops.j0 k l1 a2 a3 a4 true a0_0 a0_1 a0_2 a0_3 a0_4) else (if a2 > 5 then (spec_RunStops.j0 k l1 a2 a3 a4 true a0_0 a0_1 a0_2 a0_3 a0_4) else (if a3 < 0 then (spec_RunStops.j0 k l1 a2 a3 a4 true a0_0 a0_1 a0_2 a0_3 a0_4) else (if a3 > 200 then (spec_RunStops.j0 k l1 a2 a3 a4 true a0_0 a0_1 a0_2 a0_3 a0_4) else (if a4 < 0 then (spec_RunStops.j0 k l1 a2 a3 a4 true a0_0 a0_1 a0_2 a0_3 a0_4) else (spec_RunStops.j0 k l1 a2 a3 a4 (decide (a4 > 200)) a0_0 a0_1 a0_2 a0_3 a0_4)))))) else (spec_RunStops.j0 k l1 a2 a3 a4 true a0_0 a0_1 a0_2 a0_3 a0_4))) else (spec_RunStops.j0 k l1 a2 a3 a4 true a0_0 a0_1 a0_2 a0_3 a0_4)) = some (r1, r2, r3) := H); (have A8 := aM A80); clear A80
  by_cases c9 : t276 = true
  · subst c9
    (have H1 : ((spec_l26Presses.f k l1).bind fun t277 => (if t277 = true then (if a2 < 0 then (spec_RunStops.j0 k l1 a2 a3 a4 true a0_0 a0_1 a0_2 a0_3 a0_4) else (if a2 > 5 then (spec_RunStops.j0 k l1 a2 a3 a4 true a0_0 a0_1 a0_2 a0_3 a0_4) else (if a3 < 0 then (spec_RunStops.j0 k l1 a2 a3 a4 true a0_0 a0_1 a0_2 a0_3 a0_4) else (if a3 > 200 then (spec_RunStops.j0 k l1 a2 a3 a4 true a0_0 a0_1 a0_2 a0_3 a0_4) else (if a4 < 0 then (spec_RunStops.j0 k l1 a2 a3 a4 true a0_0 a0_1 a0_2 a0_3 a0_4) else (spec_RunStops.j0 k l1 a2 a3 a4 (decide (a4 > 200)) a0_0 a0_1 a0_2 a0_3 a0_4)))))) else (spec_RunStops.j0 k l1 a2 a3 a4 true a0_0 a0_1 a0_2 a0_3 a0_4))) = some (r1, r2, r3) := by rw [if_pos rfl] at H; exact H); clear H; have H := H1; clear H1; (replace H := Option.bind_eq_some_iff.mp H); (obtain ⟨t277, A100, H⟩ := H); (replace H : (if t277 = true then (if a2 < 0 then (spec_RunStops.j0 k l1 a2 a3 a4 true a0_0 a0_1 a0_2 a0_3 a0_4) else (if a2 > 5 then (spec_RunStops.j0 k l1 a2 a3 a4 true a0_0 a0_1 a0_2 a0_3 a0_4) else (if a3 < 0 then (spec_RunStops.j0 k l1 a2 a3 a4 true a0_0 a0_1 a0_2 a0_3 a0_4) else (if a3 > 200 then (spec_RunStops.j0 k l1 a2 a3 a4 true a0_0 a0_1 a0_2 a0_3 a0_4) else (if a4 < 0 then (spec_RunStops.j0 k l1 a2 a3 a4 true a0_0 a0_1 a0_2 a0_3 a0_4) else (spec_RunStops.j0 k l1 a2 a3 a4 (decide (a4 > 200)) a0_0 a0_1 a0_2 a0_3 a0_4)))))) else (spec_RunStops.j0 k l1 a2 a3 a4 true a0_0 a0_1 a0_2 a0_3 a0_4)) = some (r1, r2, r3) := H); (have A10 := aM A100); clear A100
    by_cases c11 : t277 = true
    · subst c11
      (have H1 : (if a2 < 0 then (spec_RunStops.j0 k l1 a2 a3 a4 true a0_0 a0_1 a0_2 a0_3 a0_4) else (if a2 > 5 then (spec_RunStops.j0 k l1 a2 a3 a4 true a0_0 a0_1 a0_2 a0_3 a0_4) else (if a3 < 0 then (spec_RunStops.j0 k l1 a2 a3 a4 true a0_0 a0_1 a0_2 a0_3 a0_4) else (if a3 > 200 then (spec_RunStops.j0 k l1 a2 a3 a4 true a0_0 a0_1 a0_2 a0_3 a0_4) else (if a4 < 0 then (spec_RunStops.j0 k l1 a2 a3 a4 true a0_0 a0_1 a0_2 a0_3 a0_4) else (spec_RunStops.j0 k l1 a2 a3 a4 (decide (a4 > 200)) a0_0 a0_1 a0_2 a0_3 a0_4)))))) = some (r1, r2, r3) := by rw [if_pos rfl] at H; exact H); clear H; have H := H1; clear H1
      by_cases c12 : a2 < 0
      · rw [if_pos c12] at H
        (have c12b0 : decide (a2 < 0) = true := decide_eq_true c12); clear c12
        (first | rw [c12b0] | (simp only [i64_w, i32_w]; rw [c12b0]) | skip)
        (have H' := aM H); clear H; (have hcz13_0 : w7.cell? ⟨gb275, 0, none⟩ = some (.int .i64 a0_0) := (cZ BK275.out 0).trans rfl); (have hcz13_1 : w7.cell? ⟨gb275, 1, none⟩ = some (.int .i64 a0_1) := (cZ BK275.out 1).trans rfl); (have hcz13_2 : w7.cell? ⟨gb275, 2, none⟩ = some (.int .i64 a0_2) := (cZ BK275.out 2).trans rfl); (have hcz13_3 : w7.cell? ⟨gb275, 3, none⟩ = some (.int .i64 a0_3) := (cZ BK275.out 3).trans rfl); (have hcz13_4 : w7.cell? ⟨gb275, 4, none⟩ = some (.int .i64 a0_4) := (cZ BK275.out 4).trans rfl); (have hfz13_0 := fZ BK275.out 0); (have hfz13_1 := fZ BK275.out 1); (have hfz13_2 := fZ BK275.out 2); (have hfz13_3 := fZ BK275.out 3); (have hfz13_4 := fZ BK275.out 4)
        go_wp2_with (first | ((with_reducible refine gate_callee (f := 34) rfl ?_); refine goesL_ (some 27) rfl rfl Try.func34 (by kernel_rfl) rfl #[.agg #[.int .i64 a0_0, .int .i64 a0_1, .int .i64 a0_2, .int .i64 a0_3, .int .i64 a0_4]] rfl (by (try simp only [List.map_toArray, List.map_cons, List.map_nil]); first | done | rfl | (simp only [List.length_drop, List.length_take]; rfl)) ?_; (with_reducible refine (spec_GoodGear.calls a0_0 a0_1 a0_2 a0_3 a0_4 true _ A8.out).mono ?_); rintro e w14 ⟨rfl, hb⟩; refine ⟨_, rfl, ?_⟩; have n0_ := aM (kB (g := gb275) (o := .cells #[.int .i64 a0_0, .int .i64 a0_1, .int .i64 a0_2, .int .i64 a0_3, .int .i64 a0_4] 26 (0, 0)) (by (with_reducible repeat (first | refine kN ?_ _ | refine kD ?_ | refine kA ?_ _)); exact BK275.out) hb); have n1_ := aM (bP (by repeat (first | (with_reducible first | exact HB.out | apply bA | apply bN | apply bD | refine bS ?_ GE275.out) | exact HB.out)) hb); clear BK275; clear HB; have BK275 := n0_; have HB := n1_; clear n0_ n1_; (try clear hb); (try clear hb2); (try clear hk); (try clear hi)) | (go_at_call 35; (with_reducible refine (spec_l26Presses.calls k _ _ l1 true _ ?side1 ?side2 A10.out).mono ?_); (case side1 => repeat (first | exact (Kd.C_below HR1.out HB.out) | (with_reducible refine Kd.C_alloc ?_ _) | (with_reducible refine Kd.C_drewN ?_ _) | (with_reducible refine Kd.C_drew ?_))); (case side2 => exact HC1.out); rintro e w15 ⟨rfl, hb⟩; have n0_ := aM (kB (g := gb275) (o := .cells #[.int .i64 a0_0, .int .i64 a0_1, .int .i64 a0_2, .int .i64 a0_3, .int .i64 a0_4] 26 (0, 0)) (by (with_reducible repeat (first | refine kN ?_ _ | refine kD ?_ | refine kA ?_ _)); exact BK275.out) hb); have n1_ := aM (bP (by repeat (first | (with_reducible first | exact HB.out | apply bA | apply bN | apply bD | refine bS ?_ GE275.out) | exact HB.out)) hb); clear BK275; clear HB; have BK275 := n0_; have HB := n1_; clear n0_ n1_; (try clear hb); (try clear hb2); (try clear hk); (try clear hi)))
        go_meet
        case rel => exact ⟨_, (true), (by first | rfl | (simp; done) | (simp [*]; done)), H', ⟨by first | omega | exact Nat.le_refl _⟩, ⟨by (with_reducible repeat (first | refine kN ?_ _ | refine kD ?_ | refine kA ?_ _)); exact BK275.out⟩, ⟨by repeat (first | (with_reducible first | exact HB.out | apply bA | apply bN | apply bD | refine bS ?_ GE275.out) | exact HB.out)⟩⟩
      · rw [if_neg c12] at H
        (have c12b0 : decide (a2 < 0) = false := decide_eq_false c12); clear c12
        (first | rw [c12b0] | (simp only [i64_w, i32_w]; rw [c12b0]) | skip)
        by_cases c16 : a2 > 5
        · rw [if_pos c16] at H
          (have c16b0 : decide (5 < a2) = true := decide_eq_true c16); clear c16; (have H' := aM H); clear H; (have hcz17_0 : w7.cell? ⟨gb275, 0, none⟩ = some (.int .i64 a0_0) := (cZ BK275.out 0).trans rfl); (have hcz17_1 : w7.cell? ⟨gb275, 1, none⟩ = some (.int .i64 a0_1) := (cZ BK275.out 1).trans rfl); (have hcz17_2 : w7.cell? ⟨gb275, 2, none⟩ = some (.int .i64 a0_2) := (cZ BK275.out 2).trans rfl); (have hcz17_3 : w7.cell? ⟨gb275, 3, none⟩ = some (.int .i64 a0_3) := (cZ BK275.out 3).trans rfl); (have hcz17_4 : w7.cell? ⟨gb275, 4, none⟩ = some (.int .i64 a0_4) := (cZ BK275.out 4).trans rfl); (have hfz17_0 := fZ BK275.out 0); (have hfz17_1 := fZ BK275.out 1); (have hfz17_2 := fZ BK275.out 2); (have hfz17_3 := fZ BK275.out 3); (have hfz17_4 := fZ BK275.out 4)
          go_wp2_with (first | ((with_reducible refine gate_callee (f := 34) rfl ?_); refine goesL_ (some 27) rfl rfl Try.func34 (by kernel_rfl) rfl #[.agg #[.int .i64 a0_0, .int .i64 a0_1, .int .i64 a0_2, .int .i64 a0_3, .int .i64 a0_4]] rfl (by (try simp only [List.map_toArray, List.map_cons, List.map_nil]); first | done | rfl | (simp only [List.length_drop, List.length_take]; rfl)) ?_; (with_reducible refine (spec_GoodGear.calls a0_0 a0_1 a0_2 a0_3 a0_4 true _ A8.out).mono ?_); rintro e w18 ⟨rfl, hb⟩; refine ⟨_, rfl, ?_⟩; have n0_ := aM (kB (g := gb275) (o := .cells #[.int .i64 a0_0, .int .i64 a0_1, .int .i64 a0_2, .int .i64 a0_3, .int .i64 a0_4] 26 (0, 0)) (by (with_reducible repeat (first | refine kN ?_ _ | refine kD ?_ | refine kA ?_ _)); exact BK275.out) hb); have n1_ := aM (bP (by repeat (first | (with_reducible first | exact HB.out | apply bA | apply bN | apply bD | refine bS ?_ GE275.out) | exact HB.out)) hb); clear BK275; clear HB; have BK275 := n0_; have HB := n1_; clear n0_ n1_; (try clear hb); (try clear hb2); (try clear hk); (try clear hi)) | (go_at_call 35; (with_reducible refine (spec_l26Presses.calls k _ _ l1 true _ ?side1 ?side2 A10.out).mono ?_); (case side1 => repeat (first | exact (Kd.C_below HR1.out HB.out) | (with_reducible refine Kd.C_alloc ?_ _) | (with_reducible refine Kd.C_drewN ?_ _) | (with_reducible refine Kd.C_drew ?_))); (case side2 => exact HC1.out); rintro e w19 ⟨rfl, hb⟩; have n0_ := aM (kB (g := gb275) (o := .cells #[.int .i64 a0_0, .int .i64 a0_1, .int .i64 a0_2, .int .i64 a0_3, .int .i64 a0_4] 26 (0, 0)) (by (with_reducible repeat (first | refine kN ?_ _ | refine kD ?_ | refine kA ?_ _)); exact BK275.out) hb); have n1_ := aM (bP (by repeat (first | (with_reducible first | exact HB.out | apply bA | apply bN | apply bD | refine bS ?_ GE275.out) | exact HB.out)) hb); clear BK275; clear HB; have BK275 := n0_; have HB := n1_; clear n0_ n1_; (try clear hb); (try clear hb2); (try clear hk); (try clear hi)))
          go_meet
          case rel => exact ⟨_, (true), (by first | rfl | (simp; done) | (simp [*]; done)), H', ⟨by first | omega | exact Nat.le_refl _⟩, ⟨by (with_reducible repeat (first | refine kN ?_ _ | refine kD ?_ | refine kA ?_ _)); exact BK275.out⟩, ⟨by repeat (first | (with_reducible first | exact HB.out | apply bA | apply bN | apply bD | refine bS ?_ GE275.out) | exact HB.out)⟩⟩
        · rw [if_neg c16] at H
          (have c16b0 : decide (5 < a2) = false := decide_eq_false c16); clear c16
          by_cases c20 : a3 < 0
          · rw [if_pos c20] at H
            (have c20b0 : decide (a3 < 0) = true := decide_eq_true c20); clear c20; (have H' := aM H); clear H; (have hcz21_0 : w7.cell? ⟨gb275, 0, none⟩ = some (.int .i64 a0_0) := (cZ BK275.out 0).trans rfl); (have hcz21_1 : w7.cell? ⟨gb275, 1, none⟩ = some (.int .i64 a0_1) := (cZ BK275.out 1).trans rfl); (have hcz21_2 : w7.cell? ⟨gb275, 2, none⟩ = some (.int .i64 a0_2) := (cZ BK275.out 2).trans rfl); (have hcz21_3 : w7.cell? ⟨gb275, 3, none⟩ = some (.int .i64 a0_3) := (cZ BK275.out 3).trans rfl); (have hcz21_4 : w7.cell? ⟨gb275, 4, none⟩ = some (.int .i64 a0_4) := (cZ BK275.out 4).trans rfl); (have hfz21_0 := fZ BK275.out 0); (have hfz21_1 := fZ BK275.out 1); (have hfz21_2 := fZ BK275.out 2); (have hfz21_3 := fZ BK275.out 3); (have hfz21_4 := fZ BK275.out 4)
            go_wp2_with (first | ((with_reducible refine gate_callee (f := 34) rfl ?_); refine goesL_ (some 27) rfl rfl Try.func34 (by kernel_rfl) rfl #[.agg #[.int .i64 a0_0, .int .i64 a0_1, .int .i64 a0_2, .int .i64 a0_3, .int .i64 a0_4]] rfl (by (try simp only [List.map_toArray, List.map_cons, List.map_nil]); first | done | rfl | (simp only [List.length_drop, List.length_take]; rfl)) ?_; (with_reducible refine (spec_GoodGear.calls a0_0 a0_1 a0_2 a0_3 a0_4 true _ A8.out).mono ?_); rintro e w22 ⟨rfl, hb⟩; refine ⟨_, rfl, ?_⟩; have n0_ := aM (kB (g := gb275) (o := .cells #[.int .i64 a0_0, .int .i64 a0_1, .int .i64 a0_2, .int .i64 a0_3, .int .i64 a0_4] 26 (0, 0)) (by (with_reducible repeat (first | refine kN ?_ _ | refine kD ?_ | refine kA ?_ _)); exact BK275.out) hb); have n1_ := aM (bP (by repeat (first | (with_reducible first | exact HB.out | apply bA | apply bN | apply bD | refine bS ?_ GE275.out) | exact HB.out)) hb); clear BK275; clear HB; have BK275 := n0_; have HB := n1_; clear n0_ n1_; (try clear hb); (try clear hb2); (try clear hk); (try clear hi)) | (go_at_call 35; (with_reducible refine (spec_l26Presses.calls k _ _ l1 true _ ?side1 ?side2 A10.out).mono ?_); (case side1 => repeat (first | exact (Kd.C_below HR1.out HB.out) | (with_reducible refine Kd.C_alloc ?_ _) | (with_reducible refine Kd.C_drewN ?_ _) | (with_reducible refine Kd.C_drew ?_))); (case side2 => exact HC1.out); rintro e w23 ⟨rfl, hb⟩; have n0_ := aM (kB (g := gb275) (o := .cells #[.int .i64 a0_0, .int .i64 a0_1, .int .i64 a0_2, .int .i64 a0_3, .int .i64 a0_4] 26 (0, 0)) (by (with_reducible repeat (first | refine kN ?_ _ | refine kD ?_ | refine kA ?_ _)); exact BK275.out) hb); have n1_ := aM (bP (by repeat (first | (with_reducible first | exact HB.out | apply bA | apply bN | apply bD | refine bS ?_ GE275.out) | exact HB.out)) hb); clear BK275; clear HB; have BK275 := n0_; have HB := n1_; clear n0_ n1_; (try clear hb); (try clear hb2); (try clear hk); (try clear hi)))
            go_meet
            case rel => exact ⟨_, (true), (by first | rfl | (simp; done) | (simp [*]; done)), H', ⟨by first | omega | exact Nat.le_refl _⟩, ⟨by (with_reducible repeat (first | refine kN ?_ _ | refine kD ?_ | refine kA ?_ _)); exact BK275.out⟩, ⟨by repeat (first | (with_reducible first | exact HB.out | apply bA | apply bN | apply bD | refine bS ?_ GE275.out) | exact HB.out)⟩⟩
          · rw [if_neg c20] at H
            (have c20b0 : decide (a3 < 0) = false := decide_eq_false c20); clear c20
            by_cases c24 : a3 > 200
            · rw [if_pos c24] at H
              (have c24b0 : decide (200 < a3) = true := decide_eq_true c24); clear c24; (have H' := aM H); clear H; (have hcz25_0 : w7.cell? ⟨gb275, 0, none⟩ = some (.int .i64 a0_0) := (cZ BK275.out 0).trans rfl); (have hcz25_1 : w7.cell? ⟨gb275, 1, none⟩ = some (.int .i64 a0_1) := (cZ BK275.out 1).trans rfl); (have hcz25_2 : w7.cell? ⟨gb275, 2, none⟩ = some (.int .i64 a0_2) := (cZ BK275.out 2).trans rfl); (have hcz25_3 : w7.cell? ⟨gb275, 3, none⟩ = some (.int .i64 a0_3) := (cZ BK275.out 3).trans rfl); (have hcz25_4 : w7.cell? ⟨gb275, 4, none⟩ = some (.int .i64 a0_4) := (cZ BK275.out 4).trans rfl); (have hfz25_0 := fZ BK275.out 0); (have hfz25_1 := fZ BK275.out 1); (have hfz25_2 := fZ BK275.out 2); (have hfz25_3 := fZ BK275.out 3); (have hfz25_4 := fZ BK275.out 4)
              go_wp2_with (first | ((with_reducible refine gate_callee (f := 34) rfl ?_); refine goesL_ (some 27) rfl rfl Try.func34 (by kernel_rfl) rfl #[.agg #[.int .i64 a0_0, .int .i64 a0_1, .int .i64 a0_2, .int .i64 a0_3, .int .i64 a0_4]] rfl (by (try simp only [List.map_toArray, List.map_cons, List.map_nil]); first | done | rfl | (simp only [List.length_drop, List.length_take]; rfl)) ?_; (with_reducible refine (spec_GoodGear.calls a0_0 a0_1 a0_2 a0_3 a0_4 true _ A8.out).mono ?_); rintro e w26 ⟨rfl, hb⟩; refine ⟨_, rfl, ?_⟩; have n0_ := aM (kB (g := gb275) (o := .cells #[.int .i64 a0_0, .int .i64 a0_1, .int .i64 a0_2, .int .i64 a0_3, .int .i64 a0_4] 26 (0, 0)) (by (with_reducible repeat (first | refine kN ?_ _ | refine kD ?_ | refine kA ?_ _)); exact BK275.out) hb); have n1_ := aM (bP (by repeat (first | (with_reducible first | exact HB.out | apply bA | apply bN | apply bD | refine bS ?_ GE275.out) | exact HB.out)) hb); clear BK275; clear HB; have BK275 := n0_; have HB := n1_; clear n0_ n1_; (try clear hb); (try clear hb2); (try clear hk); (try clear hi)) | (go_at_call 35; (with_reducible refine (spec_l26Presses.calls k _ _ l1 true _ ?side1 ?side2 A10.out).mono ?_); (case side1 => repeat (first | exact (Kd.C_below HR1.out HB.out) | (with_reducible refine Kd.C_alloc ?_ _) | (with_reducible refine Kd.C_drewN ?_ _) | (with_reducible refine Kd.C_drew ?_))); (case side2 => exact HC1.out); rintro e w27 ⟨rfl, hb⟩; have n0_ := aM (kB (g := gb275) (o := .cells #[.int .i64 a0_0, .int .i64 a0_1, .int .i64 a0_2, .int .i64 a0_3, .int .i64 a0_4] 26 (0, 0)) (by (with_reducible repeat (first | refine kN ?_ _ | refine kD ?_ | refine kA ?_ _)); exact BK275.out) hb); have n1_ := aM (bP (by repeat (first | (with_reducible first | exact HB.out | apply bA | apply bN | apply bD | refine bS ?_ GE275.out) | exact HB.out)) hb); clear BK275; clear HB; have BK275 := n0_; have HB := n1_; clear n0_ n1_; (try clear hb); (try clear hb2); (try clear hk); (try clear hi)))
              go_meet
              case rel => exact ⟨_, (true), (by first | rfl | (simp; done) | (simp [*]; done)), H', ⟨by first | omega | exact Nat.le_refl _⟩, ⟨by (with_reducible repeat (first | refine kN ?_ _ | refine kD ?_ | refine kA ?_ _)); exact BK275.out⟩, ⟨by repeat (first | (with_reducible first | exact HB.out | apply bA | apply bN | apply bD | refine bS ?_ GE275.out) | exact HB.out)⟩⟩
            · rw [if_neg c24] at H
              (have c24b0 : decide (200 < a3) = false := decide_eq_false c24); clear c24
              by_cases c28 : a4 < 0
              · rw [if_pos c28] at H
                (have c28b0 : decide (a4 < 0) = true := decide_eq_true c28); clear c28; (have H' := aM H); clear H; (have hcz29_0 : w7.cell? ⟨gb275, 0, none⟩ = some (.int .i64 a0_0) := (cZ BK275.out 0).trans rfl); (have hcz29_1 : w7.cell? ⟨gb275, 1, none⟩ = some (.int .i64 a0_1) := (cZ BK275.out 1).trans rfl); (have hcz29_2 : w7.cell? ⟨gb275, 2, none⟩ = some (.int .i64 a0_2) := (cZ BK275.out 2).trans rfl); (have hcz29_3 : w7.cell? ⟨gb275, 3, none⟩ = some (.int .i64 a0_3) := (cZ BK275.out 3).trans rfl); (have hcz29_4 : w7.cell? ⟨gb275, 4, none⟩ = some (.int .i64 a0_4) := (cZ BK275.out 4).trans rfl); (have hfz29_0 := fZ BK275.out 0); (have hfz29_1 := fZ BK275.out 1); (have hfz29_2 := fZ BK275.out 2); (have hfz29_3 := fZ BK275.out 3); (have hfz29_4 := fZ BK275.out 4)
                go_wp2_with (first | ((with_reducible refine gate_callee (f := 34) rfl ?_); refine goesL_ (some 27) rfl rfl Try.func34 (by kernel_rfl) rfl #[.agg #[.int .i64 a0_0, .int .i64 a0_1, .int .i64 a0_2, .int .i64 a0_3, .int .i64 a0_4]] rfl (by (try simp only [List.map_toArray, List.map_cons, List.map_nil]); first | done | rfl | (simp only [List.length_drop, List.length_take]; rfl)) ?_; (with_reducible refine (spec_GoodGear.calls a0_0 a0_1 a0_2 a0_3 a0_4 true _ A8.out).mono ?_); rintro e w30 ⟨rfl, hb⟩; refine ⟨_, rfl, ?_⟩; have n0_ := aM (kB (g := gb275) (o := .cells #[.int .i64 a0_0, .int .i64 a0_1, .int .i64 a0_2, .int .i64 a0_3, .int .i64 a0_4] 26 (0, 0)) (by (with_reducible repeat (first | refine kN ?_ _ | refine kD ?_ | refine kA ?_ _)); exact BK275.out) hb); have n1_ := aM (bP (by repeat (first | (with_reducible first | exact HB.out | apply bA | apply bN | apply bD | refine bS ?_ GE275.out) | exact HB.out)) hb); clear BK275; clear HB; have BK275 := n0_; have HB := n1_; clear n0_ n1_; (try clear hb); (try clear hb2); (try clear hk); (try clear hi)) | (go_at_call 35; (with_reducible refine (spec_l26Presses.calls k _ _ l1 true _ ?side1 ?side2 A10.out).mono ?_); (case side1 => repeat (first | exact (Kd.C_below HR1.out HB.out) | (with_reducible refine Kd.C_alloc ?_ _) | (with_reducible refine Kd.C_drewN ?_ _) | (with_reducible refine Kd.C_drew ?_))); (case side2 => exact HC1.out); rintro e w31 ⟨rfl, hb⟩; have n0_ := aM (kB (g := gb275) (o := .cells #[.int .i64 a0_0, .int .i64 a0_1, .int .i64 a0_2, .int .i64 a0_3, .int .i64 a0_4] 26 (0, 0)) (by (with_reducible repeat (first | refine kN ?_ _ | refine kD ?_ | refine kA ?_ _)); exact BK275.out) hb); have n1_ := aM (bP (by repeat (first | (with_reducible first | exact HB.out | apply bA | apply bN | apply bD | refine bS ?_ GE275.out) | exact HB.out)) hb); clear BK275; clear HB; have BK275 := n0_; have HB := n1_; clear n0_ n1_; (try clear hb); (try clear hb2); (try clear hk); (try clear hi)))
                go_meet
                case rel => exact ⟨_, (true), (by first | rfl | (simp; done) | (simp [*]; done)), H', ⟨by first | omega | exact Nat.le_refl _⟩, ⟨by (with_reducible repeat (first | refine kN ?_ _ | refine kD ?_ | refine kA ?_ _)); exact BK275.out⟩, ⟨by repeat (first | (with_reducible first | exact HB.out | apply bA | apply bN | apply bD | refine bS ?_ GE275.out) | exact HB.out)⟩⟩
              · rw [if_neg c28] at H
                (have c28b0 : decide (a4 < 0) = false := decide_eq_false c28); clear c28; (have H' := aM H); clear H; (have hcz32_0 : w7.cell? ⟨gb275, 0, none⟩ = some (.int .i64 a0_0) := (cZ BK275.out 0).trans rfl); (have hcz32_1 : w7.cell? ⟨gb275, 1, none⟩ = some (.int .i64 a0_1) := (cZ BK275.out 1).trans rfl); (have hcz32_2 : w7.cell? ⟨gb275, 2, none⟩ = some (.int .i64 a0_2) := (cZ BK275.out 2).trans rfl); (have hcz32_3 : w7.cell? ⟨gb275, 3, none⟩ = some (.int .i64 a0_3) := (cZ BK275.out 3).trans rfl); (have hcz32_4 : w7.cell? ⟨gb275, 4, none⟩ = some (.int .i64 a0_4) := (cZ BK275.out 4).trans rfl); (have hfz32_0 := fZ BK275.out 0); (have hfz32_1 := fZ BK275.out 1); (have hfz32_2 := fZ BK275.out 2); (have hfz32_3 := fZ BK275.out 3); (have hfz32_4 := fZ BK275.out 4)
                go_wp2_with (first | ((with_reducible refine gate_callee (f := 34) rfl ?_); refine goesL_ (some 27) rfl rfl Try.func34 (by kernel_rfl) rfl #[.agg #[.int .i64 a0_0, .int .i64 a0_1, .int .i64 a0_2, .int .i64 a0_3, .int .i64 a0_4]] rfl (by (try simp only [List.map_toArray, List.map_cons, List.map_nil]); first | done | rfl | (simp only [List.length_drop, List.length_take]; rfl)) ?_; (with_reducible refine (spec_GoodGear.calls a0_0 a0_1 a0_2 a0_3 a0_4 true _ A8.out).mono ?_); rintro e w33 ⟨rfl, hb⟩; refine ⟨_, rfl, ?_⟩; have n0_ := aM (kB (g := gb275) (o := .cells #[.int .i64 a0_0, .int .i64 a0_1, .int .i64 a0_2, .int .i64 a0_3, .int .i64 a0_4] 26 (0, 0)) (by (with_reducible repeat (first | refine kN ?_ _ | refine kD ?_ | refine kA ?_ _)); exact BK275.out) hb); have n1_ := aM (bP (by repeat (first | (with_reducible first | exact HB.out | apply bA | apply bN | apply bD | refine bS ?_ GE275.out) | exact HB.out)) hb); clear BK275; clear HB; have BK275 := n0_; have HB := n1_; clear n0_ n1_; (try clear hb); (try clear hb2); (try clear hk); (try clear hi)) | (go_at_call 35; (with_reducible refine (spec_l26Presses.calls k _ _ l1 true _ ?side1 ?side2 A10.out).mono ?_); (case side1 => repeat (first | exact (Kd.C_below HR1.out HB.out) | (with_reducible refine Kd.C_alloc ?_ _) | (with_reducible refine Kd.C_drewN ?_ _) | (with_reducible refine Kd.C_drew ?_))); (case side2 => exact HC1.out); rintro e w34 ⟨rfl, hb⟩; have n0_ := aM (kB (g := gb275) (o := .cells #[.int .i64 a0_0, .int .i64 a0_1, .int .i64 a0_2, .int .i64 a0_3, .int .i64 a0_4] 26 (0, 0)) (by (with_reducible repeat (first | refine kN ?_ _ | refine kD ?_ | refine kA ?_ _)); exact BK275.out) hb); have n1_ := aM (bP (by repeat (first | (with_reducible first | exact HB.out | apply bA | apply bN | apply bD | refine bS ?_ GE275.out) | exact HB.out)) hb); clear BK275; clear HB; have BK275 := n0_; have HB := n1_; clear n0_ n1_; (try clear hb); (try clear hb2); (try clear hk); (try clear hi)))
                go_meet
                case rel => exact ⟨_, (decide (a4 > 200)), (by first | rfl | (simp; done) | (simp [*]; done)), H', ⟨by first | omega | exact Nat.le_refl _⟩, ⟨by (with_reducible repeat (first | refine kN ?_ _ | refine kD ?_ | refine kA ?_ _)); exact BK275.out⟩, ⟨by repeat (first | (with_reducible first | exact HB.out | apply bA | apply bN | apply bD | refine bS ?_ GE275.out) | exact HB.out)⟩⟩
    · replace c11 := Bool.eq_false_iff.mpr c11
      subst c11; (have H1 : (spec_RunStops.j0 k l1 a2 a3 a4 true a0_0 a0_1 a0_2 a0_3 a0_4) = some (r1, r2, r3) := by rw [if_neg (show ¬ (false = true) by decide)] at H; exact H); clear H; have H := H1; clear H1; (have H' := aM H); clear H; (have hcz35_0 : w7.cell? ⟨gb275, 0, none⟩ = some (.int .i64 a0_0) := (cZ BK275.out 0).trans rfl); (have hcz35_1 : w7.cell? ⟨gb275, 1, none⟩ = some (.int .i64 a0_1) := (cZ BK275.out 1).trans rfl); (have hcz35_2 : w7.cell? ⟨gb275, 2, none⟩ = some (.int .i64 a0_2) := (cZ BK275.out 2).trans rfl); (have hcz35_3 : w7.cell? ⟨gb275, 3, none⟩ = some (.int .i64 a0_3) := (cZ BK275.out 3).trans rfl); (have hcz35_4 : w7.cell? ⟨gb275, 4, none⟩ = some (.int .i64 a0_4) := (cZ BK275.out 4).trans rfl); (have hfz35_0 := fZ BK275.out 0); (have hfz35_1 := fZ BK275.out 1); (have hfz35_2 := fZ BK275.out 2); (have hfz35_3 := fZ BK275.out 3); (have hfz35_4 := fZ BK275.out 4)
      go_wp2_with (first | ((with_reducible refine gate_callee (f := 34) rfl ?_); refine goesL_ (some 27) rfl rfl Try.func34 (by kernel_rfl) rfl #[.agg #[.int .i64 a0_0, .int .i64 a0_1, .int .i64 a0_2, .int .i64 a0_3, .int .i64 a0_4]] rfl (by (try simp only [List.map_toArray, List.map_cons, List.map_nil]); first | done | rfl | (simp only [List.length_drop, List.length_take]; rfl)) ?_; (with_reducible refine (spec_GoodGear.calls a0_0 a0_1 a0_2 a0_3 a0_4 true _ A8.out).mono ?_); rintro e w36 ⟨rfl, hb⟩; refine ⟨_, rfl, ?_⟩; have n0_ := aM (kB (g := gb275) (o := .cells #[.int .i64 a0_0, .int .i64 a0_1, .int .i64 a0_2, .int .i64 a0_3, .int .i64 a0_4] 26 (0, 0)) (by (with_reducible repeat (first | refine kN ?_ _ | refine kD ?_ | refine kA ?_ _)); exact BK275.out) hb); have n1_ := aM (bP (by repeat (first | (with_reducible first | exact HB.out | apply bA | apply bN | apply bD | refine bS ?_ GE275.out) | exact HB.out)) hb); clear BK275; clear HB; have BK275 := n0_; have HB := n1_; clear n0_ n1_; (try clear hb); (try clear hb2); (try clear hk); (try clear hi)) | (go_at_call 35; (with_reducible refine (spec_l26Presses.calls k _ _ l1 false _ ?side1 ?side2 A10.out).mono ?_); (case side1 => repeat (first | exact (Kd.C_below HR1.out HB.out) | (with_reducible refine Kd.C_alloc ?_ _) | (with_reducible refine Kd.C_drewN ?_ _) | (with_reducible refine Kd.C_drew ?_))); (case side2 => exact HC1.out); rintro e w37 ⟨rfl, hb⟩; have n0_ := aM (kB (g := gb275) (o := .cells #[.int .i64 a0_0, .int .i64 a0_1, .int .i64 a0_2, .int .i64 a0_3, .int .i64 a0_4] 26 (0, 0)) (by (with_reducible repeat (first | refine kN ?_ _ | refine kD ?_ | refine kA ?_ _)); exact BK275.out) hb); have n1_ := aM (bP (by repeat (first | (with_reducible first | exact HB.out | apply bA | apply bN | apply bD | refine bS ?_ GE275.out) | exact HB.out)) hb); clear BK275; clear HB; have BK275 := n0_; have HB := n1_; clear n0_ n1_; (try clear hb); (try clear hb2); (try clear hk); (try clear hi)))
      go_meet
      case rel => exact ⟨_, (true), (by first | rfl | (simp; done) | (simp [*]; done)), H', ⟨by first | omega | exact Nat.le_refl _⟩, ⟨by (with_reducible repeat (first | refine kN ?_ _ | refine kD ?_ | refine kA ?_ _)); exact BK275.out⟩, ⟨by repeat (first | (with_reducible first | exact HB.out | apply bA | apply bN | apply bD | refine bS ?_ GE275.out) | exact HB.out)⟩⟩
  · replace c9 := Bool.eq_false_iff.mpr c9
    subst c9; (have H1 : (spec_RunStops.j0 k l1 a2 a3 a4 true a0_0 a0_1 a0_2 a0_3 a0_4) = some (r1, r2, r3) := by rw [if_neg (show ¬ (false = true) by decide)] at H; exact H); clear H; have H := H1; clear H1; (have H' := aM H); clear H; (have hcz38_0 : w7.cell? ⟨gb275, 0, none⟩ = some (.int .i64 a0_0) := (cZ BK275.out 0).trans rfl); (have hcz38_1 : w7.cell? ⟨gb275, 1, none⟩ = some (.int .i64 a0_1) := (cZ BK275.out 1).trans rfl); (have hcz38_2 : w7.cell? ⟨gb275, 2, none⟩ = some (.int .i64 a0_2) := (cZ BK275.out 2).trans rfl); (have hcz38_3 : w7.cell? ⟨gb275, 3, none⟩ = some (.int .i64 a0_3) := (cZ BK275.out 3).trans rfl); (have hcz38_4 : w7.cell? ⟨gb275, 4, none⟩ = some (.int .i64 a0_4) := (cZ BK275.out 4).trans rfl); (have hfz38_0 := fZ BK275.out 0); (have hfz38_1 := fZ BK275.out 1); (have hfz38_2 := fZ BK275.out 2); (have hfz38_3 := fZ BK275.out 3); (have hfz38_4 := fZ BK275.out 4)
    go_wp2_with (first | ((with_reducible refine gate_callee (f := 34) rfl ?_); refine goesL_ (some 27) rfl rfl Try.func34 (by kernel_rfl) rfl #[.agg #[.int .i64 a0_0, .int .i64 a0_1, .int .i64 a0_2, .int .i64 a0_3, .int .i64 a0_4]] rfl (by (try simp only [List.map_toArray, List.map_cons, List.map_nil]); first | done | rfl | (simp only [List.length_drop, List.length_take]; rfl)) ?_; (with_reducible refine (spec_GoodGear.calls a0_0 a0_1 a0_2 a0_3 a0_4 false _ A8.out).mono ?_); rintro e w39 ⟨rfl, hb⟩; refine ⟨_, rfl, ?_⟩; have n0_ := aM (kB (g := gb275) (o := .cells #[.int .i64 a0_0, .int .i64 a0_1, .int .i64 a0_2, .int .i64 a0_3, .int .i64 a0_4] 26 (0, 0)) (by (with_reducible repeat (first | refine kN ?_ _ | refine kD ?_ | refine kA ?_ _)); exact BK275.out) hb); have n1_ := aM (bP (by repeat (first | (with_reducible first | exact HB.out | apply bA | apply bN | apply bD | refine bS ?_ GE275.out) | exact HB.out)) hb); clear BK275; clear HB; have BK275 := n0_; have HB := n1_; clear n0_ n1_; (try clear hb); (try clear hb2); (try clear hk); (try clear hi)))
    go_meet
    case rel => exact ⟨_, (true), (by first | rfl | (simp; done) | (simp [*]; done)), H', ⟨by first | omega | exact Nat.le_refl _⟩, ⟨by (with_reducible repeat (first | refine kN ?_ _ | refine kD ?_ | refine kA ?_ _)); exact BK275.out⟩, ⟨by repeat (first | (with_reducible first | exact HB.out | apply bA | apply bN | apply bD | refine bS ?_ GE275.out) | exact HB.out)⟩⟩
 case rest =>
  clear HC6; (try clear c1); (try clear c2); (try clear p2); (try clear c3); (try clear c9); (try clear c10); (try clear c11); (try clear c12); (try clear c12b0); (try clear c16); (try clear c16b0); (try clear c20); (try clear c20b0); (try clear c24); (try clear c24b0); (try clear c28); (try clear c28b0); (try clear c34); (try clear hcz13_0); (try clear hcz13_1); (try clear hcz13_2); (try clear hcz13_3); (try clear hcz13_4); (try clear hcz17_0); (try clear hcz17_1); (try clear hcz17_2); (try clear hcz17_3); (try clear hcz17_4); (try clear hcz21_0); (try clear hcz21_1); (try clear hcz21_2); (try clear hcz21_3); (try clear hcz21_4); (try clear hcz25_0); (try clear hcz25_1); (try clear hcz25_2); (try clear hcz25_3); (try clear hcz25_4); (try clear hcz29_0); (try clear hcz29_1); (try clear hcz29_2); (try clear hcz29_3); (try clear hcz29_4); (try clear hcz32_0); (try clear hcz32_1); (try clear hcz32_2); (try clear hcz32_3); (try clear hcz32_4); (try clear hcz35_0); (try clear hcz35_1); (try clear hcz35_2); (try clear hcz35_3); (try clear hcz35_4); (try clear hcz38_0); (try clear hcz38_1); (try clear hcz38_2); (try clear hcz38_3); (try clear hcz38_4); (try clear hfz13_0); (try clear hfz13_1); (try clear hfz13_2); (try clear hfz13_3); (try clear hfz13_4); (try clear hfz17_0); (try clear hfz17_1); (try clear hfz17_2); (try clear hfz17_3); (try clear hfz17_4); (try clear hfz21_0); (try clear hfz21_1); (try clear hfz21_2); (try clear hfz21_3); (try clear hfz21_4); (try clear hfz25_0)
  (try clear hfz25_1); (try clear hfz25_2); (try clear hfz25_3); (try clear hfz25_4); (try clear hfz29_0); (try clear hfz29_1); (try clear hfz29_2); (try clear hfz29_3); (try clear hfz29_4); (try clear hfz32_0); (try clear hfz32_1); (try clear hfz32_2); (try clear hfz32_3); (try clear hfz32_4); (try clear hfz35_0); (try clear hfz35_1); (try clear hfz35_2); (try clear hfz35_3); (try clear hfz35_4); (try clear hfz38_0); (try clear hfz38_1); (try clear hfz38_2); (try clear hfz38_3); (try clear hfz38_4); (obtain ⟨kq, x57_5, rfl, HA, HJ5, BK275, HB⟩ := hcut)
  cases kq with
  | zero => exact absurd HA.out (by simp [spec_RunStops.j0])
  | succ kj5 =>
   have H := HA.out; clear HA; (simp only [spec_RunStops.j0] at H)
   by_cases c40 : x57_5 = true
   · subst c40
     (have H1 : (some (([] : List Int), ([] : List Bool), false)) = some (r1, r2, r3) := by rw [if_pos rfl] at H; exact H); clear H; have H := H1; clear H1; (simp only [Option.some.injEq, Prod.mk.injEq] at H); (obtain ⟨rfl, rfl, rfl⟩ := H)
     go_wp2
     go_ret3
     exact ⟨_, _, by first | rfl | (simp [errW_none, errW_some] <;> rfl) | (simp [*, errW_none, errW_some] <;> rfl), by first | exact Kd.R_nil _ _ _ _ _ | exact Kd.N_nil _ _ _ _ _ | exact Kd.V_nil _ _ _ _ _ | exact Kd.Q_nil _ _ _ _ _ | exact Kd.S_nil _ _ _ _ _, by first | exact Kd.R_nil _ _ _ _ _ | exact Kd.N_nil _ _ _ _ _ | exact Kd.V_nil _ _ _ _ _ | exact Kd.Q_nil _ _ _ _ _ | exact Kd.S_nil _ _ _ _ _, by repeat (first | (with_reducible first | exact HB.out | apply bA | apply bN | apply bD | refine bS ?_ GE275.out) | exact HB.out)⟩
   · replace c40 := Bool.eq_false_iff.mpr c40
     subst c40; (have H1 : (spec_RunStops.l0 kj5 l1 a2 a3 a4 0 a0_4 ([] : List Int) ([] : List Bool) 0 a0_0 a0_1 a0_2 a0_3 a0_4 true true) = some (r1, r2, r3) := by rw [if_neg (show ¬ (false = true) by decide)] at H; exact H); clear H; have H := H1; clear H1; (have H' := aM H); clear H
     go_wp2_with (first | ((with_reducible refine gate_dst (N := 13) rfl ?_); refine box_event ?hg (N := 13) ?hd (cs := #[.bool false, .bool false]) (t := 65) ?hr ?_; (case hd => rfl); (case hg => rfl); (case hr => first | (go_simp; done) | (go_simp; rfl)); intro gb278 hg w41 hbox hb; have n0_ := aM (kB (g := gb275) (o := .cells #[.int .i64 a0_0, .int .i64 a0_1, .int .i64 a0_2, .int .i64 a0_3, .int .i64 a0_4] 26 (0, 0)) (by (with_reducible repeat (first | refine kN ?_ _ | refine kD ?_ | refine kA ?_ _)); exact BK275.out) hb); have n1_ := aM (bP (by repeat (first | (with_reducible first | exact HB.out | apply bA | apply bN | apply bD | refine bS ?_ GE275.out) | exact HB.out)) hb); have n2_ := aM (hbox); have n3_ := aM ((by rw [hg]; exact (bZ (by repeat (first | (with_reducible first | exact HB.out | apply bA | apply bN | apply bD | refine bS ?_ GE275.out) | exact HB.out))) : w.heap.size ≤ gb278)); have n4_ := aM ((by rw [hg]; exact (bZ (by repeat (first | (with_reducible first | exact HB.out | apply bA | apply bN | apply bD | refine bS ?_ GE275.out) | exact HB.out))) : w.heap.size ≤ gb278)); have n5_ := aM ((by rw [hg]; exact Nat.ne_of_lt (blk_lt (g := gb275) (o := .cells #[.int .i64 a0_0, .int .i64 a0_1, .int .i64 a0_2, .int .i64 a0_3, .int .i64 a0_4] 26 (0, 0)) (by (with_reducible repeat (first | refine kN ?_ _ | refine kD ?_ | refine kA ?_ _)); exact BK275.out)) : gb275 ≠ gb278)); have n6_ := aM ((by rw [hg]; exact Nat.ne_of_gt (blk_lt (g := gb275) (o := .cells #[.int .i64 a0_0, .int .i64 a0_1, .int .i64 a0_2, .int .i64 a0_3, .int .i64 a0_4] 26 (0, 0)) (by (with_reducible repeat (first | refine kN ?_ _ | refine kD ?_ | refine kA ?_ _)); exact BK275.out)) : gb278 ≠ gb275)); clear BK275; clear HB; have BK275 := n0_; have HB := n1_; have BK278 := n2_; have GW278 := n3_; have GE278 := n4_; have NB275_278 := n5_; have NB278_275 := n6_; clear n0_ n1_ n2_ n3_ n4_ n5_ n6_; clear hb hbox hg; have hnb42 := NB278_275.out; have hnc42 := NB275_278.out; have hcz43_0 : w41.cell? ⟨gb278, 0, none⟩ = some (.bool false) := (cZ BK278.out 0).trans rfl; have hcz43_1 : w41.cell? ⟨gb278, 1, none⟩ = some (.bool false) := (cZ BK278.out 1).trans rfl; have hfz43_0 := fZ BK278.out 0; have hfz43_1 := fZ BK278.out 1; have hcz44_0 : w41.cell? ⟨gb275, 0, none⟩ = some (.int .i64 a0_0) := (cZ BK275.out 0).trans rfl; have hcz44_1 : w41.cell? ⟨gb275, 1, none⟩ = some (.int .i64 a0_1) := (cZ BK275.out 1).trans rfl; have hcz44_2 : w41.cell? ⟨gb275, 2, none⟩ = some (.int .i64 a0_2) := (cZ BK275.out 2).trans rfl; have hcz44_3 : w41.cell? ⟨gb275, 3, none⟩ = some (.int .i64 a0_3) := (cZ BK275.out 3).trans rfl; have hcz44_4 : w41.cell? ⟨gb275, 4, none⟩ = some (.int .i64 a0_4) := (cZ BK275.out 4).trans rfl; have hfz44_0 := fZ BK275.out 0; have hfz44_1 := fZ BK275.out 1; have hfz44_2 := fZ BK275.out 2; have hfz44_3 := fZ BK275.out 3; have hfz44_4 := fZ BK275.out 4))
     go_loopg [14, 15, 16, 17, 18] kj5 (fun kq v14 v15 v16 v17 v18 w' => ∃ (x14_2 : Int) (x15_2 : Int) (x16_2 : List Int) (x17_2 : List Bool) (x18_2 : Int) (x279000_2 : Bool) (x279001_2 : Bool), v14 = .int .i64 x14_2 ∧ v15 = .int .i64 x15_2 ∧ v18 = .int .i64 x18_2 ∧ Aside0 (spec_RunStops.l0 kq l1 a2 a3 a4 x14_2 x15_2 x16_2 x17_2 x18_2 a0_0 a0_1 a0_2 a0_3 a0_4 x279000_2 x279001_2 = some (r1, r2, r3)) ∧ Aside0 (kq ≤ kj5) ∧ Aside0 (Kd.R (Kd.int .i64) 3 w' w.heap.size (fun _ => True) v16 x16_2) ∧ Aside0 (Kd.R Kd.bool 4 w' w.heap.size (fun _ => True) v17 x17_2) ∧ Aside0 (w'.heap[gb275]? = some (.cells #[.int .i64 a0_0, .int .i64 a0_1, .int .i64 a0_2, .int .i64 a0_3, .int .i64 a0_4] 26 (0, 0))) ∧ Aside0 (w'.heap[gb278]? = some (.cells #[.bool x279000_2, .bool x279001_2] 65 (0, 0))) ∧ Aside0 (Below w.heap.size w w'))
     case atStart => exact ⟨(0), (a0_4), (([] : List Int)), (([] : List Bool)), (0), (true), (true), (by first | rfl | (simp; done) | (simp [*]; done)), (by first | rfl | (simp; done) | (simp [*]; done)), (by first | rfl | (simp; done) | (simp [*]; done)), H', ⟨Nat.le_refl _⟩, ⟨by first | exact Kd.R_nil _ _ _ _ _ | exact Kd.N_nil _ _ _ _ _ | exact Kd.V_nil _ _ _ _ _ | exact Kd.Q_nil _ _ _ _ _ | exact Kd.S_nil _ _ _ _ _⟩, ⟨by first | exact Kd.R_nil _ _ _ _ _ | exact Kd.N_nil _ _ _ _ _ | exact Kd.V_nil _ _ _ _ _ | exact Kd.Q_nil _ _ _ _ _ | exact Kd.S_nil _ _ _ _ _⟩, ⟨by (with_reducible repeat (first | refine kN ?_ _ | refine kD ?_ | refine kA ?_ _)); refine blk_far ?_ NB275_278.out _; (with_reducible repeat (first | refine kN ?_ _ | refine kD ?_ | refine kA ?_ _)); refine blk_far ?_ NB275_278.out _; (with_reducible repeat (first | refine kN ?_ _ | refine kD ?_ | refine kA ?_ _)); exact BK275.out⟩, ⟨by (with_reducible repeat (first | refine kN ?_ _ | refine kD ?_ | refine kA ?_ _)); refine blk_put (cs := #[.bool true, .bool false]) ?_ 1 _ rfl; (with_reducible repeat (first | refine kN ?_ _ | refine kD ?_ | refine kA ?_ _)); refine blk_put (cs := #[.bool false, .bool false]) ?_ 0 _ rfl; (with_reducible repeat (first | refine kN ?_ _ | refine kD ?_ | refine kA ?_ _)); exact BK278.out⟩, ⟨by repeat (first | (with_reducible first | exact HB.out | apply bA | apply bN | apply bD | refine bS ?_ GE275.out | refine bS ?_ GE278.out) | exact HB.out)⟩⟩
     case round =>
      clear H'; (try clear c1); (try clear c2); (try clear p2); (try clear c3); (try clear c4); (try clear c9); (try clear c10); (try clear c11); (try clear c12); (try clear c12b0); (try clear c16); (try clear c16b0); (try clear c20); (try clear c20b0); (try clear c24); (try clear c24b0); (try clear c28); (try clear c28b0); (try clear c34); (try clear c40); (try clear c42); (try clear hcz13_0); (try clear hcz13_1); (try clear hcz13_2); (try clear hcz13_3); (try clear hcz13_4); (try clear hcz17_0); (try clear hcz17_1); (try clear hcz17_2); (try clear hcz17_3); (try clear hcz17_4); (try clear hcz21_0); (try clear hcz21_1); (try clear hcz21_2); (try clear hcz21_3); (try clear hcz21_4); (try clear hcz25_0); (try clear hcz25_1); (try clear hcz25_2); (try clear hcz25_3); (try clear hcz25_4); (try clear hcz29_0); (try clear hcz29_1); (try clear hcz29_2); (try clear hcz29_3); (try clear hcz29_4); (try clear hcz32_0); (try clear hcz32_1); (try clear hcz32_2); (try clear hcz32_3); (try clear hcz32_4); (try clear hcz35_0); (try clear hcz35_1); (try clear hcz35_2); (try clear hcz35_3); (try clear hcz35_4); (try clear hcz38_0); (try clear hcz38_1); (try clear hcz38_2); (try clear hcz38_3); (try clear hcz38_4); (try clear hcz43_0); (try clear hcz43_1); (try clear hcz44_0); (try clear hcz44_1); (try clear hcz44_2); (try clear hcz44_3); (try clear hcz44_4); (try clear hfz13_0); (try clear hfz13_1); (try clear hfz13_2); (try clear hfz13_3); (try clear hfz13_4); (try clear hfz17_0)
      (try clear hfz17_1); (try clear hfz17_2); (try clear hfz17_3); (try clear hfz17_4); (try clear hfz21_0); (try clear hfz21_1); (try clear hfz21_2); (try clear hfz21_3); (try clear hfz21_4); (try clear hfz25_0); (try clear hfz25_1); (try clear hfz25_2); (try clear hfz25_3); (try clear hfz25_4); (try clear hfz29_0); (try clear hfz29_1); (try clear hfz29_2); (try clear hfz29_3); (try clear hfz29_4); (try clear hfz32_0); (try clear hfz32_1); (try clear hfz32_2); (try clear hfz32_3); (try clear hfz32_4); (try clear hfz35_0); (try clear hfz35_1); (try clear hfz35_2); (try clear hfz35_3); (try clear hfz35_4); (try clear hfz38_0); (try clear hfz38_1); (try clear hfz38_2); (try clear hfz38_3); (try clear hfz38_4); (try clear hfz43_0); (try clear hfz43_1); (try clear hfz44_0); (try clear hfz44_1); (try clear hfz44_2); (try clear hfz44_3); (try clear hfz44_4); (try clear p2); (obtain ⟨x14_2, x15_2, x16_2, x17_2, x18_2, x279000_2, x279001_2, rfl, rfl, rfl, HA, HK2, HO_16, HO_17, BK275, BK278, HB⟩ := hrel)
      cases gk with
      | zero => exact absurd HA.out (by simp [spec_RunStops.l0])
      | succ k2 =>
       have H := HA.out; clear HA; (simp only [spec_RunStops.l0] at H)
       by_cases c45 : x18_2 < a4
       · rw [if_pos c45] at H
         (have c45b0 : decide (x18_2 < a4) = true := decide_eq_true c45); clear c45; (have HC46 := aM H); clear H
         go_upto_region 12 with (fail)
         go_cut [19, 81] (fun v19 v81 wc => ∃ (kq : Nat) (x81_45 : Bool), v81 = .bool x81_45 ∧ v19 = .bool (decide (a3 ≤ x18_2)) ∧ Aside0 (spec_RunStops.j2 kq l1 a2 a3 a4 x14_2 x15_2 x16_2 x17_2 x18_2 (decide (x18_2 ≥ a3)) x81_45 a0_0 a0_1 a0_2 a0_3 a0_4 x279000_2 x279001_2 = some (r1, r2, r3)) ∧ Aside0 (kq ≤ k2) ∧ Aside0 (Kd.R (Kd.int .i64) 3 wc w.heap.size (fun _ => True) u16 x16_2) ∧ Aside0 (Kd.R Kd.bool 4 wc w.heap.size (fun _ => True) u17 x17_2) ∧ Aside0 (wc.heap[gb275]? = some (.cells #[.int .i64 a0_0, .int .i64 a0_1, .int .i64 a0_2, .int .i64 a0_3, .int .i64 a0_4] 26 (0, 0))) ∧ Aside0 (wc.heap[gb278]? = some (.cells #[.bool x279000_2, .bool x279001_2] 65 (0, 0))) ∧ Aside0 (Below w.heap.size w wc))
         case first =>
          have H := HC46.out; clear HC46
          by_cases c47 : a0_2 = 0
          · rw [if_pos c47] at H
            exact absurd H (by simp)
          · rw [if_neg c47] at H
            (have c47b0 : (a0_2 == 0) = false := beq_eq_false_iff_ne.mpr c47); (have c47b1 : (a0_2 != 0) = true := bne_iff_ne.mpr c47)
            (first | rw [c47b0] | (simp only [i64_w, i32_w]; rw [c47b0]) | skip)
            by_cases c48 : (Int.tmod x18_2 a0_2) = 0
            · rw [if_pos c48] at H
              (have c48b0 : ((Int.tmod x18_2 a0_2) == 0) = true := beq_iff_eq.mpr c48); (have c48b1 : ((Int.tmod x18_2 a0_2) != 0) = false := bne_eq_false_iff_eq.mpr c48); clear c48
              by_cases c49 : x18_2 ≥ a3
              · rw [if_pos c49] at H
                (have c49b0 : decide (a3 ≤ x18_2) = true := decide_eq_true c49); clear c49; (have H' := aM H); clear H; have hnb50 := NB275_278.out; have hnc50 := NB278_275.out; (have hcz51_0 : wr.cell? ⟨gb275, 0, none⟩ = some (.int .i64 a0_0) := (cZ BK275.out 0).trans rfl); (have hcz51_1 : wr.cell? ⟨gb275, 1, none⟩ = some (.int .i64 a0_1) := (cZ BK275.out 1).trans rfl); (have hcz51_2 : wr.cell? ⟨gb275, 2, none⟩ = some (.int .i64 a0_2) := (cZ BK275.out 2).trans rfl); (have hcz51_3 : wr.cell? ⟨gb275, 3, none⟩ = some (.int .i64 a0_3) := (cZ BK275.out 3).trans rfl); (have hcz51_4 : wr.cell? ⟨gb275, 4, none⟩ = some (.int .i64 a0_4) := (cZ BK275.out 4).trans rfl); (have hfz51_0 := fZ BK275.out 0); (have hfz51_1 := fZ BK275.out 1); (have hfz51_2 := fZ BK275.out 2); (have hfz51_3 := fZ BK275.out 3); (have hfz51_4 := fZ BK275.out 4)
                go_wp2
                go_meet
                case rel => exact ⟨_, (!(a2 == 5)), (by first | rfl | (simp; done) | (simp [*]; done)), (by first | rfl | (simp; done) | (simp [*]; done)), H', ⟨by have := HJ5.out; have := HK2.out; first | omega | exact Nat.le_refl _⟩, ⟨by (with_reducible repeat (first | apply Kd.R_alloc | apply Kd.R_drewN | apply Kd.R_drew)); exact HO_16.out⟩, ⟨by (with_reducible repeat (first | apply Kd.R_alloc | apply Kd.R_drewN | apply Kd.R_drew)); exact HO_17.out⟩, ⟨by (with_reducible repeat (first | refine kN ?_ _ | refine kD ?_ | refine kA ?_ _)); exact BK275.out⟩, ⟨by (with_reducible repeat (first | refine kN ?_ _ | refine kD ?_ | refine kA ?_ _)); exact BK278.out⟩, ⟨by repeat (first | (with_reducible first | exact HB.out | apply bA | apply bN | apply bD | refine bS ?_ GE275.out | refine bS ?_ GE278.out) | exact HB.out)⟩⟩
              · rw [if_neg c49] at H
                (have c49b0 : decide (a3 ≤ x18_2) = false := decide_eq_false c49); clear c49; (have H' := aM H); clear H; have hnb52 := NB275_278.out; have hnc52 := NB278_275.out; (have hcz53_0 : wr.cell? ⟨gb275, 0, none⟩ = some (.int .i64 a0_0) := (cZ BK275.out 0).trans rfl); (have hcz53_1 : wr.cell? ⟨gb275, 1, none⟩ = some (.int .i64 a0_1) := (cZ BK275.out 1).trans rfl); (have hcz53_2 : wr.cell? ⟨gb275, 2, none⟩ = some (.int .i64 a0_2) := (cZ BK275.out 2).trans rfl); (have hcz53_3 : wr.cell? ⟨gb275, 3, none⟩ = some (.int .i64 a0_3) := (cZ BK275.out 3).trans rfl); (have hcz53_4 : wr.cell? ⟨gb275, 4, none⟩ = some (.int .i64 a0_4) := (cZ BK275.out 4).trans rfl); (have hfz53_0 := fZ BK275.out 0); (have hfz53_1 := fZ BK275.out 1); (have hfz53_2 := fZ BK275.out 2); (have hfz53_3 := fZ BK275.out 3); (have hfz53_4 := fZ BK275.out 4)
                go_wp2
                go_meet
                case rel => exact ⟨_, (!false), (by first | rfl | (simp; done) | (simp [*]; done)), (by first | rfl | (simp; done) | (simp [*]; done)), H', ⟨by have := HJ5.out; have := HK2.out; first | omega | exact Nat.le_refl _⟩, ⟨by (with_reducible repeat (first | apply Kd.R_alloc | apply Kd.R_drewN | apply Kd.R_drew)); exact HO_16.out⟩, ⟨by (with_reducible repeat (first | apply Kd.R_alloc | apply Kd.R_drewN | apply Kd.R_drew)); exact HO_17.out⟩, ⟨by (with_reducible repeat (first | refine kN ?_ _ | refine kD ?_ | refine kA ?_ _)); exact BK275.out⟩, ⟨by (with_reducible repeat (first | refine kN ?_ _ | refine kD ?_ | refine kA ?_ _)); exact BK278.out⟩, ⟨by repeat (first | (with_reducible first | exact HB.out | apply bA | apply bN | apply bD | refine bS ?_ GE275.out | refine bS ?_ GE278.out) | exact HB.out)⟩⟩
            · rw [if_neg c48] at H
              (have c48b0 : ((Int.tmod x18_2 a0_2) == 0) = false := beq_eq_false_iff_ne.mpr c48); (have c48b1 : ((Int.tmod x18_2 a0_2) != 0) = true := bne_iff_ne.mpr c48); (have H' := aM H); clear H; have hnb54 := NB275_278.out; have hnc54 := NB278_275.out; (have hcz55_0 : wr.cell? ⟨gb275, 0, none⟩ = some (.int .i64 a0_0) := (cZ BK275.out 0).trans rfl); (have hcz55_1 : wr.cell? ⟨gb275, 1, none⟩ = some (.int .i64 a0_1) := (cZ BK275.out 1).trans rfl); (have hcz55_2 : wr.cell? ⟨gb275, 2, none⟩ = some (.int .i64 a0_2) := (cZ BK275.out 2).trans rfl); (have hcz55_3 : wr.cell? ⟨gb275, 3, none⟩ = some (.int .i64 a0_3) := (cZ BK275.out 3).trans rfl); (have hcz55_4 : wr.cell? ⟨gb275, 4, none⟩ = some (.int .i64 a0_4) := (cZ BK275.out 4).trans rfl); (have hfz55_0 := fZ BK275.out 0); (have hfz55_1 := fZ BK275.out 1); (have hfz55_2 := fZ BK275.out 2); (have hfz55_3 := fZ BK275.out 3); (have hfz55_4 := fZ BK275.out 4)
              go_wp2
              go_meet
              case rel => exact ⟨_, (false), (by first | rfl | (simp; done) | (simp [*]; done)), (by first | rfl | (simp; done) | (simp [*]; done)), H', ⟨by have := HJ5.out; have := HK2.out; first | omega | exact Nat.le_refl _⟩, ⟨by (with_reducible repeat (first | apply Kd.R_alloc | apply Kd.R_drewN | apply Kd.R_drew)); exact HO_16.out⟩, ⟨by (with_reducible repeat (first | apply Kd.R_alloc | apply Kd.R_drewN | apply Kd.R_drew)); exact HO_17.out⟩, ⟨by (with_reducible repeat (first | refine kN ?_ _ | refine kD ?_ | refine kA ?_ _)); exact BK275.out⟩, ⟨by (with_reducible repeat (first | refine kN ?_ _ | refine kD ?_ | refine kA ?_ _)); exact BK278.out⟩, ⟨by repeat (first | (with_reducible first | exact HB.out | apply bA | apply bN | apply bD | refine bS ?_ GE275.out | refine bS ?_ GE278.out) | exact HB.out)⟩⟩
         case rest =>
          clear HC46; (try clear c1); (try clear c2); (try clear p2); (try clear c3); (try clear c4); (try clear c5); (try clear c9); (try clear c10); (try clear c11); (try clear c12); (try clear c12b0); (try clear c16); (try clear c16b0); (try clear c20); (try clear c20b0); (try clear c24); (try clear c24b0); (try clear c28); (try clear c28b0); (try clear c34); (try clear c40); (try clear c42); (try clear c45); (try clear c45b0); (try clear c47); (try clear c47b0); (try clear c47b1); (try clear c48); (try clear c48b0); (try clear c48b1); (try clear c49); (try clear c49b0); (try clear c50); (try clear c52); (try clear c54); (try clear hcz13_0); (try clear hcz13_1); (try clear hcz13_2); (try clear hcz13_3); (try clear hcz13_4); (try clear hcz17_0); (try clear hcz17_1); (try clear hcz17_2); (try clear hcz17_3); (try clear hcz17_4); (try clear hcz21_0); (try clear hcz21_1); (try clear hcz21_2); (try clear hcz21_3); (try clear hcz21_4); (try clear hcz25_0); (try clear hcz25_1); (try clear hcz25_2); (try clear hcz25_3); (try clear hcz25_4); (try clear hcz29_0); (try clear hcz29_1); (try clear hcz29_2); (try clear hcz29_3); (try clear hcz29_4); (try clear hcz32_0); (try clear hcz32_1); (try clear hcz32_2); (try clear hcz32_3); (try clear hcz32_4); (try clear hcz35_0); (try clear hcz35_1); (try clear hcz35_2); (try clear hcz35_3); (try clear hcz35_4); (try clear hcz38_0); (try clear hcz38_1); (try clear hcz38_2); (try clear hcz38_3); (try clear hcz38_4); (try clear hcz43_0); (try clear hcz43_1)
          (try clear hcz44_0); (try clear hcz44_1); (try clear hcz44_2); (try clear hcz44_3); (try clear hcz44_4); (try clear hcz51_0); (try clear hcz51_1); (try clear hcz51_2); (try clear hcz51_3); (try clear hcz51_4); (try clear hcz53_0); (try clear hcz53_1); (try clear hcz53_2); (try clear hcz53_3); (try clear hcz53_4); (try clear hcz55_0); (try clear hcz55_1); (try clear hcz55_2); (try clear hcz55_3); (try clear hcz55_4); (try clear hfz13_0); (try clear hfz13_1); (try clear hfz13_2); (try clear hfz13_3); (try clear hfz13_4); (try clear hfz17_0); (try clear hfz17_1); (try clear hfz17_2); (try clear hfz17_3); (try clear hfz17_4); (try clear hfz21_0); (try clear hfz21_1); (try clear hfz21_2); (try clear hfz21_3); (try clear hfz21_4); (try clear hfz25_0); (try clear hfz25_1); (try clear hfz25_2); (try clear hfz25_3); (try clear hfz25_4); (try clear hfz29_0); (try clear hfz29_1); (try clear hfz29_2); (try clear hfz29_3); (try clear hfz29_4); (try clear hfz32_0); (try clear hfz32_1); (try clear hfz32_2); (try clear hfz32_3); (try clear hfz32_4); (try clear hfz35_0); (try clear hfz35_1); (try clear hfz35_2); (try clear hfz35_3); (try clear hfz35_4); (try clear hfz38_0); (try clear hfz38_1); (try clear hfz38_2); (try clear hfz38_3); (try clear hfz38_4); (try clear hfz43_0); (try clear hfz43_1); (try clear hfz44_0); (try clear hfz44_1); (try clear hfz44_2); (try clear hfz44_3); (try clear hfz44_4); (try clear hfz51_0); (try clear hfz51_1); (try clear hfz51_2); (try clear hfz51_3)
          (try clear hfz51_4); (try clear hfz53_0); (try clear hfz53_1); (try clear hfz53_2); (try clear hfz53_3); (try clear hfz53_4); (try clear hfz55_0); (try clear hfz55_1); (try clear hfz55_2); (try clear hfz55_3); (try clear hfz55_4); (try clear p2); (obtain ⟨kq, x81_45, rfl, rfl, HA, HJ45, HO_16, HO_17, BK275, BK278, HB⟩ := hcut)
          cases kq with
          | zero => exact absurd HA.out (by simp [spec_RunStops.j2])
          | succ kj45 =>
           have H := HA.out; clear HA; (simp only [spec_RunStops.j2] at H); (have HC56 := aM H); clear H
           go_upto_if 81 with (fail)
           go_cut [19, 14] (fun v19 v14 wc => ∃ (kq : Nat) (x14_55 : Int), v14 = .int .i64 x14_55 ∧ v19 = .bool (decide (a3 ≤ x18_2)) ∧ Aside0 (spec_RunStops.j3 kq l1 a2 a3 a4 x14_55 x15_2 x16_2 x17_2 x18_2 (decide (x18_2 ≥ a3)) a0_0 a0_1 a0_2 a0_3 a0_4 x279000_2 x279001_2 = some (r1, r2, r3)) ∧ Aside0 (kq ≤ kj45) ∧ Aside0 (Kd.R (Kd.int .i64) 3 wc w.heap.size (fun _ => True) u16 x16_2) ∧ Aside0 (Kd.R Kd.bool 4 wc w.heap.size (fun _ => True) u17 x17_2) ∧ Aside0 (wc.heap[gb275]? = some (.cells #[.int .i64 a0_0, .int .i64 a0_1, .int .i64 a0_2, .int .i64 a0_3, .int .i64 a0_4] 26 (0, 0))) ∧ Aside0 (wc.heap[gb278]? = some (.cells #[.bool x279000_2, .bool x279001_2] 65 (0, 0))) ∧ Aside0 (Below w.heap.size w wc))
           case first =>
            have H := HC56.out; clear HC56
            by_cases c57 : x81_45 = true
            · subst c57
              (have H1 : (spec_RunStops.j3 kj45 l1 a2 a3 a4 x18_2 x15_2 x16_2 x17_2 x18_2 (decide (x18_2 ≥ a3)) a0_0 a0_1 a0_2 a0_3 a0_4 x279000_2 x279001_2) = some (r1, r2, r3) := by rw [if_pos rfl] at H; exact H); clear H; have H := H1; clear H1; (have H' := aM H); clear H
              go_wp2
              go_meet
              case rel => exact ⟨_, (x18_2), (by first | rfl | (simp; done) | (simp [*]; done)), (by first | rfl | (simp; done) | (simp [*]; done)), H', ⟨by have := HJ5.out; have := HK2.out; have := HJ45.out; first | omega | exact Nat.le_refl _⟩, ⟨by (with_reducible repeat (first | apply Kd.R_alloc | apply Kd.R_drewN | apply Kd.R_drew)); exact HO_16.out⟩, ⟨by (with_reducible repeat (first | apply Kd.R_alloc | apply Kd.R_drewN | apply Kd.R_drew)); exact HO_17.out⟩, ⟨by (with_reducible repeat (first | refine kN ?_ _ | refine kD ?_ | refine kA ?_ _)); exact BK275.out⟩, ⟨by (with_reducible repeat (first | refine kN ?_ _ | refine kD ?_ | refine kA ?_ _)); exact BK278.out⟩, ⟨by repeat (first | (with_reducible first | exact HB.out | apply bA | apply bN | apply bD | refine bS ?_ GE275.out | refine bS ?_ GE278.out) | exact HB.out)⟩⟩
            · replace c57 := Bool.eq_false_iff.mpr c57
              subst c57; (have H1 : (spec_RunStops.j3 kj45 l1 a2 a3 a4 x14_2 x15_2 x16_2 x17_2 x18_2 (decide (x18_2 ≥ a3)) a0_0 a0_1 a0_2 a0_3 a0_4 x279000_2 x279001_2) = some (r1, r2, r3) := by rw [if_neg (show ¬ (false = true) by decide)] at H; exact H); clear H; have H := H1; clear H1; (have H' := aM H); clear H
              go_wp2
              go_meet
              case rel => exact ⟨_, (x14_2), (by first | rfl | (simp; done) | (simp [*]; done)), (by first | rfl | (simp; done) | (simp [*]; done)), H', ⟨by have := HJ5.out; have := HK2.out; have := HJ45.out; first | omega | exact Nat.le_refl _⟩, ⟨by (with_reducible repeat (first | apply Kd.R_alloc | apply Kd.R_drewN | apply Kd.R_drew)); exact HO_16.out⟩, ⟨by (with_reducible repeat (first | apply Kd.R_alloc | apply Kd.R_drewN | apply Kd.R_drew)); exact HO_17.out⟩, ⟨by (with_reducible repeat (first | refine kN ?_ _ | refine kD ?_ | refine kA ?_ _)); exact BK275.out⟩, ⟨by (with_reducible repeat (first | refine kN ?_ _ | refine kD ?_ | refine kA ?_ _)); exact BK278.out⟩, ⟨by repeat (first | (with_reducible first | exact HB.out | apply bA | apply bN | apply bD | refine bS ?_ GE275.out | refine bS ?_ GE278.out) | exact HB.out)⟩⟩
           case rest =>
            clear HC56; (try clear c1); (try clear c2); (try clear p2); (try clear c3); (try clear c4); (try clear c5); (try clear c9); (try clear c10); (try clear c11); (try clear c12); (try clear c12b0); (try clear c16); (try clear c16b0); (try clear c20); (try clear c20b0); (try clear c24); (try clear c24b0); (try clear c28); (try clear c28b0); (try clear c34); (try clear c40); (try clear c42); (try clear c45); (try clear c45b0); (try clear c47); (try clear c47b0); (try clear c47b1); (try clear c48); (try clear c48b0); (try clear c48b1); (try clear c49); (try clear c49b0); (try clear c50); (try clear c52); (try clear c54); (try clear c57); (try clear hcz13_0); (try clear hcz13_1); (try clear hcz13_2); (try clear hcz13_3); (try clear hcz13_4); (try clear hcz17_0); (try clear hcz17_1); (try clear hcz17_2); (try clear hcz17_3); (try clear hcz17_4); (try clear hcz21_0); (try clear hcz21_1); (try clear hcz21_2); (try clear hcz21_3); (try clear hcz21_4); (try clear hcz25_0); (try clear hcz25_1); (try clear hcz25_2); (try clear hcz25_3); (try clear hcz25_4); (try clear hcz29_0); (try clear hcz29_1); (try clear hcz29_2); (try clear hcz29_3); (try clear hcz29_4); (try clear hcz32_0); (try clear hcz32_1); (try clear hcz32_2); (try clear hcz32_3); (try clear hcz32_4); (try clear hcz35_0); (try clear hcz35_1); (try clear hcz35_2); (try clear hcz35_3); (try clear hcz35_4); (try clear hcz38_0); (try clear hcz38_1); (try clear hcz38_2); (try clear hcz38_3); (try clear hcz38_4); (try clear hcz43_0)
            (try clear hcz43_1); (try clear hcz44_0); (try clear hcz44_1); (try clear hcz44_2); (try clear hcz44_3); (try clear hcz44_4); (try clear hcz51_0); (try clear hcz51_1); (try clear hcz51_2); (try clear hcz51_3); (try clear hcz51_4); (try clear hcz53_0); (try clear hcz53_1); (try clear hcz53_2); (try clear hcz53_3); (try clear hcz53_4); (try clear hcz55_0); (try clear hcz55_1); (try clear hcz55_2); (try clear hcz55_3); (try clear hcz55_4); (try clear hfz13_0); (try clear hfz13_1); (try clear hfz13_2); (try clear hfz13_3); (try clear hfz13_4); (try clear hfz17_0); (try clear hfz17_1); (try clear hfz17_2); (try clear hfz17_3); (try clear hfz17_4); (try clear hfz21_0); (try clear hfz21_1); (try clear hfz21_2); (try clear hfz21_3); (try clear hfz21_4); (try clear hfz25_0); (try clear hfz25_1); (try clear hfz25_2); (try clear hfz25_3); (try clear hfz25_4); (try clear hfz29_0); (try clear hfz29_1); (try clear hfz29_2); (try clear hfz29_3); (try clear hfz29_4); (try clear hfz32_0); (try clear hfz32_1); (try clear hfz32_2); (try clear hfz32_3); (try clear hfz32_4); (try clear hfz35_0); (try clear hfz35_1); (try clear hfz35_2); (try clear hfz35_3); (try clear hfz35_4); (try clear hfz38_0); (try clear hfz38_1); (try clear hfz38_2); (try clear hfz38_3); (try clear hfz38_4); (try clear hfz43_0); (try clear hfz43_1); (try clear hfz44_0); (try clear hfz44_1); (try clear hfz44_2); (try clear hfz44_3); (try clear hfz44_4); (try clear hfz51_0); (try clear hfz51_1); (try clear hfz51_2)
            (try clear hfz51_3); (try clear hfz51_4); (try clear hfz53_0); (try clear hfz53_1); (try clear hfz53_2); (try clear hfz53_3); (try clear hfz53_4); (try clear hfz55_0); (try clear hfz55_1); (try clear hfz55_2); (try clear hfz55_3); (try clear hfz55_4); (try clear p2); (obtain ⟨kq, x14_55, rfl, rfl, HA, HJ55, HO_16, HO_17, BK275, BK278, HB⟩ := hcut)
            cases kq with
            | zero => exact absurd HA.out (by simp [spec_RunStops.j3])
            | succ kj55 =>
             have H := HA.out; clear HA; (simp only [spec_RunStops.j3] at H); (replace H := Option.bind_eq_some_iff.mp H); (obtain ⟨t279, A580, H⟩ := H); (replace H : (if (decide (x18_2 ≥ a3)) = true then (spec_RunStops.j4 kj55 l1 a2 a3 a4 x14_55 x15_2 x16_2 x17_2 x18_2 (decide (x18_2 ≥ a3)) t279 (a2 == (1 + 0)) a0_0 a0_1 a0_2 a0_3 a0_4 x279000_2 x279001_2) else (spec_RunStops.j4 kj55 l1 a2 a3 a4 x14_55 x15_2 x16_2 x17_2 x18_2 (decide (x18_2 ≥ a3)) t279 false a0_0 a0_1 a0_2 a0_3 a0_4 x279000_2 x279001_2)) = some (r1, r2, r3) := H); (have A58 := aM A580); clear A580; (have HC59 := aM H); clear H; have hnb60 := NB275_278.out; have hnc60 := NB278_275.out; (have hcz61_0 : wc.cell? ⟨gb275, 0, none⟩ = some (.int .i64 a0_0) := (cZ BK275.out 0).trans rfl); (have hcz61_1 : wc.cell? ⟨gb275, 1, none⟩ = some (.int .i64 a0_1) := (cZ BK275.out 1).trans rfl); (have hcz61_2 : wc.cell? ⟨gb275, 2, none⟩ = some (.int .i64 a0_2) := (cZ BK275.out 2).trans rfl); (have hcz61_3 : wc.cell? ⟨gb275, 3, none⟩ = some (.int .i64 a0_3) := (cZ BK275.out 3).trans rfl); (have hcz61_4 : wc.cell? ⟨gb275, 4, none⟩ = some (.int .i64 a0_4) := (cZ BK275.out 4).trans rfl); (have hfz61_0 := fZ BK275.out 0); (have hfz61_1 := fZ BK275.out 1); (have hfz61_2 := fZ BK275.out 2); (have hfz61_3 := fZ BK275.out 3); (have hfz61_4 := fZ BK275.out 4)
             go_upto_region 18 with (first | (refine wp_loop_rounds 3 ?_; rw [rounds_succ]) | (rw [rounds_succ]) | ((with_reducible refine gate_callee (f := 36) rfl ?_); refine goesL_ (some 88) rfl rfl Try.func36 (by kernel_rfl) rfl #[.slice A1 l1.length c1, .int .i64 (wrap64 (x18_2 - a0_0))] rfl (by (try simp only [List.map_toArray, List.map_cons, List.map_nil]); first | done | rfl | (simp only [List.length_drop, List.length_take]; rfl)) ?_; (with_reducible refine (spec_l26Seen.calls kj55 _ _ l1 (wrap64 (x18_2 - a0_0)) t279 _ ?side1 ?side2 A58.out).mono ?_); (case side1 => repeat (first | exact (Kd.C_below HR1.out HB.out) | (with_reducible refine Kd.C_alloc ?_ _) | (with_reducible refine Kd.C_drewN ?_ _) | (with_reducible refine Kd.C_drew ?_))); (case side2 => exact HC1.out); rintro e w62 ⟨rfl, hb⟩; refine ⟨_, rfl, ?_⟩; have n0_ := aM (Kd.R_below (by (with_reducible repeat (first | apply Kd.R_alloc | apply Kd.R_drewN | apply Kd.R_drew)); exact HO_16.out) hb); have n1_ := aM (Kd.R_below (by (with_reducible repeat (first | apply Kd.R_alloc | apply Kd.R_drewN | apply Kd.R_drew)); exact HO_17.out) hb); have n2_ := aM (kB (g := gb275) (o := .cells #[.int .i64 a0_0, .int .i64 a0_1, .int .i64 a0_2, .int .i64 a0_3, .int .i64 a0_4] 26 (0, 0)) (by (with_reducible repeat (first | refine kN ?_ _ | refine kD ?_ | refine kA ?_ _)); exact BK275.out) hb); have n3_ := aM (kB (g := gb278) (o := .cells #[.bool x279000_2, .bool x279001_2] 65 (0, 0)) (by (with_reducible repeat (first | refine kN ?_ _ | refine kD ?_ | refine kA ?_ _)); exact BK278.out) hb); have n4_ := aM (bP (by repeat (first | (with_reducible first | exact HB.out | apply bA | apply bN | apply bD | refine bS ?_ GE275.out | refine bS ?_ GE278.out) | exact HB.out)) hb); clear HO_16; clear HO_17; clear BK275; clear BK278; clear HB; have HO_16 := n0_; have HO_17 := n1_; have BK275 := n2_; have BK278 := n3_; have HB := n4_; clear n0_ n1_ n2_ n3_ n4_; (try clear hb); (try clear hb2); (try clear hk); (try clear hi)))
             (try simp only [Act.put, List.setIfInBounds_toArray, List.set_cons_zero, List.set_cons_succ])
             go_cut [19, 22] (fun v19 v22 wc => ∃ (kq : Nat) (x22_58 : Bool), v22 = .bool x22_58 ∧ v19 = .bool (decide (a3 ≤ x18_2)) ∧ Aside0 (spec_RunStops.j4 kq l1 a2 a3 a4 x14_55 x15_2 x16_2 x17_2 x18_2 (decide (x18_2 ≥ a3)) t279 x22_58 a0_0 a0_1 a0_2 a0_3 a0_4 x279000_2 x279001_2 = some (r1, r2, r3)) ∧ Aside0 (kq ≤ kj55) ∧ Aside0 (Kd.R (Kd.int .i64) 3 wc w.heap.size (fun _ => True) u16 x16_2) ∧ Aside0 (Kd.R Kd.bool 4 wc w.heap.size (fun _ => True) u17 x17_2) ∧ Aside0 (wc.heap[gb275]? = some (.cells #[.int .i64 a0_0, .int .i64 a0_1, .int .i64 a0_2, .int .i64 a0_3, .int .i64 a0_4] 26 (0, 0))) ∧ Aside0 (wc.heap[gb278]? = some (.cells #[.bool x279000_2, .bool x279001_2] 65 (0, 0))) ∧ Aside0 (Below w.heap.size w wc))
             case first =>
              have H := HC59.out; clear HC59
              by_cases c63 : (decide (x18_2 ≥ a3)) = true
              · rw [if_pos c63] at H
                (have c63b0 : (decide (x18_2 ≥ a3)) = true := c63); (have c63b0' : decide (a3 ≤ x18_2) = true := c63b0); (have c63b0p : a3 ≤ x18_2 := of_decide_eq_true c63b0'); clear c63
                (first | rw [c63b0] | (simp only [i64_w, i32_w]; rw [c63b0]) | skip)
                (have H' := aM H); clear H
                go_wp2
                go_meet
                case rel => exact ⟨_, ((a2 == (1 + 0))), (by first | rfl | (simp; done) | (simp [*]; done)), (by first | rfl | (simp; done) | (simp [*]; done)), H', ⟨by have := HJ5.out; have := HK2.out; have := HJ45.out; have := HJ55.out; first | omega | exact Nat.le_refl _⟩, ⟨by (with_reducible repeat (first | apply Kd.R_alloc | apply Kd.R_drewN | apply Kd.R_drew)); exact HO_16.out⟩, ⟨by (with_reducible repeat (first | apply Kd.R_alloc | apply Kd.R_drewN | apply Kd.R_drew)); exact HO_17.out⟩, ⟨by (with_reducible repeat (first | refine kN ?_ _ | refine kD ?_ | refine kA ?_ _)); exact BK275.out⟩, ⟨by (with_reducible repeat (first | refine kN ?_ _ | refine kD ?_ | refine kA ?_ _)); exact BK278.out⟩, ⟨by repeat (first | (with_reducible first | exact HB.out | apply bA | apply bN | apply bD | refine bS ?_ GE275.out | refine bS ?_ GE278.out) | exact HB.out)⟩⟩
              · rw [if_neg c63] at H
                (have c63b0 : (decide (x18_2 ≥ a3)) = false := by simpa using c63); (have c63b0' : decide (a3 ≤ x18_2) = false := c63b0); (have c63b0p : ¬ (a3 ≤ x18_2) := of_decide_eq_false c63b0'); clear c63
                (first | rw [c63b0] | (simp only [i64_w, i32_w]; rw [c63b0]) | skip)
                (have H' := aM H); clear H
                go_wp2
                go_meet
                case rel => exact ⟨_, (false), (by first | rfl | (simp; done) | (simp [*]; done)), (by first | rfl | (simp; done) | (simp [*]; done)), H', ⟨by have := HJ5.out; have := HK2.out; have := HJ45.out; have := HJ55.out; first | omega | exact Nat.le_refl _⟩, ⟨by (with_reducible repeat (first | apply Kd.R_alloc | apply Kd.R_drewN | apply Kd.R_drew)); exact HO_16.out⟩, ⟨by (with_reducible repeat (first | apply Kd.R_alloc | apply Kd.R_drewN | apply Kd.R_drew)); exact HO_17.out⟩, ⟨by (with_reducible repeat (first | refine kN ?_ _ | refine kD ?_ | refine kA ?_ _)); exact BK275.out⟩, ⟨by (with_reducible repeat (first | refine kN ?_ _ | refine kD ?_ | refine kA ?_ _)); exact BK278.out⟩, ⟨by repeat (first | (with_reducible first | exact HB.out | apply bA | apply bN | apply bD | refine bS ?_ GE275.out | refine bS ?_ GE278.out) | exact HB.out)⟩⟩
             case rest =>
              clear HC59; (try clear c1); (try clear c2); (try clear p2); (try clear c3); (try clear c4); (try clear c5); (try clear c6); (try clear p6); (try clear c9); (try clear c10); (try clear c11); (try clear c12); (try clear c12b0); (try clear c16); (try clear c16b0); (try clear c20); (try clear c20b0); (try clear c24); (try clear c24b0); (try clear c28); (try clear c28b0); (try clear c34); (try clear c36); (try clear c40); (try clear c42); (try clear c45); (try clear c45b0); (try clear c47); (try clear c47b0); (try clear c47b1); (try clear c48); (try clear c48b0); (try clear c48b1); (try clear c49); (try clear c49b0); (try clear c50); (try clear c52); (try clear c54); (try clear c57); (try clear c60); (try clear c63); (try clear c63b0); (try clear hcz13_0); (try clear hcz13_1); (try clear hcz13_2); (try clear hcz13_3); (try clear hcz13_4); (try clear hcz17_0); (try clear hcz17_1); (try clear hcz17_2); (try clear hcz17_3); (try clear hcz17_4); (try clear hcz21_0); (try clear hcz21_1); (try clear hcz21_2); (try clear hcz21_3); (try clear hcz21_4); (try clear hcz25_0); (try clear hcz25_1); (try clear hcz25_2); (try clear hcz25_3); (try clear hcz25_4); (try clear hcz29_0); (try clear hcz29_1); (try clear hcz29_2); (try clear hcz29_3); (try clear hcz29_4); (try clear hcz32_0); (try clear hcz32_1); (try clear hcz32_2); (try clear hcz32_3); (try clear hcz32_4); (try clear hcz35_0); (try clear hcz35_1); (try clear hcz35_2); (try clear hcz35_3); (try clear hcz35_4); (try clear hcz38_0)
              (try clear hcz38_1); (try clear hcz38_2); (try clear hcz38_3); (try clear hcz38_4); (try clear hcz43_0); (try clear hcz43_1); (try clear hcz44_0); (try clear hcz44_1); (try clear hcz44_2); (try clear hcz44_3); (try clear hcz44_4); (try clear hcz51_0); (try clear hcz51_1); (try clear hcz51_2); (try clear hcz51_3); (try clear hcz51_4); (try clear hcz53_0); (try clear hcz53_1); (try clear hcz53_2); (try clear hcz53_3); (try clear hcz53_4); (try clear hcz55_0); (try clear hcz55_1); (try clear hcz55_2); (try clear hcz55_3); (try clear hcz55_4); (try clear hcz61_0); (try clear hcz61_1); (try clear hcz61_2); (try clear hcz61_3); (try clear hcz61_4); (try clear hfz13_0); (try clear hfz13_1); (try clear hfz13_2); (try clear hfz13_3); (try clear hfz13_4); (try clear hfz17_0); (try clear hfz17_1); (try clear hfz17_2); (try clear hfz17_3); (try clear hfz17_4); (try clear hfz21_0); (try clear hfz21_1); (try clear hfz21_2); (try clear hfz21_3); (try clear hfz21_4); (try clear hfz25_0); (try clear hfz25_1); (try clear hfz25_2); (try clear hfz25_3); (try clear hfz25_4); (try clear hfz29_0); (try clear hfz29_1); (try clear hfz29_2); (try clear hfz29_3); (try clear hfz29_4); (try clear hfz32_0); (try clear hfz32_1); (try clear hfz32_2); (try clear hfz32_3); (try clear hfz32_4); (try clear hfz35_0); (try clear hfz35_1); (try clear hfz35_2); (try clear hfz35_3); (try clear hfz35_4); (try clear hfz38_0); (try clear hfz38_1); (try clear hfz38_2); (try clear hfz38_3); (try clear hfz38_4)
              (try clear hfz43_0); (try clear hfz43_1); (try clear hfz44_0); (try clear hfz44_1); (try clear hfz44_2); (try clear hfz44_3); (try clear hfz44_4); (try clear hfz51_0); (try clear hfz51_1); (try clear hfz51_2); (try clear hfz51_3); (try clear hfz51_4); (try clear hfz53_0); (try clear hfz53_1); (try clear hfz53_2); (try clear hfz53_3); (try clear hfz53_4); (try clear hfz55_0); (try clear hfz55_1); (try clear hfz55_2); (try clear hfz55_3); (try clear hfz55_4); (try clear hfz61_0); (try clear hfz61_1); (try clear hfz61_2); (try clear hfz61_3); (try clear hfz61_4); (try clear p2); (obtain ⟨kq, x22_58, rfl, rfl, HA, HJ58, HO_16, HO_17, BK275, BK278, HB⟩ := hcut)
              cases kq with
              | zero => exact absurd HA.out (by simp [spec_RunStops.j4])
              | succ kj58 =>
               have H := HA.out; clear HA; (simp only [spec_RunStops.j4] at H); (have HC64 := aM H); clear H
               go_upto_region 19 with (fail)
               go_cut [19, 112] (fun v19 v112 wc => ∃ (kq : Nat) (x112_63 : Bool), v112 = .bool x112_63 ∧ v19 = .bool (decide (a3 ≤ x18_2)) ∧ Aside0 (spec_RunStops.j5 kq l1 a2 a3 a4 x14_55 x15_2 x16_2 x17_2 x18_2 (decide (x18_2 ≥ a3)) t279 x112_63 a0_0 a0_1 a0_2 a0_3 a0_4 x279000_2 x279001_2 = some (r1, r2, r3)) ∧ Aside0 (kq ≤ kj58) ∧ Aside0 (Kd.R (Kd.int .i64) 3 wc w.heap.size (fun _ => True) u16 x16_2) ∧ Aside0 (Kd.R Kd.bool 4 wc w.heap.size (fun _ => True) u17 x17_2) ∧ Aside0 (wc.heap[gb275]? = some (.cells #[.int .i64 a0_0, .int .i64 a0_1, .int .i64 a0_2, .int .i64 a0_3, .int .i64 a0_4] 26 (0, 0))) ∧ Aside0 (wc.heap[gb278]? = some (.cells #[.bool x279000_2, .bool x279001_2] 65 (0, 0))) ∧ Aside0 (Below w.heap.size w wc))
               case first =>
                have H := HC64.out; clear HC64
                by_cases c65 : t279 = true
                · subst c65
                  (have H1 : (if x22_58 = true then (spec_RunStops.j5 kj58 l1 a2 a3 a4 x14_55 x15_2 x16_2 x17_2 x18_2 (decide (x18_2 ≥ a3)) true (decide ((wrap64 (x18_2 - x14_55)) > a0_1)) a0_0 a0_1 a0_2 a0_3 a0_4 x279000_2 x279001_2) else (spec_RunStops.j5 kj58 l1 a2 a3 a4 x14_55 x15_2 x16_2 x17_2 x18_2 (decide (x18_2 ≥ a3)) true true a0_0 a0_1 a0_2 a0_3 a0_4 x279000_2 x279001_2)) = some (r1, r2, r3) := by rw [if_pos rfl] at H; exact H); clear H; have H := H1; clear H1
                  by_cases c66 : x22_58 = true
                  · subst c66
                    (have H1 : (spec_RunStops.j5 kj58 l1 a2 a3 a4 x14_55 x15_2 x16_2 x17_2 x18_2 (decide (x18_2 ≥ a3)) true (decide ((wrap64 (x18_2 - x14_55)) > a0_1)) a0_0 a0_1 a0_2 a0_3 a0_4 x279000_2 x279001_2) = some (r1, r2, r3) := by rw [if_pos rfl] at H; exact H); clear H; have H := H1; clear H1; (have H' := aM H); clear H; have hnb67 := NB275_278.out; have hnc67 := NB278_275.out; (have hcz68_0 : wc.cell? ⟨gb275, 0, none⟩ = some (.int .i64 a0_0) := (cZ BK275.out 0).trans rfl); (have hcz68_1 : wc.cell? ⟨gb275, 1, none⟩ = some (.int .i64 a0_1) := (cZ BK275.out 1).trans rfl); (have hcz68_2 : wc.cell? ⟨gb275, 2, none⟩ = some (.int .i64 a0_2) := (cZ BK275.out 2).trans rfl); (have hcz68_3 : wc.cell? ⟨gb275, 3, none⟩ = some (.int .i64 a0_3) := (cZ BK275.out 3).trans rfl); (have hcz68_4 : wc.cell? ⟨gb275, 4, none⟩ = some (.int .i64 a0_4) := (cZ BK275.out 4).trans rfl); (have hfz68_0 := fZ BK275.out 0); (have hfz68_1 := fZ BK275.out 1); (have hfz68_2 := fZ BK275.out 2); (have hfz68_3 := fZ BK275.out 3); (have hfz68_4 := fZ BK275.out 4)
                    go_wp2
                    go_meet
                    case rel => exact ⟨_, (decide ((wrap64 (x18_2 - x14_55)) > a0_1)), (by first | rfl | (simp; done) | (simp [*]; done)), (by first | rfl | (simp; done) | (simp [*]; done)), H', ⟨by have := HJ5.out; have := HK2.out; have := HJ45.out; have := HJ55.out; have := HJ58.out; first | omega | exact Nat.le_refl _⟩, ⟨by (with_reducible repeat (first | apply Kd.R_alloc | apply Kd.R_drewN | apply Kd.R_drew)); exact HO_16.out⟩, ⟨by (with_reducible repeat (first | apply Kd.R_alloc | apply Kd.R_drewN | apply Kd.R_drew)); exact HO_17.out⟩, ⟨by (with_reducible repeat (first | refine kN ?_ _ | refine kD ?_ | refine kA ?_ _)); exact BK275.out⟩, ⟨by (with_reducible repeat (first | refine kN ?_ _ | refine kD ?_ | refine kA ?_ _)); exact BK278.out⟩, ⟨by repeat (first | (with_reducible first | exact HB.out | apply bA | apply bN | apply bD | refine bS ?_ GE275.out | refine bS ?_ GE278.out) | exact HB.out)⟩⟩
                  · replace c66 := Bool.eq_false_iff.mpr c66
                    subst c66; (have H1 : (spec_RunStops.j5 kj58 l1 a2 a3 a4 x14_55 x15_2 x16_2 x17_2 x18_2 (decide (x18_2 ≥ a3)) true true a0_0 a0_1 a0_2 a0_3 a0_4 x279000_2 x279001_2) = some (r1, r2, r3) := by rw [if_neg (show ¬ (false = true) by decide)] at H; exact H); clear H; have H := H1; clear H1; (have H' := aM H); clear H
                    go_wp2
                    go_meet
                    case rel => exact ⟨_, (true), (by first | rfl | (simp; done) | (simp [*]; done)), (by first | rfl | (simp; done) | (simp [*]; done)), H', ⟨by have := HJ5.out; have := HK2.out; have := HJ45.out; have := HJ55.out; have := HJ58.out; first | omega | exact Nat.le_refl _⟩, ⟨by (with_reducible repeat (first | apply Kd.R_alloc | apply Kd.R_drewN | apply Kd.R_drew)); exact HO_16.out⟩, ⟨by (with_reducible repeat (first | apply Kd.R_alloc | apply Kd.R_drewN | apply Kd.R_drew)); exact HO_17.out⟩, ⟨by (with_reducible repeat (first | refine kN ?_ _ | refine kD ?_ | refine kA ?_ _)); exact BK275.out⟩, ⟨by (with_reducible repeat (first | refine kN ?_ _ | refine kD ?_ | refine kA ?_ _)); exact BK278.out⟩, ⟨by repeat (first | (with_reducible first | exact HB.out | apply bA | apply bN | apply bD | refine bS ?_ GE275.out | refine bS ?_ GE278.out) | exact HB.out)⟩⟩
                · replace c65 := Bool.eq_false_iff.mpr c65
                  subst c65; (have H1 : (spec_RunStops.j5 kj58 l1 a2 a3 a4 x14_55 x15_2 x16_2 x17_2 x18_2 (decide (x18_2 ≥ a3)) false (decide ((wrap64 (x18_2 - x14_55)) > a0_1)) a0_0 a0_1 a0_2 a0_3 a0_4 x279000_2 x279001_2) = some (r1, r2, r3) := by rw [if_neg (show ¬ (false = true) by decide)] at H; exact H); clear H; have H := H1; clear H1; (have H' := aM H); clear H; have hnb69 := NB275_278.out; have hnc69 := NB278_275.out; (have hcz70_0 : wc.cell? ⟨gb275, 0, none⟩ = some (.int .i64 a0_0) := (cZ BK275.out 0).trans rfl); (have hcz70_1 : wc.cell? ⟨gb275, 1, none⟩ = some (.int .i64 a0_1) := (cZ BK275.out 1).trans rfl); (have hcz70_2 : wc.cell? ⟨gb275, 2, none⟩ = some (.int .i64 a0_2) := (cZ BK275.out 2).trans rfl); (have hcz70_3 : wc.cell? ⟨gb275, 3, none⟩ = some (.int .i64 a0_3) := (cZ BK275.out 3).trans rfl); (have hcz70_4 : wc.cell? ⟨gb275, 4, none⟩ = some (.int .i64 a0_4) := (cZ BK275.out 4).trans rfl); (have hfz70_0 := fZ BK275.out 0); (have hfz70_1 := fZ BK275.out 1); (have hfz70_2 := fZ BK275.out 2); (have hfz70_3 := fZ BK275.out 3); (have hfz70_4 := fZ BK275.out 4)
                  go_wp2
                  go_meet
                  case rel => exact ⟨_, (decide ((wrap64 (x18_2 - x14_55)) > a0_1)), (by first | rfl | (simp; done) | (simp [*]; done)), (by first | rfl | (simp; done) | (simp [*]; done)), H', ⟨by have := HJ5.out; have := HK2.out; have := HJ45.out; have := HJ55.out; have := HJ58.out; first | omega | exact Nat.le_refl _⟩, ⟨by (with_reducible repeat (first | apply Kd.R_alloc | apply Kd.R_drewN | apply Kd.R_drew)); exact HO_16.out⟩, ⟨by (with_reducible repeat (first | apply Kd.R_alloc | apply Kd.R_drewN | apply Kd.R_drew)); exact HO_17.out⟩, ⟨by (with_reducible repeat (first | refine kN ?_ _ | refine kD ?_ | refine kA ?_ _)); exact BK275.out⟩, ⟨by (with_reducible repeat (first | refine kN ?_ _ | refine kD ?_ | refine kA ?_ _)); exact BK278.out⟩, ⟨by repeat (first | (with_reducible first | exact HB.out | apply bA | apply bN | apply bD | refine bS ?_ GE275.out | refine bS ?_ GE278.out) | exact HB.out)⟩⟩
               case rest =>
                clear HC64; (try clear c1); (try clear c2); (try clear p2); (try clear c3); (try clear c4); (try clear c5); (try clear c6); (try clear p6); (try clear c9); (try clear c10); (try clear c11); (try clear c12); (try clear c12b0); (try clear c16); (try clear c16b0); (try clear c20); (try clear c20b0); (try clear c24); (try clear c24b0); (try clear c28); (try clear c28b0); (try clear c34); (try clear c36); (try clear c40); (try clear c42); (try clear c45); (try clear c45b0); (try clear c47); (try clear c47b0); (try clear c47b1); (try clear c48); (try clear c48b0); (try clear c48b1); (try clear c49); (try clear c49b0); (try clear c50); (try clear c52); (try clear c54); (try clear c57); (try clear c60); (try clear c63); (try clear c63b0); (try clear p64); (try clear c65); (try clear c66); (try clear c67); (try clear c69); (try clear hcz13_0); (try clear hcz13_1); (try clear hcz13_2); (try clear hcz13_3); (try clear hcz13_4); (try clear hcz17_0); (try clear hcz17_1); (try clear hcz17_2); (try clear hcz17_3); (try clear hcz17_4); (try clear hcz21_0); (try clear hcz21_1); (try clear hcz21_2); (try clear hcz21_3); (try clear hcz21_4); (try clear hcz25_0); (try clear hcz25_1); (try clear hcz25_2); (try clear hcz25_3); (try clear hcz25_4); (try clear hcz29_0); (try clear hcz29_1); (try clear hcz29_2); (try clear hcz29_3); (try clear hcz29_4); (try clear hcz32_0); (try clear hcz32_1); (try clear hcz32_2); (try clear hcz32_3); (try clear hcz32_4); (try clear hcz35_0); (try clear hcz35_1)
                (try clear hcz35_2); (try clear hcz35_3); (try clear hcz35_4); (try clear hcz38_0); (try clear hcz38_1); (try clear hcz38_2); (try clear hcz38_3); (try clear hcz38_4); (try clear hcz43_0); (try clear hcz43_1); (try clear hcz44_0); (try clear hcz44_1); (try clear hcz44_2); (try clear hcz44_3); (try clear hcz44_4); (try clear hcz51_0); (try clear hcz51_1); (try clear hcz51_2); (try clear hcz51_3); (try clear hcz51_4); (try clear hcz53_0); (try clear hcz53_1); (try clear hcz53_2); (try clear hcz53_3); (try clear hcz53_4); (try clear hcz55_0); (try clear hcz55_1); (try clear hcz55_2); (try clear hcz55_3); (try clear hcz55_4); (try clear hcz61_0); (try clear hcz61_1); (try clear hcz61_2); (try clear hcz61_3); (try clear hcz61_4); (try clear hcz68_0); (try clear hcz68_1); (try clear hcz68_2); (try clear hcz68_3); (try clear hcz68_4); (try clear hcz70_0); (try clear hcz70_1); (try clear hcz70_2); (try clear hcz70_3); (try clear hcz70_4); (try clear hfz13_0); (try clear hfz13_1); (try clear hfz13_2); (try clear hfz13_3); (try clear hfz13_4); (try clear hfz17_0); (try clear hfz17_1); (try clear hfz17_2); (try clear hfz17_3); (try clear hfz17_4); (try clear hfz21_0); (try clear hfz21_1); (try clear hfz21_2); (try clear hfz21_3); (try clear hfz21_4); (try clear hfz25_0); (try clear hfz25_1); (try clear hfz25_2); (try clear hfz25_3); (try clear hfz25_4); (try clear hfz29_0); (try clear hfz29_1); (try clear hfz29_2); (try clear hfz29_3); (try clear hfz29_4); (try clear hfz32_0)
                (try clear hfz32_1); (try clear hfz32_2); (try clear hfz32_3); (try clear hfz32_4); (try clear hfz35_0); (try clear hfz35_1); (try clear hfz35_2); (try clear hfz35_3); (try clear hfz35_4); (try clear hfz38_0); (try clear hfz38_1); (try clear hfz38_2); (try clear hfz38_3); (try clear hfz38_4); (try clear hfz43_0); (try clear hfz43_1); (try clear hfz44_0); (try clear hfz44_1); (try clear hfz44_2); (try clear hfz44_3); (try clear hfz44_4); (try clear hfz51_0); (try clear hfz51_1); (try clear hfz51_2); (try clear hfz51_3); (try clear hfz51_4); (try clear hfz53_0); (try clear hfz53_1); (try clear hfz53_2); (try clear hfz53_3); (try clear hfz53_4); (try clear hfz55_0); (try clear hfz55_1); (try clear hfz55_2); (try clear hfz55_3); (try clear hfz55_4); (try clear hfz61_0); (try clear hfz61_1); (try clear hfz61_2); (try clear hfz61_3); (try clear hfz61_4); (try clear hfz68_0); (try clear hfz68_1); (try clear hfz68_2); (try clear hfz68_3); (try clear hfz68_4); (try clear hfz70_0); (try clear hfz70_1); (try clear hfz70_2); (try clear hfz70_3); (try clear hfz70_4); (try clear p2); (try clear p6); (obtain ⟨kq, x112_63, rfl, rfl, HA, HJ63, HO_16, HO_17, BK275, BK278, HB⟩ := hcut)
                cases kq with
                | zero => exact absurd HA.out (by simp [spec_RunStops.j5])
                | succ kj63 =>
                 have H := HA.out; clear HA; (simp only [spec_RunStops.j5] at H); (have HC71 := aM H); clear H
                 go_upto_if 112 with (fail)
                 refine wp_last_k ?_
                 intro KL hKL
                 go_cut [19] (fun v19 wc => ∃ (kq : Nat) (x279000_70 : Bool), v19 = .bool (decide (a3 ≤ x18_2)) ∧ Aside0 (spec_RunStops.j6 kq l1 a2 a3 a4 x14_55 x15_2 x16_2 x17_2 x18_2 (decide (x18_2 ≥ a3)) t279 a0_0 a0_1 a0_2 a0_3 a0_4 x279000_70 x279001_2 = some (r1, r2, r3)) ∧ Aside0 (kq ≤ kj63) ∧ Aside0 (Kd.R (Kd.int .i64) 3 wc w.heap.size (fun _ => True) u16 x16_2) ∧ Aside0 (Kd.R Kd.bool 4 wc w.heap.size (fun _ => True) u17 x17_2) ∧ Aside0 (wc.heap[gb275]? = some (.cells #[.int .i64 a0_0, .int .i64 a0_1, .int .i64 a0_2, .int .i64 a0_3, .int .i64 a0_4] 26 (0, 0))) ∧ Aside0 (wc.heap[gb278]? = some (.cells #[.bool x279000_70, .bool x279001_2] 65 (0, 0))) ∧ Aside0 (Below w.heap.size w wc))
                 case first =>
                  have H := HC71.out; clear HC71
                  by_cases c72 : x112_63 = true
                  · subst c72
                    (have H1 : (spec_RunStops.j6 kj63 l1 a2 a3 a4 x14_55 x15_2 x16_2 x17_2 x18_2 (decide (x18_2 ≥ a3)) t279 a0_0 a0_1 a0_2 a0_3 a0_4 false x279001_2) = some (r1, r2, r3) := by rw [if_pos rfl] at H; exact H); clear H; have H := H1; clear H1; (have H' := aM H); clear H; have hnb73 := NB278_275.out; have hnc73 := NB275_278.out; (have hcz74_0 : wc.cell? ⟨gb278, 0, none⟩ = some (.bool x279000_2) := (cZ BK278.out 0).trans rfl); (have hcz74_1 : wc.cell? ⟨gb278, 1, none⟩ = some (.bool x279001_2) := (cZ BK278.out 1).trans rfl); (have hfz74_0 := fZ BK278.out 0); (have hfz74_1 := fZ BK278.out 1)
                    go_wp2
                    go_meet
                    case rel => exact ⟨_, (false), (by first | rfl | (simp; done) | (simp [*]; done)), H', ⟨by have := HJ5.out; have := HK2.out; have := HJ45.out; have := HJ55.out; have := HJ58.out; have := HJ63.out; first | omega | exact Nat.le_refl _⟩, ⟨by (with_reducible repeat (first | apply Kd.R_alloc | apply Kd.R_drewN | apply Kd.R_drew)); exact Kd.R_mono (Kd.R_far (p := ⟨gb278, 0, none⟩) (Kd.R_types HO_16.out BK278.out (by decide)) (fun _ hk => hk.2) (.bool false)) (fun _ hk => trivial)⟩, ⟨by (with_reducible repeat (first | apply Kd.R_alloc | apply Kd.R_drewN | apply Kd.R_drew)); exact Kd.R_mono (Kd.R_far (p := ⟨gb278, 0, none⟩) (Kd.R_types HO_17.out BK278.out (by decide)) (fun _ hk => hk.2) (.bool false)) (fun _ hk => trivial)⟩, ⟨by (with_reducible repeat (first | refine kN ?_ _ | refine kD ?_ | refine kA ?_ _)); refine blk_far ?_ NB275_278.out _; (with_reducible repeat (first | refine kN ?_ _ | refine kD ?_ | refine kA ?_ _)); exact BK275.out⟩, ⟨by (with_reducible repeat (first | refine kN ?_ _ | refine kD ?_ | refine kA ?_ _)); refine blk_put (cs := #[.bool x279000_2, .bool x279001_2]) ?_ 0 _ rfl; (with_reducible repeat (first | refine kN ?_ _ | refine kD ?_ | refine kA ?_ _)); exact BK278.out⟩, ⟨by repeat (first | (with_reducible first | exact HB.out | apply bA | apply bN | apply bD | refine bS ?_ GE275.out | refine bS ?_ GE278.out) | exact HB.out)⟩⟩
                  · replace c72 := Bool.eq_false_iff.mpr c72
                    subst c72; (have H1 : (spec_RunStops.j6 kj63 l1 a2 a3 a4 x14_55 x15_2 x16_2 x17_2 x18_2 (decide (x18_2 ≥ a3)) t279 a0_0 a0_1 a0_2 a0_3 a0_4 x279000_2 x279001_2) = some (r1, r2, r3) := by rw [if_neg (show ¬ (false = true) by decide)] at H; exact H); clear H; have H := H1; clear H1; (have H' := aM H); clear H
                    go_wp2
                    go_meet
                    case rel => exact ⟨_, (x279000_2), (by first | rfl | (simp; done) | (simp [*]; done)), H', ⟨by have := HJ5.out; have := HK2.out; have := HJ45.out; have := HJ55.out; have := HJ58.out; have := HJ63.out; first | omega | exact Nat.le_refl _⟩, ⟨by (with_reducible repeat (first | apply Kd.R_alloc | apply Kd.R_drewN | apply Kd.R_drew)); exact HO_16.out⟩, ⟨by (with_reducible repeat (first | apply Kd.R_alloc | apply Kd.R_drewN | apply Kd.R_drew)); exact HO_17.out⟩, ⟨by (with_reducible repeat (first | refine kN ?_ _ | refine kD ?_ | refine kA ?_ _)); exact BK275.out⟩, ⟨by (with_reducible repeat (first | refine kN ?_ _ | refine kD ?_ | refine kA ?_ _)); exact BK278.out⟩, ⟨by repeat (first | (with_reducible first | exact HB.out | apply bA | apply bN | apply bD | refine bS ?_ GE275.out | refine bS ?_ GE278.out) | exact HB.out)⟩⟩
                 case rest =>
                  clear HC71; (try clear c1); (try clear c2); (try clear p2); (try clear c3); (try clear c4); (try clear c5); (try clear c6); (try clear p6); (try clear c7); (try clear c9); (try clear c10); (try clear c11); (try clear c12); (try clear c12b0); (try clear c16); (try clear c16b0); (try clear c20); (try clear c20b0); (try clear c24); (try clear c24b0); (try clear c28); (try clear c28b0); (try clear c34); (try clear c36); (try clear c40); (try clear c42); (try clear c45); (try clear c45b0); (try clear c47); (try clear c47b0); (try clear c47b1); (try clear c48); (try clear c48b0); (try clear c48b1); (try clear c49); (try clear c49b0); (try clear c50); (try clear c52); (try clear c54); (try clear c57); (try clear c60); (try clear c63); (try clear c63b0); (try clear p64); (try clear c65); (try clear c66); (try clear c67); (try clear c69); (try clear c72); (try clear c73); (try clear hcz13_0); (try clear hcz13_1); (try clear hcz13_2); (try clear hcz13_3); (try clear hcz13_4); (try clear hcz17_0); (try clear hcz17_1); (try clear hcz17_2); (try clear hcz17_3); (try clear hcz17_4); (try clear hcz21_0); (try clear hcz21_1); (try clear hcz21_2); (try clear hcz21_3); (try clear hcz21_4); (try clear hcz25_0); (try clear hcz25_1); (try clear hcz25_2); (try clear hcz25_3); (try clear hcz25_4); (try clear hcz29_0); (try clear hcz29_1); (try clear hcz29_2); (try clear hcz29_3); (try clear hcz29_4); (try clear hcz32_0); (try clear hcz32_1); (try clear hcz32_2); (try clear hcz32_3)
                  (try clear hcz32_4); (try clear hcz35_0); (try clear hcz35_1); (try clear hcz35_2); (try clear hcz35_3); (try clear hcz35_4); (try clear hcz38_0); (try clear hcz38_1); (try clear hcz38_2); (try clear hcz38_3); (try clear hcz38_4); (try clear hcz43_0); (try clear hcz43_1); (try clear hcz44_0); (try clear hcz44_1); (try clear hcz44_2); (try clear hcz44_3); (try clear hcz44_4); (try clear hcz51_0); (try clear hcz51_1); (try clear hcz51_2); (try clear hcz51_3); (try clear hcz51_4); (try clear hcz53_0); (try clear hcz53_1); (try clear hcz53_2); (try clear hcz53_3); (try clear hcz53_4); (try clear hcz55_0); (try clear hcz55_1); (try clear hcz55_2); (try clear hcz55_3); (try clear hcz55_4); (try clear hcz61_0); (try clear hcz61_1); (try clear hcz61_2); (try clear hcz61_3); (try clear hcz61_4); (try clear hcz68_0); (try clear hcz68_1); (try clear hcz68_2); (try clear hcz68_3); (try clear hcz68_4); (try clear hcz70_0); (try clear hcz70_1); (try clear hcz70_2); (try clear hcz70_3); (try clear hcz70_4); (try clear hcz74_0); (try clear hcz74_1); (try clear hfz13_0); (try clear hfz13_1); (try clear hfz13_2); (try clear hfz13_3); (try clear hfz13_4); (try clear hfz17_0); (try clear hfz17_1); (try clear hfz17_2); (try clear hfz17_3); (try clear hfz17_4); (try clear hfz21_0); (try clear hfz21_1); (try clear hfz21_2); (try clear hfz21_3); (try clear hfz21_4); (try clear hfz25_0); (try clear hfz25_1); (try clear hfz25_2); (try clear hfz25_3); (try clear hfz25_4); (try clear hfz29_0)
                  (try clear hfz29_1); (try clear hfz29_2); (try clear hfz29_3); (try clear hfz29_4); (try clear hfz32_0); (try clear hfz32_1); (try clear hfz32_2); (try clear hfz32_3); (try clear hfz32_4); (try clear hfz35_0); (try clear hfz35_1); (try clear hfz35_2); (try clear hfz35_3); (try clear hfz35_4); (try clear hfz38_0); (try clear hfz38_1); (try clear hfz38_2); (try clear hfz38_3); (try clear hfz38_4); (try clear hfz43_0); (try clear hfz43_1); (try clear hfz44_0); (try clear hfz44_1); (try clear hfz44_2); (try clear hfz44_3); (try clear hfz44_4); (try clear hfz51_0); (try clear hfz51_1); (try clear hfz51_2); (try clear hfz51_3); (try clear hfz51_4); (try clear hfz53_0); (try clear hfz53_1); (try clear hfz53_2); (try clear hfz53_3); (try clear hfz53_4); (try clear hfz55_0); (try clear hfz55_1); (try clear hfz55_2); (try clear hfz55_3); (try clear hfz55_4); (try clear hfz61_0); (try clear hfz61_1); (try clear hfz61_2); (try clear hfz61_3); (try clear hfz61_4); (try clear hfz68_0); (try clear hfz68_1); (try clear hfz68_2); (try clear hfz68_3); (try clear hfz68_4); (try clear hfz70_0); (try clear hfz70_1); (try clear hfz70_2); (try clear hfz70_3); (try clear hfz70_4); (try clear hfz74_0); (try clear hfz74_1); (try clear p2); (try clear p6); (try clear p64); (obtain ⟨kq, x279000_70, rfl, HA, HJ70, HO_16, HO_17, BK275, BK278, HB⟩ := hcut)
                  cases kq with
                  | zero => exact absurd HA.out (by simp [spec_RunStops.j6])
                  | succ kj70 =>
                   have H := HA.out; clear HA; (simp only [spec_RunStops.j6] at H); (have HC75 := aM H); clear H
                   go_upto_region 18 with (first | (refine wp_loop_rounds 3 ?_; rw [rounds_succ]) | (rw [rounds_succ]))
                   go_cut [19, 22] (fun v19 v22 wc => ∃ (kq : Nat) (x22_74 : Bool), v22 = .bool x22_74 ∧ v19 = .bool (decide (a3 ≤ x18_2)) ∧ Aside0 (spec_RunStops.j7 kq l1 a2 a3 a4 x14_55 x15_2 x16_2 x17_2 x18_2 (decide (x18_2 ≥ a3)) t279 x22_74 a0_0 a0_1 a0_2 a0_3 a0_4 x279000_70 x279001_2 = some (r1, r2, r3)) ∧ Aside0 (kq ≤ kj70) ∧ Aside0 (Kd.R (Kd.int .i64) 3 wc w.heap.size (fun _ => True) u16 x16_2) ∧ Aside0 (Kd.R Kd.bool 4 wc w.heap.size (fun _ => True) u17 x17_2) ∧ Aside0 (wc.heap[gb275]? = some (.cells #[.int .i64 a0_0, .int .i64 a0_1, .int .i64 a0_2, .int .i64 a0_3, .int .i64 a0_4] 26 (0, 0))) ∧ Aside0 (wc.heap[gb278]? = some (.cells #[.bool x279000_70, .bool x279001_2] 65 (0, 0))) ∧ Aside0 (Below w.heap.size w wc))
                   case first =>
                    have H := HC75.out; clear HC75
                    by_cases c76 : (decide (x18_2 ≥ a3)) = true
                    · rw [if_pos c76] at H
                      (have c76b0 : (decide (x18_2 ≥ a3)) = true := c76); (have c76b0' : decide (a3 ≤ x18_2) = true := c76b0); (have c76b0p : a3 ≤ x18_2 := of_decide_eq_true c76b0'); clear c76
                      (first | rw [c76b0] | (simp only [i64_w, i32_w]; rw [c76b0]) | skip)
                      (have H' := aM H); clear H
                      go_wp2
                      go_meet
                      case rel => exact ⟨_, ((a2 == (1 + 1))), (by first | rfl | (simp; done) | (simp [*]; done)), (by first | rfl | (simp; done) | (simp [*]; done)), H', ⟨by have := HJ5.out; have := HK2.out; have := HJ45.out; have := HJ55.out; have := HJ58.out; have := HJ63.out; have := HJ70.out; first | omega | exact Nat.le_refl _⟩, ⟨by (with_reducible repeat (first | apply Kd.R_alloc | apply Kd.R_drewN | apply Kd.R_drew)); exact HO_16.out⟩, ⟨by (with_reducible repeat (first | apply Kd.R_alloc | apply Kd.R_drewN | apply Kd.R_drew)); exact HO_17.out⟩, ⟨by (with_reducible repeat (first | refine kN ?_ _ | refine kD ?_ | refine kA ?_ _)); exact BK275.out⟩, ⟨by (with_reducible repeat (first | refine kN ?_ _ | refine kD ?_ | refine kA ?_ _)); exact BK278.out⟩, ⟨by repeat (first | (with_reducible first | exact HB.out | apply bA | apply bN | apply bD | refine bS ?_ GE275.out | refine bS ?_ GE278.out) | exact HB.out)⟩⟩
                    · rw [if_neg c76] at H
                      (have c76b0 : (decide (x18_2 ≥ a3)) = false := by simpa using c76); (have c76b0' : decide (a3 ≤ x18_2) = false := c76b0); (have c76b0p : ¬ (a3 ≤ x18_2) := of_decide_eq_false c76b0'); clear c76
                      (first | rw [c76b0] | (simp only [i64_w, i32_w]; rw [c76b0]) | skip)
                      (have H' := aM H); clear H
                      go_wp2
                      go_meet
                      case rel => exact ⟨_, (false), (by first | rfl | (simp; done) | (simp [*]; done)), (by first | rfl | (simp; done) | (simp [*]; done)), H', ⟨by have := HJ5.out; have := HK2.out; have := HJ45.out; have := HJ55.out; have := HJ58.out; have := HJ63.out; have := HJ70.out; first | omega | exact Nat.le_refl _⟩, ⟨by (with_reducible repeat (first | apply Kd.R_alloc | apply Kd.R_drewN | apply Kd.R_drew)); exact HO_16.out⟩, ⟨by (with_reducible repeat (first | apply Kd.R_alloc | apply Kd.R_drewN | apply Kd.R_drew)); exact HO_17.out⟩, ⟨by (with_reducible repeat (first | refine kN ?_ _ | refine kD ?_ | refine kA ?_ _)); exact BK275.out⟩, ⟨by (with_reducible repeat (first | refine kN ?_ _ | refine kD ?_ | refine kA ?_ _)); exact BK278.out⟩, ⟨by repeat (first | (with_reducible first | exact HB.out | apply bA | apply bN | apply bD | refine bS ?_ GE275.out | refine bS ?_ GE278.out) | exact HB.out)⟩⟩
                   case rest =>
                    clear HC75; (try clear c1); (try clear c2); (try clear p2); (try clear c3); (try clear c4); (try clear c5); (try clear c6); (try clear p6); (try clear c7); (try clear c9); (try clear c10); (try clear c11); (try clear c12); (try clear c12b0); (try clear c16); (try clear c16b0); (try clear c20); (try clear c20b0); (try clear c24); (try clear c24b0); (try clear c28); (try clear c28b0); (try clear c34); (try clear c36); (try clear c40); (try clear c42); (try clear c45); (try clear c45b0); (try clear c47); (try clear c47b0); (try clear c47b1); (try clear c48); (try clear c48b0); (try clear c48b1); (try clear c49); (try clear c49b0); (try clear c50); (try clear c52); (try clear c54); (try clear c57); (try clear c60); (try clear c63); (try clear c63b0); (try clear p64); (try clear c65); (try clear c66); (try clear c67); (try clear c69); (try clear c72); (try clear c73); (try clear c76); (try clear c76b0); (try clear hcz13_0); (try clear hcz13_1); (try clear hcz13_2); (try clear hcz13_3); (try clear hcz13_4); (try clear hcz17_0); (try clear hcz17_1); (try clear hcz17_2); (try clear hcz17_3); (try clear hcz17_4); (try clear hcz21_0); (try clear hcz21_1); (try clear hcz21_2); (try clear hcz21_3); (try clear hcz21_4); (try clear hcz25_0); (try clear hcz25_1); (try clear hcz25_2); (try clear hcz25_3); (try clear hcz25_4); (try clear hcz29_0); (try clear hcz29_1); (try clear hcz29_2); (try clear hcz29_3); (try clear hcz29_4); (try clear hcz32_0); (try clear hcz32_1); (try clear hcz32_2)
                    (try clear hcz32_3); (try clear hcz32_4); (try clear hcz35_0); (try clear hcz35_1); (try clear hcz35_2); (try clear hcz35_3); (try clear hcz35_4); (try clear hcz38_0); (try clear hcz38_1); (try clear hcz38_2); (try clear hcz38_3); (try clear hcz38_4); (try clear hcz43_0); (try clear hcz43_1); (try clear hcz44_0); (try clear hcz44_1); (try clear hcz44_2); (try clear hcz44_3); (try clear hcz44_4); (try clear hcz51_0); (try clear hcz51_1); (try clear hcz51_2); (try clear hcz51_3); (try clear hcz51_4); (try clear hcz53_0); (try clear hcz53_1); (try clear hcz53_2); (try clear hcz53_3); (try clear hcz53_4); (try clear hcz55_0); (try clear hcz55_1); (try clear hcz55_2); (try clear hcz55_3); (try clear hcz55_4); (try clear hcz61_0); (try clear hcz61_1); (try clear hcz61_2); (try clear hcz61_3); (try clear hcz61_4); (try clear hcz68_0); (try clear hcz68_1); (try clear hcz68_2); (try clear hcz68_3); (try clear hcz68_4); (try clear hcz70_0); (try clear hcz70_1); (try clear hcz70_2); (try clear hcz70_3); (try clear hcz70_4); (try clear hcz74_0); (try clear hcz74_1); (try clear hfz13_0); (try clear hfz13_1); (try clear hfz13_2); (try clear hfz13_3); (try clear hfz13_4); (try clear hfz17_0); (try clear hfz17_1); (try clear hfz17_2); (try clear hfz17_3); (try clear hfz17_4); (try clear hfz21_0); (try clear hfz21_1); (try clear hfz21_2); (try clear hfz21_3); (try clear hfz21_4); (try clear hfz25_0); (try clear hfz25_1); (try clear hfz25_2); (try clear hfz25_3); (try clear hfz25_4)
                    (try clear hfz29_0); (try clear hfz29_1); (try clear hfz29_2); (try clear hfz29_3); (try clear hfz29_4); (try clear hfz32_0); (try clear hfz32_1); (try clear hfz32_2); (try clear hfz32_3); (try clear hfz32_4); (try clear hfz35_0); (try clear hfz35_1); (try clear hfz35_2); (try clear hfz35_3); (try clear hfz35_4); (try clear hfz38_0); (try clear hfz38_1); (try clear hfz38_2); (try clear hfz38_3); (try clear hfz38_4); (try clear hfz43_0); (try clear hfz43_1); (try clear hfz44_0); (try clear hfz44_1); (try clear hfz44_2); (try clear hfz44_3); (try clear hfz44_4); (try clear hfz51_0); (try clear hfz51_1); (try clear hfz51_2); (try clear hfz51_3); (try clear hfz51_4); (try clear hfz53_0); (try clear hfz53_1); (try clear hfz53_2); (try clear hfz53_3); (try clear hfz53_4); (try clear hfz55_0); (try clear hfz55_1); (try clear hfz55_2); (try clear hfz55_3); (try clear hfz55_4); (try clear hfz61_0); (try clear hfz61_1); (try clear hfz61_2); (try clear hfz61_3); (try clear hfz61_4); (try clear hfz68_0); (try clear hfz68_1); (try clear hfz68_2); (try clear hfz68_3); (try clear hfz68_4); (try clear hfz70_0); (try clear hfz70_1); (try clear hfz70_2); (try clear hfz70_3); (try clear hfz70_4); (try clear hfz74_0); (try clear hfz74_1); (try clear p2); (try clear p6); (try clear p64); (obtain ⟨kq, x22_74, rfl, rfl, HA, HJ74, HO_16, HO_17, BK275, BK278, HB⟩ := hcut)
                    cases kq with
                    | zero => exact absurd HA.out (by simp [spec_RunStops.j7])
                    | succ kj74 =>
                     have H := HA.out; clear HA; (simp only [spec_RunStops.j7] at H); (have HC77 := aM H); clear H
                     go_upto_region 19 with (fail)
                     go_cut [19, 112] (fun v19 v112 wc => ∃ (kq : Nat) (x112_76 : Bool), v112 = .bool x112_76 ∧ v19 = .bool (decide (a3 ≤ x18_2)) ∧ Aside0 (spec_RunStops.j8 kq l1 a2 a3 a4 x14_55 x15_2 x16_2 x17_2 x18_2 (decide (x18_2 ≥ a3)) x112_76 a0_0 a0_1 a0_2 a0_3 a0_4 x279000_70 x279001_2 = some (r1, r2, r3)) ∧ Aside0 (kq ≤ kj74) ∧ Aside0 (Kd.R (Kd.int .i64) 3 wc w.heap.size (fun _ => True) u16 x16_2) ∧ Aside0 (Kd.R Kd.bool 4 wc w.heap.size (fun _ => True) u17 x17_2) ∧ Aside0 (wc.heap[gb275]? = some (.cells #[.int .i64 a0_0, .int .i64 a0_1, .int .i64 a0_2, .int .i64 a0_3, .int .i64 a0_4] 26 (0, 0))) ∧ Aside0 (wc.heap[gb278]? = some (.cells #[.bool x279000_70, .bool x279001_2] 65 (0, 0))) ∧ Aside0 (Below w.heap.size w wc))
                     case first =>
                      have H := HC77.out; clear HC77
                      by_cases c78 : t279 = true
                      · subst c78
                        (have H1 : (if x22_74 = true then (spec_RunStops.j8 kj74 l1 a2 a3 a4 x14_55 x15_2 x16_2 x17_2 x18_2 (decide (x18_2 ≥ a3)) (decide ((wrap64 (x18_2 - x14_55)) > a0_1)) a0_0 a0_1 a0_2 a0_3 a0_4 x279000_70 x279001_2) else (spec_RunStops.j8 kj74 l1 a2 a3 a4 x14_55 x15_2 x16_2 x17_2 x18_2 (decide (x18_2 ≥ a3)) true a0_0 a0_1 a0_2 a0_3 a0_4 x279000_70 x279001_2)) = some (r1, r2, r3) := by rw [if_pos rfl] at H; exact H); clear H; have H := H1; clear H1
                        by_cases c79 : x22_74 = true
                        · subst c79
                          (have H1 : (spec_RunStops.j8 kj74 l1 a2 a3 a4 x14_55 x15_2 x16_2 x17_2 x18_2 (decide (x18_2 ≥ a3)) (decide ((wrap64 (x18_2 - x14_55)) > a0_1)) a0_0 a0_1 a0_2 a0_3 a0_4 x279000_70 x279001_2) = some (r1, r2, r3) := by rw [if_pos rfl] at H; exact H); clear H; have H := H1; clear H1; (have H' := aM H); clear H; have hnb80 := NB275_278.out; have hnc80 := NB278_275.out; (have hcz81_0 : wc.cell? ⟨gb275, 0, none⟩ = some (.int .i64 a0_0) := (cZ BK275.out 0).trans rfl); (have hcz81_1 : wc.cell? ⟨gb275, 1, none⟩ = some (.int .i64 a0_1) := (cZ BK275.out 1).trans rfl); (have hcz81_2 : wc.cell? ⟨gb275, 2, none⟩ = some (.int .i64 a0_2) := (cZ BK275.out 2).trans rfl); (have hcz81_3 : wc.cell? ⟨gb275, 3, none⟩ = some (.int .i64 a0_3) := (cZ BK275.out 3).trans rfl); (have hcz81_4 : wc.cell? ⟨gb275, 4, none⟩ = some (.int .i64 a0_4) := (cZ BK275.out 4).trans rfl); (have hfz81_0 := fZ BK275.out 0); (have hfz81_1 := fZ BK275.out 1); (have hfz81_2 := fZ BK275.out 2); (have hfz81_3 := fZ BK275.out 3); (have hfz81_4 := fZ BK275.out 4)
                          go_wp2
                          go_meet
                          case rel => exact ⟨_, (decide ((wrap64 (x18_2 - x14_55)) > a0_1)), (by first | rfl | (simp; done) | (simp [*]; done)), (by first | rfl | (simp; done) | (simp [*]; done)), H', ⟨by have := HJ5.out; have := HK2.out; have := HJ45.out; have := HJ55.out; have := HJ58.out; have := HJ63.out; have := HJ70.out; have := HJ74.out; first | omega | exact Nat.le_refl _⟩, ⟨by (with_reducible repeat (first | apply Kd.R_alloc | apply Kd.R_drewN | apply Kd.R_drew)); exact HO_16.out⟩, ⟨by (with_reducible repeat (first | apply Kd.R_alloc | apply Kd.R_drewN | apply Kd.R_drew)); exact HO_17.out⟩, ⟨by (with_reducible repeat (first | refine kN ?_ _ | refine kD ?_ | refine kA ?_ _)); exact BK275.out⟩, ⟨by (with_reducible repeat (first | refine kN ?_ _ | refine kD ?_ | refine kA ?_ _)); exact BK278.out⟩, ⟨by repeat (first | (with_reducible first | exact HB.out | apply bA | apply bN | apply bD | refine bS ?_ GE275.out | refine bS ?_ GE278.out) | exact HB.out)⟩⟩
                        · replace c79 := Bool.eq_false_iff.mpr c79
                          subst c79; (have H1 : (spec_RunStops.j8 kj74 l1 a2 a3 a4 x14_55 x15_2 x16_2 x17_2 x18_2 (decide (x18_2 ≥ a3)) true a0_0 a0_1 a0_2 a0_3 a0_4 x279000_70 x279001_2) = some (r1, r2, r3) := by rw [if_neg (show ¬ (false = true) by decide)] at H; exact H); clear H; have H := H1; clear H1; (have H' := aM H); clear H
                          go_wp2
                          go_meet
                          case rel => exact ⟨_, (true), (by first | rfl | (simp; done) | (simp [*]; done)), (by first | rfl | (simp; done) | (simp [*]; done)), H', ⟨by have := HJ5.out; have := HK2.out; have := HJ45.out; have := HJ55.out; have := HJ58.out; have := HJ63.out; have := HJ70.out; have := HJ74.out; first | omega | exact Nat.le_refl _⟩, ⟨by (with_reducible repeat (first | apply Kd.R_alloc | apply Kd.R_drewN | apply Kd.R_drew)); exact HO_16.out⟩, ⟨by (with_reducible repeat (first | apply Kd.R_alloc | apply Kd.R_drewN | apply Kd.R_drew)); exact HO_17.out⟩, ⟨by (with_reducible repeat (first | refine kN ?_ _ | refine kD ?_ | refine kA ?_ _)); exact BK275.out⟩, ⟨by (with_reducible repeat (first | refine kN ?_ _ | refine kD ?_ | refine kA ?_ _)); exact BK278.out⟩, ⟨by repeat (first | (with_reducible first | exact HB.out | apply bA | apply bN | apply bD | refine bS ?_ GE275.out | refine bS ?_ GE278.out) | exact HB.out)⟩⟩
                      · replace c78 := Bool.eq_false_iff.mpr c78
                        subst c78; (have H1 : (spec_RunStops.j8 kj74 l1 a2 a3 a4 x14_55 x15_2 x16_2 x17_2 x18_2 (decide (x18_2 ≥ a3)) (decide ((wrap64 (x18_2 - x14_55)) > a0_1)) a0_0 a0_1 a0_2 a0_3 a0_4 x279000_70 x279001_2) = some (r1, r2, r3) := by rw [if_neg (show ¬ (false = true) by decide)] at H; exact H); clear H; have H := H1; clear H1; (have H' := aM H); clear H; have hnb82 := NB275_278.out; have hnc82 := NB278_275.out; (have hcz83_0 : wc.cell? ⟨gb275, 0, none⟩ = some (.int .i64 a0_0) := (cZ BK275.out 0).trans rfl); (have hcz83_1 : wc.cell? ⟨gb275, 1, none⟩ = some (.int .i64 a0_1) := (cZ BK275.out 1).trans rfl); (have hcz83_2 : wc.cell? ⟨gb275, 2, none⟩ = some (.int .i64 a0_2) := (cZ BK275.out 2).trans rfl); (have hcz83_3 : wc.cell? ⟨gb275, 3, none⟩ = some (.int .i64 a0_3) := (cZ BK275.out 3).trans rfl); (have hcz83_4 : wc.cell? ⟨gb275, 4, none⟩ = some (.int .i64 a0_4) := (cZ BK275.out 4).trans rfl); (have hfz83_0 := fZ BK275.out 0); (have hfz83_1 := fZ BK275.out 1); (have hfz83_2 := fZ BK275.out 2); (have hfz83_3 := fZ BK275.out 3); (have hfz83_4 := fZ BK275.out 4)
                        go_wp2
                        go_meet
                        case rel => exact ⟨_, (decide ((wrap64 (x18_2 - x14_55)) > a0_1)), (by first | rfl | (simp; done) | (simp [*]; done)), (by first | rfl | (simp; done) | (simp [*]; done)), H', ⟨by have := HJ5.out; have := HK2.out; have := HJ45.out; have := HJ55.out; have := HJ58.out; have := HJ63.out; have := HJ70.out; have := HJ74.out; first | omega | exact Nat.le_refl _⟩, ⟨by (with_reducible repeat (first | apply Kd.R_alloc | apply Kd.R_drewN | apply Kd.R_drew)); exact HO_16.out⟩, ⟨by (with_reducible repeat (first | apply Kd.R_alloc | apply Kd.R_drewN | apply Kd.R_drew)); exact HO_17.out⟩, ⟨by (with_reducible repeat (first | refine kN ?_ _ | refine kD ?_ | refine kA ?_ _)); exact BK275.out⟩, ⟨by (with_reducible repeat (first | refine kN ?_ _ | refine kD ?_ | refine kA ?_ _)); exact BK278.out⟩, ⟨by repeat (first | (with_reducible first | exact HB.out | apply bA | apply bN | apply bD | refine bS ?_ GE275.out | refine bS ?_ GE278.out) | exact HB.out)⟩⟩
                     case rest =>
                      clear HC77; (try clear c1); (try clear c2); (try clear p2); (try clear c3); (try clear c4); (try clear c5); (try clear c6); (try clear p6); (try clear c7); (try clear c8); (try clear c9); (try clear c10); (try clear c11); (try clear c12); (try clear c12b0); (try clear c16); (try clear c16b0); (try clear c20); (try clear c20b0); (try clear c24); (try clear c24b0); (try clear c28); (try clear c28b0); (try clear c34); (try clear c36); (try clear c40); (try clear c42); (try clear c45); (try clear c45b0); (try clear c47); (try clear c47b0); (try clear c47b1); (try clear c48); (try clear c48b0); (try clear c48b1); (try clear c49); (try clear c49b0); (try clear c50); (try clear c52); (try clear c54); (try clear c57); (try clear c60); (try clear c63); (try clear c63b0); (try clear p64); (try clear c65); (try clear c66); (try clear c67); (try clear c69); (try clear c72); (try clear c73); (try clear c76); (try clear c76b0); (try clear c78); (try clear c79); (try clear c80); (try clear c82); (try clear hcz13_0); (try clear hcz13_1); (try clear hcz13_2); (try clear hcz13_3); (try clear hcz13_4); (try clear hcz17_0); (try clear hcz17_1); (try clear hcz17_2); (try clear hcz17_3); (try clear hcz17_4); (try clear hcz21_0); (try clear hcz21_1); (try clear hcz21_2); (try clear hcz21_3); (try clear hcz21_4); (try clear hcz25_0); (try clear hcz25_1); (try clear hcz25_2); (try clear hcz25_3); (try clear hcz25_4); (try clear hcz29_0); (try clear hcz29_1); (try clear hcz29_2); (try clear hcz29_3)
                      (try clear hcz29_4); (try clear hcz32_0); (try clear hcz32_1); (try clear hcz32_2); (try clear hcz32_3); (try clear hcz32_4); (try clear hcz35_0); (try clear hcz35_1); (try clear hcz35_2); (try clear hcz35_3); (try clear hcz35_4); (try clear hcz38_0); (try clear hcz38_1); (try clear hcz38_2); (try clear hcz38_3); (try clear hcz38_4); (try clear hcz43_0); (try clear hcz43_1); (try clear hcz44_0); (try clear hcz44_1); (try clear hcz44_2); (try clear hcz44_3); (try clear hcz44_4); (try clear hcz51_0); (try clear hcz51_1); (try clear hcz51_2); (try clear hcz51_3); (try clear hcz51_4); (try clear hcz53_0); (try clear hcz53_1); (try clear hcz53_2); (try clear hcz53_3); (try clear hcz53_4); (try clear hcz55_0); (try clear hcz55_1); (try clear hcz55_2); (try clear hcz55_3); (try clear hcz55_4); (try clear hcz61_0); (try clear hcz61_1); (try clear hcz61_2); (try clear hcz61_3); (try clear hcz61_4); (try clear hcz68_0); (try clear hcz68_1); (try clear hcz68_2); (try clear hcz68_3); (try clear hcz68_4); (try clear hcz70_0); (try clear hcz70_1); (try clear hcz70_2); (try clear hcz70_3); (try clear hcz70_4); (try clear hcz74_0); (try clear hcz74_1); (try clear hcz81_0); (try clear hcz81_1); (try clear hcz81_2); (try clear hcz81_3); (try clear hcz81_4); (try clear hcz83_0); (try clear hcz83_1); (try clear hcz83_2); (try clear hcz83_3); (try clear hcz83_4); (try clear hfz13_0); (try clear hfz13_1); (try clear hfz13_2); (try clear hfz13_3); (try clear hfz13_4); (try clear hfz17_0)
                      (try clear hfz17_1); (try clear hfz17_2); (try clear hfz17_3); (try clear hfz17_4); (try clear hfz21_0); (try clear hfz21_1); (try clear hfz21_2); (try clear hfz21_3); (try clear hfz21_4); (try clear hfz25_0); (try clear hfz25_1); (try clear hfz25_2); (try clear hfz25_3); (try clear hfz25_4); (try clear hfz29_0); (try clear hfz29_1); (try clear hfz29_2); (try clear hfz29_3); (try clear hfz29_4); (try clear hfz32_0); (try clear hfz32_1); (try clear hfz32_2); (try clear hfz32_3); (try clear hfz32_4); (try clear hfz35_0); (try clear hfz35_1); (try clear hfz35_2); (try clear hfz35_3); (try clear hfz35_4); (try clear hfz38_0); (try clear hfz38_1); (try clear hfz38_2); (try clear hfz38_3); (try clear hfz38_4); (try clear hfz43_0); (try clear hfz43_1); (try clear hfz44_0); (try clear hfz44_1); (try clear hfz44_2); (try clear hfz44_3); (try clear hfz44_4); (try clear hfz51_0); (try clear hfz51_1); (try clear hfz51_2); (try clear hfz51_3); (try clear hfz51_4); (try clear hfz53_0); (try clear hfz53_1); (try clear hfz53_2); (try clear hfz53_3); (try clear hfz53_4); (try clear hfz55_0); (try clear hfz55_1); (try clear hfz55_2); (try clear hfz55_3); (try clear hfz55_4); (try clear hfz61_0); (try clear hfz61_1); (try clear hfz61_2); (try clear hfz61_3); (try clear hfz61_4); (try clear hfz68_0); (try clear hfz68_1); (try clear hfz68_2); (try clear hfz68_3); (try clear hfz68_4); (try clear hfz70_0); (try clear hfz70_1); (try clear hfz70_2); (try clear hfz70_3); (try clear hfz70_4)
                      (try clear hfz74_0); (try clear hfz74_1); (try clear hfz81_0); (try clear hfz81_1); (try clear hfz81_2); (try clear hfz81_3); (try clear hfz81_4); (try clear hfz83_0); (try clear hfz83_1); (try clear hfz83_2); (try clear hfz83_3); (try clear hfz83_4); (try clear p2); (try clear p6); (try clear p64); (obtain ⟨kq, x112_76, rfl, rfl, HA, HJ76, HO_16, HO_17, BK275, BK278, HB⟩ := hcut)
                      cases kq with
                      | zero => exact absurd HA.out (by simp [spec_RunStops.j8])
                      | succ kj76 =>
                       have H := HA.out; clear HA; (simp only [spec_RunStops.j8] at H); (have HC84 := aM H); clear H
                       go_upto_if 112 with (fail)
                       refine wp_last_k ?_
                       intro KL hKL
                       go_cut [19] (fun v19 wc => ∃ (kq : Nat) (x279001_83 : Bool), v19 = .bool (decide (a3 ≤ x18_2)) ∧ Aside0 (spec_RunStops.j9 kq l1 a2 a3 a4 x14_55 x15_2 x16_2 x17_2 x18_2 (decide (x18_2 ≥ a3)) a0_0 a0_1 a0_2 a0_3 a0_4 x279000_70 x279001_83 = some (r1, r2, r3)) ∧ Aside0 (kq ≤ kj76) ∧ Aside0 (Kd.R (Kd.int .i64) 3 wc w.heap.size (fun _ => True) u16 x16_2) ∧ Aside0 (Kd.R Kd.bool 4 wc w.heap.size (fun _ => True) u17 x17_2) ∧ Aside0 (wc.heap[gb275]? = some (.cells #[.int .i64 a0_0, .int .i64 a0_1, .int .i64 a0_2, .int .i64 a0_3, .int .i64 a0_4] 26 (0, 0))) ∧ Aside0 (wc.heap[gb278]? = some (.cells #[.bool x279000_70, .bool x279001_83] 65 (0, 0))) ∧ Aside0 (Below w.heap.size w wc))
                       case first =>
                        have H := HC84.out; clear HC84
                        by_cases c85 : x112_76 = true
                        · subst c85
                          (have H1 : (spec_RunStops.j9 kj76 l1 a2 a3 a4 x14_55 x15_2 x16_2 x17_2 x18_2 (decide (x18_2 ≥ a3)) a0_0 a0_1 a0_2 a0_3 a0_4 x279000_70 false) = some (r1, r2, r3) := by rw [if_pos rfl] at H; exact H); clear H; have H := H1; clear H1; (have H' := aM H); clear H; have hnb86 := NB278_275.out; have hnc86 := NB275_278.out; (have hcz87_0 : wc.cell? ⟨gb278, 0, none⟩ = some (.bool x279000_70) := (cZ BK278.out 0).trans rfl); (have hcz87_1 : wc.cell? ⟨gb278, 1, none⟩ = some (.bool x279001_2) := (cZ BK278.out 1).trans rfl); (have hfz87_0 := fZ BK278.out 0); (have hfz87_1 := fZ BK278.out 1)
                          go_wp2
                          go_meet
                          case rel => exact ⟨_, (false), (by first | rfl | (simp; done) | (simp [*]; done)), H', ⟨by have := HJ5.out; have := HK2.out; have := HJ45.out; have := HJ55.out; have := HJ58.out; have := HJ63.out; have := HJ70.out; have := HJ74.out; have := HJ76.out; first | omega | exact Nat.le_refl _⟩, ⟨by (with_reducible repeat (first | apply Kd.R_alloc | apply Kd.R_drewN | apply Kd.R_drew)); exact Kd.R_mono (Kd.R_far (p := ⟨gb278, 1, none⟩) (Kd.R_types HO_16.out BK278.out (by decide)) (fun _ hk => hk.2) (.bool false)) (fun _ hk => trivial)⟩, ⟨by (with_reducible repeat (first | apply Kd.R_alloc | apply Kd.R_drewN | apply Kd.R_drew)); exact Kd.R_mono (Kd.R_far (p := ⟨gb278, 1, none⟩) (Kd.R_types HO_17.out BK278.out (by decide)) (fun _ hk => hk.2) (.bool false)) (fun _ hk => trivial)⟩, ⟨by (with_reducible repeat (first | refine kN ?_ _ | refine kD ?_ | refine kA ?_ _)); refine blk_far ?_ NB275_278.out _; (with_reducible repeat (first | refine kN ?_ _ | refine kD ?_ | refine kA ?_ _)); exact BK275.out⟩, ⟨by (with_reducible repeat (first | refine kN ?_ _ | refine kD ?_ | refine kA ?_ _)); refine blk_put (cs := #[.bool x279000_70, .bool x279001_2]) ?_ 1 _ rfl; (with_reducible repeat (first | refine kN ?_ _ | refine kD ?_ | refine kA ?_ _)); exact BK278.out⟩, ⟨by repeat (first | (with_reducible first | exact HB.out | apply bA | apply bN | apply bD | refine bS ?_ GE275.out | refine bS ?_ GE278.out) | exact HB.out)⟩⟩
                        · replace c85 := Bool.eq_false_iff.mpr c85
                          subst c85; (have H1 : (spec_RunStops.j9 kj76 l1 a2 a3 a4 x14_55 x15_2 x16_2 x17_2 x18_2 (decide (x18_2 ≥ a3)) a0_0 a0_1 a0_2 a0_3 a0_4 x279000_70 x279001_2) = some (r1, r2, r3) := by rw [if_neg (show ¬ (false = true) by decide)] at H; exact H); clear H; have H := H1; clear H1; (have H' := aM H); clear H
                          go_wp2
                          go_meet
                          case rel => exact ⟨_, (x279001_2), (by first | rfl | (simp; done) | (simp [*]; done)), H', ⟨by have := HJ5.out; have := HK2.out; have := HJ45.out; have := HJ55.out; have := HJ58.out; have := HJ63.out; have := HJ70.out; have := HJ74.out; have := HJ76.out; first | omega | exact Nat.le_refl _⟩, ⟨by (with_reducible repeat (first | apply Kd.R_alloc | apply Kd.R_drewN | apply Kd.R_drew)); exact HO_16.out⟩, ⟨by (with_reducible repeat (first | apply Kd.R_alloc | apply Kd.R_drewN | apply Kd.R_drew)); exact HO_17.out⟩, ⟨by (with_reducible repeat (first | refine kN ?_ _ | refine kD ?_ | refine kA ?_ _)); exact BK275.out⟩, ⟨by (with_reducible repeat (first | refine kN ?_ _ | refine kD ?_ | refine kA ?_ _)); exact BK278.out⟩, ⟨by repeat (first | (with_reducible first | exact HB.out | apply bA | apply bN | apply bD | refine bS ?_ GE275.out | refine bS ?_ GE278.out) | exact HB.out)⟩⟩
                       case rest =>
                        clear HC84; (try clear c1); (try clear c2); (try clear p2); (try clear c3); (try clear c4); (try clear c5); (try clear c6); (try clear p6); (try clear c7); (try clear c8); (try clear c9); (try clear c10); (try clear c11); (try clear c12); (try clear c12b0); (try clear c16); (try clear c16b0); (try clear c20); (try clear c20b0); (try clear c24); (try clear c24b0); (try clear c28); (try clear c28b0); (try clear c34); (try clear c36); (try clear c40); (try clear c42); (try clear c45); (try clear c45b0); (try clear c47); (try clear c47b0); (try clear c47b1); (try clear c48); (try clear c48b0); (try clear c48b1); (try clear c49); (try clear c49b0); (try clear c50); (try clear c52); (try clear c54); (try clear c57); (try clear c60); (try clear c63); (try clear c63b0); (try clear p64); (try clear c65); (try clear c66); (try clear c67); (try clear c69); (try clear c72); (try clear c73); (try clear c76); (try clear c76b0); (try clear c78); (try clear c79); (try clear c80); (try clear c82); (try clear c85); (try clear c86); (try clear hcz13_0); (try clear hcz13_1); (try clear hcz13_2); (try clear hcz13_3); (try clear hcz13_4); (try clear hcz17_0); (try clear hcz17_1); (try clear hcz17_2); (try clear hcz17_3); (try clear hcz17_4); (try clear hcz21_0); (try clear hcz21_1); (try clear hcz21_2); (try clear hcz21_3); (try clear hcz21_4); (try clear hcz25_0); (try clear hcz25_1); (try clear hcz25_2); (try clear hcz25_3); (try clear hcz25_4); (try clear hcz29_0); (try clear hcz29_1)
                        (try clear hcz29_2); (try clear hcz29_3); (try clear hcz29_4); (try clear hcz32_0); (try clear hcz32_1); (try clear hcz32_2); (try clear hcz32_3); (try clear hcz32_4); (try clear hcz35_0); (try clear hcz35_1); (try clear hcz35_2); (try clear hcz35_3); (try clear hcz35_4); (try clear hcz38_0); (try clear hcz38_1); (try clear hcz38_2); (try clear hcz38_3); (try clear hcz38_4); (try clear hcz43_0); (try clear hcz43_1); (try clear hcz44_0); (try clear hcz44_1); (try clear hcz44_2); (try clear hcz44_3); (try clear hcz44_4); (try clear hcz51_0); (try clear hcz51_1); (try clear hcz51_2); (try clear hcz51_3); (try clear hcz51_4); (try clear hcz53_0); (try clear hcz53_1); (try clear hcz53_2); (try clear hcz53_3); (try clear hcz53_4); (try clear hcz55_0); (try clear hcz55_1); (try clear hcz55_2); (try clear hcz55_3); (try clear hcz55_4); (try clear hcz61_0); (try clear hcz61_1); (try clear hcz61_2); (try clear hcz61_3); (try clear hcz61_4); (try clear hcz68_0); (try clear hcz68_1); (try clear hcz68_2); (try clear hcz68_3); (try clear hcz68_4); (try clear hcz70_0); (try clear hcz70_1); (try clear hcz70_2); (try clear hcz70_3); (try clear hcz70_4); (try clear hcz74_0); (try clear hcz74_1); (try clear hcz81_0); (try clear hcz81_1); (try clear hcz81_2); (try clear hcz81_3); (try clear hcz81_4); (try clear hcz83_0); (try clear hcz83_1); (try clear hcz83_2); (try clear hcz83_3); (try clear hcz83_4); (try clear hcz87_0); (try clear hcz87_1); (try clear hfz13_0); (try clear hfz13_1)
                        (try clear hfz13_2); (try clear hfz13_3); (try clear hfz13_4); (try clear hfz17_0); (try clear hfz17_1); (try clear hfz17_2); (try clear hfz17_3); (try clear hfz17_4); (try clear hfz21_0); (try clear hfz21_1); (try clear hfz21_2); (try clear hfz21_3); (try clear hfz21_4); (try clear hfz25_0); (try clear hfz25_1); (try clear hfz25_2); (try clear hfz25_3); (try clear hfz25_4); (try clear hfz29_0); (try clear hfz29_1); (try clear hfz29_2); (try clear hfz29_3); (try clear hfz29_4); (try clear hfz32_0); (try clear hfz32_1); (try clear hfz32_2); (try clear hfz32_3); (try clear hfz32_4); (try clear hfz35_0); (try clear hfz35_1); (try clear hfz35_2); (try clear hfz35_3); (try clear hfz35_4); (try clear hfz38_0); (try clear hfz38_1); (try clear hfz38_2); (try clear hfz38_3); (try clear hfz38_4); (try clear hfz43_0); (try clear hfz43_1); (try clear hfz44_0); (try clear hfz44_1); (try clear hfz44_2); (try clear hfz44_3); (try clear hfz44_4); (try clear hfz51_0); (try clear hfz51_1); (try clear hfz51_2); (try clear hfz51_3); (try clear hfz51_4); (try clear hfz53_0); (try clear hfz53_1); (try clear hfz53_2); (try clear hfz53_3); (try clear hfz53_4); (try clear hfz55_0); (try clear hfz55_1); (try clear hfz55_2); (try clear hfz55_3); (try clear hfz55_4); (try clear hfz61_0); (try clear hfz61_1); (try clear hfz61_2); (try clear hfz61_3); (try clear hfz61_4); (try clear hfz68_0); (try clear hfz68_1); (try clear hfz68_2); (try clear hfz68_3); (try clear hfz68_4); (try clear hfz70_0)
                        (try clear hfz70_1); (try clear hfz70_2); (try clear hfz70_3); (try clear hfz70_4); (try clear hfz74_0); (try clear hfz74_1); (try clear hfz81_0); (try clear hfz81_1); (try clear hfz81_2); (try clear hfz81_3); (try clear hfz81_4); (try clear hfz83_0); (try clear hfz83_1); (try clear hfz83_2); (try clear hfz83_3); (try clear hfz83_4); (try clear hfz87_0); (try clear hfz87_1); (try clear p2); (try clear p6); (try clear p64); (obtain ⟨kq, x279001_83, rfl, HA, HJ83, HO_16, HO_17, BK275, BK278, HB⟩ := hcut)
                        cases kq with
                        | zero => exact absurd HA.out (by simp [spec_RunStops.j9])
                        | succ kj83 =>
                         have H := HA.out; clear HA; (simp only [spec_RunStops.j9] at H); (have HC88 := aM H); clear H
                         go_upto_region 25 with (first | (refine wp_loop_rounds 3 ?_; rw [rounds_succ]) | (rw [rounds_succ]))
                         go_cut [19, 25] (fun v19 v25 wc => ∃ (kq : Nat) (x25_87 : Bool), v25 = .bool x25_87 ∧ v19 = .bool (decide (a3 ≤ x18_2)) ∧ Aside0 (spec_RunStops.j10 kq l1 a2 a3 a4 x14_55 x15_2 x16_2 x17_2 x18_2 (decide (x18_2 ≥ a3)) true x25_87 a0_0 a0_1 a0_2 a0_3 a0_4 x279000_70 x279001_83 = some (r1, r2, r3)) ∧ Aside0 (kq ≤ kj83) ∧ Aside0 (Kd.R (Kd.int .i64) 3 wc w.heap.size (fun _ => True) u16 x16_2) ∧ Aside0 (Kd.R Kd.bool 4 wc w.heap.size (fun _ => True) u17 x17_2) ∧ Aside0 (wc.heap[gb275]? = some (.cells #[.int .i64 a0_0, .int .i64 a0_1, .int .i64 a0_2, .int .i64 a0_3, .int .i64 a0_4] 26 (0, 0))) ∧ Aside0 (wc.heap[gb278]? = some (.cells #[.bool x279000_70, .bool x279001_83] 65 (0, 0))) ∧ Aside0 (Below w.heap.size w wc))
                         case first =>
                          have H := HC88.out; clear HC88
                          by_cases c89 : (decide (x18_2 ≥ a3)) = true
                          · rw [if_pos c89] at H
                            (have c89b0 : (decide (x18_2 ≥ a3)) = true := c89); (have c89b0' : decide (a3 ≤ x18_2) = true := c89b0); (have c89b0p : a3 ≤ x18_2 := of_decide_eq_true c89b0'); clear c89
                            (first | rw [c89b0] | (simp only [i64_w, i32_w]; rw [c89b0]) | skip)
                            (have H' := aM H); clear H
                            go_wp2
                            go_meet
                            case rel => exact ⟨_, ((a2 == (3 + 0))), (by first | rfl | (simp; done) | (simp [*]; done)), (by first | rfl | (simp; done) | (simp [*]; done)), H', ⟨by have := HJ5.out; have := HK2.out; have := HJ45.out; have := HJ55.out; have := HJ58.out; have := HJ63.out; have := HJ70.out; have := HJ74.out; have := HJ76.out; have := HJ83.out; first | omega | exact Nat.le_refl _⟩, ⟨by (with_reducible repeat (first | apply Kd.R_alloc | apply Kd.R_drewN | apply Kd.R_drew)); exact HO_16.out⟩, ⟨by (with_reducible repeat (first | apply Kd.R_alloc | apply Kd.R_drewN | apply Kd.R_drew)); exact HO_17.out⟩, ⟨by (with_reducible repeat (first | refine kN ?_ _ | refine kD ?_ | refine kA ?_ _)); exact BK275.out⟩, ⟨by (with_reducible repeat (first | refine kN ?_ _ | refine kD ?_ | refine kA ?_ _)); exact BK278.out⟩, ⟨by repeat (first | (with_reducible first | exact HB.out | apply bA | apply bN | apply bD | refine bS ?_ GE275.out | refine bS ?_ GE278.out) | exact HB.out)⟩⟩
                          · rw [if_neg c89] at H
                            (have c89b0 : (decide (x18_2 ≥ a3)) = false := by simpa using c89); (have c89b0' : decide (a3 ≤ x18_2) = false := c89b0); (have c89b0p : ¬ (a3 ≤ x18_2) := of_decide_eq_false c89b0'); clear c89
                            (first | rw [c89b0] | (simp only [i64_w, i32_w]; rw [c89b0]) | skip)
                            (have H' := aM H); clear H
                            go_wp2
                            go_meet
                            case rel => exact ⟨_, (false), (by first | rfl | (simp; done) | (simp [*]; done)), (by first | rfl | (simp; done) | (simp [*]; done)), H', ⟨by have := HJ5.out; have := HK2.out; have := HJ45.out; have := HJ55.out; have := HJ58.out; have := HJ63.out; have := HJ70.out; have := HJ74.out; have := HJ76.out; have := HJ83.out; first | omega | exact Nat.le_refl _⟩, ⟨by (with_reducible repeat (first | apply Kd.R_alloc | apply Kd.R_drewN | apply Kd.R_drew)); exact HO_16.out⟩, ⟨by (with_reducible repeat (first | apply Kd.R_alloc | apply Kd.R_drewN | apply Kd.R_drew)); exact HO_17.out⟩, ⟨by (with_reducible repeat (first | refine kN ?_ _ | refine kD ?_ | refine kA ?_ _)); exact BK275.out⟩, ⟨by (with_reducible repeat (first | refine kN ?_ _ | refine kD ?_ | refine kA ?_ _)); exact BK278.out⟩, ⟨by repeat (first | (with_reducible first | exact HB.out | apply bA | apply bN | apply bD | refine bS ?_ GE275.out | refine bS ?_ GE278.out) | exact HB.out)⟩⟩
                         case rest =>
                          clear HC88; (try clear c1); (try clear c2); (try clear p2); (try clear c3); (try clear c4); (try clear c5); (try clear c6); (try clear p6); (try clear c7); (try clear c8); (try clear c9); (try clear c10); (try clear c11); (try clear c12); (try clear c12b0); (try clear c16); (try clear c16b0); (try clear c20); (try clear c20b0); (try clear c24); (try clear c24b0); (try clear c28); (try clear c28b0); (try clear c34); (try clear c36); (try clear c40); (try clear c42); (try clear c45); (try clear c45b0); (try clear c47); (try clear c47b0); (try clear c47b1); (try clear c48); (try clear c48b0); (try clear c48b1); (try clear c49); (try clear c49b0); (try clear c50); (try clear c52); (try clear c54); (try clear c57); (try clear c60); (try clear c63); (try clear c63b0); (try clear p64); (try clear c65); (try clear c66); (try clear c67); (try clear c69); (try clear c72); (try clear c73); (try clear c76); (try clear c76b0); (try clear c78); (try clear c79); (try clear c80); (try clear c82); (try clear c85); (try clear c86); (try clear c89); (try clear c89b0); (try clear hcz13_0); (try clear hcz13_1); (try clear hcz13_2); (try clear hcz13_3); (try clear hcz13_4); (try clear hcz17_0); (try clear hcz17_1); (try clear hcz17_2); (try clear hcz17_3); (try clear hcz17_4); (try clear hcz21_0); (try clear hcz21_1); (try clear hcz21_2); (try clear hcz21_3); (try clear hcz21_4); (try clear hcz25_0); (try clear hcz25_1); (try clear hcz25_2); (try clear hcz25_3); (try clear hcz25_4)
                          (try clear hcz29_0); (try clear hcz29_1); (try clear hcz29_2); (try clear hcz29_3); (try clear hcz29_4); (try clear hcz32_0); (try clear hcz32_1); (try clear hcz32_2); (try clear hcz32_3); (try clear hcz32_4); (try clear hcz35_0); (try clear hcz35_1); (try clear hcz35_2); (try clear hcz35_3); (try clear hcz35_4); (try clear hcz38_0); (try clear hcz38_1); (try clear hcz38_2); (try clear hcz38_3); (try clear hcz38_4); (try clear hcz43_0); (try clear hcz43_1); (try clear hcz44_0); (try clear hcz44_1); (try clear hcz44_2); (try clear hcz44_3); (try clear hcz44_4); (try clear hcz51_0); (try clear hcz51_1); (try clear hcz51_2); (try clear hcz51_3); (try clear hcz51_4); (try clear hcz53_0); (try clear hcz53_1); (try clear hcz53_2); (try clear hcz53_3); (try clear hcz53_4); (try clear hcz55_0); (try clear hcz55_1); (try clear hcz55_2); (try clear hcz55_3); (try clear hcz55_4); (try clear hcz61_0); (try clear hcz61_1); (try clear hcz61_2); (try clear hcz61_3); (try clear hcz61_4); (try clear hcz68_0); (try clear hcz68_1); (try clear hcz68_2); (try clear hcz68_3); (try clear hcz68_4); (try clear hcz70_0); (try clear hcz70_1); (try clear hcz70_2); (try clear hcz70_3); (try clear hcz70_4); (try clear hcz74_0); (try clear hcz74_1); (try clear hcz81_0); (try clear hcz81_1); (try clear hcz81_2); (try clear hcz81_3); (try clear hcz81_4); (try clear hcz83_0); (try clear hcz83_1); (try clear hcz83_2); (try clear hcz83_3); (try clear hcz83_4); (try clear hcz87_0); (try clear hcz87_1)
                          (try clear hfz13_0); (try clear hfz13_1); (try clear hfz13_2); (try clear hfz13_3); (try clear hfz13_4); (try clear hfz17_0); (try clear hfz17_1); (try clear hfz17_2); (try clear hfz17_3); (try clear hfz17_4); (try clear hfz21_0); (try clear hfz21_1); (try clear hfz21_2); (try clear hfz21_3); (try clear hfz21_4); (try clear hfz25_0); (try clear hfz25_1); (try clear hfz25_2); (try clear hfz25_3); (try clear hfz25_4); (try clear hfz29_0); (try clear hfz29_1); (try clear hfz29_2); (try clear hfz29_3); (try clear hfz29_4); (try clear hfz32_0); (try clear hfz32_1); (try clear hfz32_2); (try clear hfz32_3); (try clear hfz32_4); (try clear hfz35_0); (try clear hfz35_1); (try clear hfz35_2); (try clear hfz35_3); (try clear hfz35_4); (try clear hfz38_0); (try clear hfz38_1); (try clear hfz38_2); (try clear hfz38_3); (try clear hfz38_4); (try clear hfz43_0); (try clear hfz43_1); (try clear hfz44_0); (try clear hfz44_1); (try clear hfz44_2); (try clear hfz44_3); (try clear hfz44_4); (try clear hfz51_0); (try clear hfz51_1); (try clear hfz51_2); (try clear hfz51_3); (try clear hfz51_4); (try clear hfz53_0); (try clear hfz53_1); (try clear hfz53_2); (try clear hfz53_3); (try clear hfz53_4); (try clear hfz55_0); (try clear hfz55_1); (try clear hfz55_2); (try clear hfz55_3); (try clear hfz55_4); (try clear hfz61_0); (try clear hfz61_1); (try clear hfz61_2); (try clear hfz61_3); (try clear hfz61_4); (try clear hfz68_0); (try clear hfz68_1); (try clear hfz68_2); (try clear hfz68_3)
                          (try clear hfz68_4); (try clear hfz70_0); (try clear hfz70_1); (try clear hfz70_2); (try clear hfz70_3); (try clear hfz70_4); (try clear hfz74_0); (try clear hfz74_1); (try clear hfz81_0); (try clear hfz81_1); (try clear hfz81_2); (try clear hfz81_3); (try clear hfz81_4); (try clear hfz83_0); (try clear hfz83_1); (try clear hfz83_2); (try clear hfz83_3); (try clear hfz83_4); (try clear hfz87_0); (try clear hfz87_1); (try clear p2); (try clear p6); (try clear p64); (obtain ⟨kq, x25_87, rfl, rfl, HA, HJ87, HO_16, HO_17, BK275, BK278, HB⟩ := hcut)
                          cases kq with
                          | zero => exact absurd HA.out (by simp [spec_RunStops.j10])
                          | succ kj87 =>
                           have H := HA.out; clear HA; (simp only [spec_RunStops.j10] at H); (have HC90 := aM H); clear H
                           go_upto_region 26 with (fail)
                           refine wp_last_k ?_
                           intro KL hKL
                           go_cut [19, 23] (fun v19 v23 wc => ∃ (kq : Nat) (x23_89 : Bool), v23 = .bool x23_89 ∧ v19 = .bool (decide (a3 ≤ x18_2)) ∧ Aside0 (spec_RunStops.j11 kq l1 a2 a3 a4 x14_55 x15_2 x16_2 x17_2 x18_2 (decide (x18_2 ≥ a3)) x23_89 a0_0 a0_1 a0_2 a0_3 a0_4 x279000_70 x279001_83 = some (r1, r2, r3)) ∧ Aside0 (kq ≤ kj87) ∧ Aside0 (Kd.R (Kd.int .i64) 3 wc w.heap.size (fun _ => True) u16 x16_2) ∧ Aside0 (Kd.R Kd.bool 4 wc w.heap.size (fun _ => True) u17 x17_2) ∧ Aside0 (wc.heap[gb275]? = some (.cells #[.int .i64 a0_0, .int .i64 a0_1, .int .i64 a0_2, .int .i64 a0_3, .int .i64 a0_4] 26 (0, 0))) ∧ Aside0 (wc.heap[gb278]? = some (.cells #[.bool x279000_70, .bool x279001_83] 65 (0, 0))) ∧ Aside0 (Below w.heap.size w wc))
                           case first =>
                            have H := HC90.out; clear HC90
                            by_cases c91 : true = true
                            · clear c91
                              (have H1 : (if x279000_70 = true then (spec_RunStops.j11 kj87 l1 a2 a3 a4 x14_55 x15_2 x16_2 x17_2 x18_2 (decide (x18_2 ≥ a3)) true a0_0 a0_1 a0_2 a0_3 a0_4 x279000_70 x279001_83) else (spec_RunStops.j11 kj87 l1 a2 a3 a4 x14_55 x15_2 x16_2 x17_2 x18_2 (decide (x18_2 ≥ a3)) x25_87 a0_0 a0_1 a0_2 a0_3 a0_4 x279000_70 x279001_83)) = some (r1, r2, r3) := by first | (rw [if_pos rfl] at H; exact H) | (rw [if_pos trivial] at H; exact H)); clear H; have H := H1; clear H1
                              by_cases c92 : x279000_70 = true
                              · subst c92
                                (have H1 : (spec_RunStops.j11 kj87 l1 a2 a3 a4 x14_55 x15_2 x16_2 x17_2 x18_2 (decide (x18_2 ≥ a3)) true a0_0 a0_1 a0_2 a0_3 a0_4 true x279001_83) = some (r1, r2, r3) := by rw [if_pos rfl] at H; exact H); clear H; have H := H1; clear H1; (have H' := aM H); clear H; have hnb93 := NB278_275.out; have hnc93 := NB275_278.out; (have hcz94_0 : wc.cell? ⟨gb278, 0, none⟩ = some (.bool true) := (cZ BK278.out 0).trans rfl); (have hcz94_1 : wc.cell? ⟨gb278, 1, none⟩ = some (.bool x279001_83) := (cZ BK278.out 1).trans rfl); (have hfz94_0 := fZ BK278.out 0); (have hfz94_1 := fZ BK278.out 1)
                                go_wp2
                                go_meet
                                case rel => exact ⟨_, (true), (by first | rfl | (simp; done) | (simp [*]; done)), (by first | rfl | (simp; done) | (simp [*]; done)), H', ⟨by have := HJ5.out; have := HK2.out; have := HJ45.out; have := HJ55.out; have := HJ58.out; have := HJ63.out; have := HJ70.out; have := HJ74.out; have := HJ76.out; have := HJ83.out; have := HJ87.out; first | omega | exact Nat.le_refl _⟩, ⟨by (with_reducible repeat (first | apply Kd.R_alloc | apply Kd.R_drewN | apply Kd.R_drew)); exact HO_16.out⟩, ⟨by (with_reducible repeat (first | apply Kd.R_alloc | apply Kd.R_drewN | apply Kd.R_drew)); exact HO_17.out⟩, ⟨by (with_reducible repeat (first | refine kN ?_ _ | refine kD ?_ | refine kA ?_ _)); exact BK275.out⟩, ⟨by (with_reducible repeat (first | refine kN ?_ _ | refine kD ?_ | refine kA ?_ _)); exact BK278.out⟩, ⟨by repeat (first | (with_reducible first | exact HB.out | apply bA | apply bN | apply bD | refine bS ?_ GE275.out | refine bS ?_ GE278.out) | exact HB.out)⟩⟩
                              · replace c92 := Bool.eq_false_iff.mpr c92
                                subst c92; (have H1 : (spec_RunStops.j11 kj87 l1 a2 a3 a4 x14_55 x15_2 x16_2 x17_2 x18_2 (decide (x18_2 ≥ a3)) x25_87 a0_0 a0_1 a0_2 a0_3 a0_4 false x279001_83) = some (r1, r2, r3) := by rw [if_neg (show ¬ (false = true) by decide)] at H; exact H); clear H; have H := H1; clear H1; (have H' := aM H); clear H; have hnb95 := NB278_275.out; have hnc95 := NB275_278.out; (have hcz96_0 : wc.cell? ⟨gb278, 0, none⟩ = some (.bool false) := (cZ BK278.out 0).trans rfl); (have hcz96_1 : wc.cell? ⟨gb278, 1, none⟩ = some (.bool x279001_83) := (cZ BK278.out 1).trans rfl); (have hfz96_0 := fZ BK278.out 0); (have hfz96_1 := fZ BK278.out 1)
                                go_wp2
                                go_meet
                                case rel => exact ⟨_, (x25_87), (by first | rfl | (simp; done) | (simp [*]; done)), (by first | rfl | (simp; done) | (simp [*]; done)), H', ⟨by have := HJ5.out; have := HK2.out; have := HJ45.out; have := HJ55.out; have := HJ58.out; have := HJ63.out; have := HJ70.out; have := HJ74.out; have := HJ76.out; have := HJ83.out; have := HJ87.out; first | omega | exact Nat.le_refl _⟩, ⟨by (with_reducible repeat (first | apply Kd.R_alloc | apply Kd.R_drewN | apply Kd.R_drew)); exact HO_16.out⟩, ⟨by (with_reducible repeat (first | apply Kd.R_alloc | apply Kd.R_drewN | apply Kd.R_drew)); exact HO_17.out⟩, ⟨by (with_reducible repeat (first | refine kN ?_ _ | refine kD ?_ | refine kA ?_ _)); exact BK275.out⟩, ⟨by (with_reducible repeat (first | refine kN ?_ _ | refine kD ?_ | refine kA ?_ _)); exact BK278.out⟩, ⟨by repeat (first | (with_reducible first | exact HB.out | apply bA | apply bN | apply bD | refine bS ?_ GE275.out | refine bS ?_ GE278.out) | exact HB.out)⟩⟩
                            · exact absurd rfl c91
                           case rest =>
                            clear HC90; (try clear c1); (try clear c2); (try clear p2); (try clear c3); (try clear c4); (try clear c5); (try clear c6); (try clear p6); (try clear c7); (try clear c8); (try clear c9); (try clear c10); (try clear c11); (try clear c12); (try clear c12b0); (try clear c16); (try clear c16b0); (try clear c20); (try clear c20b0); (try clear c24); (try clear c24b0); (try clear c28); (try clear c28b0); (try clear c34); (try clear c36); (try clear c40); (try clear c42); (try clear c45); (try clear c45b0); (try clear c47); (try clear c47b0); (try clear c47b1); (try clear c48); (try clear c48b0); (try clear c48b1); (try clear c49); (try clear c49b0); (try clear c50); (try clear c52); (try clear c54); (try clear c57); (try clear c60); (try clear c63); (try clear c63b0); (try clear p64); (try clear c65); (try clear c66); (try clear c67); (try clear c69); (try clear c72); (try clear c73); (try clear c76); (try clear c76b0); (try clear c78); (try clear c79); (try clear c80); (try clear c82); (try clear c85); (try clear c86); (try clear c89); (try clear c89b0); (try clear c91); (try clear c92); (try clear c93); (try clear c95); (try clear hcz13_0); (try clear hcz13_1); (try clear hcz13_2); (try clear hcz13_3); (try clear hcz13_4); (try clear hcz17_0); (try clear hcz17_1); (try clear hcz17_2); (try clear hcz17_3); (try clear hcz17_4); (try clear hcz21_0); (try clear hcz21_1); (try clear hcz21_2); (try clear hcz21_3); (try clear hcz21_4); (try clear hcz25_0); (try clear hcz25_1)
                            (try clear hcz25_2); (try clear hcz25_3); (try clear hcz25_4); (try clear hcz29_0); (try clear hcz29_1); (try clear hcz29_2); (try clear hcz29_3); (try clear hcz29_4); (try clear hcz32_0); (try clear hcz32_1); (try clear hcz32_2); (try clear hcz32_3); (try clear hcz32_4); (try clear hcz35_0); (try clear hcz35_1); (try clear hcz35_2); (try clear hcz35_3); (try clear hcz35_4); (try clear hcz38_0); (try clear hcz38_1); (try clear hcz38_2); (try clear hcz38_3); (try clear hcz38_4); (try clear hcz43_0); (try clear hcz43_1); (try clear hcz44_0); (try clear hcz44_1); (try clear hcz44_2); (try clear hcz44_3); (try clear hcz44_4); (try clear hcz51_0); (try clear hcz51_1); (try clear hcz51_2); (try clear hcz51_3); (try clear hcz51_4); (try clear hcz53_0); (try clear hcz53_1); (try clear hcz53_2); (try clear hcz53_3); (try clear hcz53_4); (try clear hcz55_0); (try clear hcz55_1); (try clear hcz55_2); (try clear hcz55_3); (try clear hcz55_4); (try clear hcz61_0); (try clear hcz61_1); (try clear hcz61_2); (try clear hcz61_3); (try clear hcz61_4); (try clear hcz68_0); (try clear hcz68_1); (try clear hcz68_2); (try clear hcz68_3); (try clear hcz68_4); (try clear hcz70_0); (try clear hcz70_1); (try clear hcz70_2); (try clear hcz70_3); (try clear hcz70_4); (try clear hcz74_0); (try clear hcz74_1); (try clear hcz81_0); (try clear hcz81_1); (try clear hcz81_2); (try clear hcz81_3); (try clear hcz81_4); (try clear hcz83_0); (try clear hcz83_1); (try clear hcz83_2); (try clear hcz83_3)
                            (try clear hcz83_4); (try clear hcz87_0); (try clear hcz87_1); (try clear hcz94_0); (try clear hcz94_1); (try clear hcz96_0); (try clear hcz96_1); (try clear hfz13_0); (try clear hfz13_1); (try clear hfz13_2); (try clear hfz13_3); (try clear hfz13_4); (try clear hfz17_0); (try clear hfz17_1); (try clear hfz17_2); (try clear hfz17_3); (try clear hfz17_4); (try clear hfz21_0); (try clear hfz21_1); (try clear hfz21_2); (try clear hfz21_3); (try clear hfz21_4); (try clear hfz25_0); (try clear hfz25_1); (try clear hfz25_2); (try clear hfz25_3); (try clear hfz25_4); (try clear hfz29_0); (try clear hfz29_1); (try clear hfz29_2); (try clear hfz29_3); (try clear hfz29_4); (try clear hfz32_0); (try clear hfz32_1); (try clear hfz32_2); (try clear hfz32_3); (try clear hfz32_4); (try clear hfz35_0); (try clear hfz35_1); (try clear hfz35_2); (try clear hfz35_3); (try clear hfz35_4); (try clear hfz38_0); (try clear hfz38_1); (try clear hfz38_2); (try clear hfz38_3); (try clear hfz38_4); (try clear hfz43_0); (try clear hfz43_1); (try clear hfz44_0); (try clear hfz44_1); (try clear hfz44_2); (try clear hfz44_3); (try clear hfz44_4); (try clear hfz51_0); (try clear hfz51_1); (try clear hfz51_2); (try clear hfz51_3); (try clear hfz51_4); (try clear hfz53_0); (try clear hfz53_1); (try clear hfz53_2); (try clear hfz53_3); (try clear hfz53_4); (try clear hfz55_0); (try clear hfz55_1); (try clear hfz55_2); (try clear hfz55_3); (try clear hfz55_4); (try clear hfz61_0); (try clear hfz61_1)
                            (try clear hfz61_2); (try clear hfz61_3); (try clear hfz61_4); (try clear hfz68_0); (try clear hfz68_1); (try clear hfz68_2); (try clear hfz68_3); (try clear hfz68_4); (try clear hfz70_0); (try clear hfz70_1); (try clear hfz70_2); (try clear hfz70_3); (try clear hfz70_4); (try clear hfz74_0); (try clear hfz74_1); (try clear hfz81_0); (try clear hfz81_1); (try clear hfz81_2); (try clear hfz81_3); (try clear hfz81_4); (try clear hfz83_0); (try clear hfz83_1); (try clear hfz83_2); (try clear hfz83_3); (try clear hfz83_4); (try clear hfz87_0); (try clear hfz87_1); (try clear hfz94_0); (try clear hfz94_1); (try clear hfz96_0); (try clear hfz96_1); (try clear p2); (try clear p6); (try clear p64); (obtain ⟨kq, x23_89, rfl, rfl, HA, HJ89, HO_16, HO_17, BK275, BK278, HB⟩ := hcut)
                            cases kq with
                            | zero => exact absurd HA.out (by simp [spec_RunStops.j11])
                            | succ kj89 =>
                             have H := HA.out; clear HA; (simp only [spec_RunStops.j11] at H); (have HC97 := aM H); clear H
                             go_upto_region 25 with (first | (refine wp_loop_rounds 3 ?_; rw [rounds_succ]) | (rw [rounds_succ]))
                             go_cut [19, 25] (fun v19 v25 wc => ∃ (kq : Nat) (x25_96 : Bool), v25 = .bool x25_96 ∧ v19 = .bool (decide (a3 ≤ x18_2)) ∧ Aside0 (spec_RunStops.j12 kq l1 a2 a3 a4 x14_55 x15_2 x16_2 x17_2 x18_2 x23_89 x25_96 a0_0 a0_1 a0_2 a0_3 a0_4 x279000_70 x279001_83 = some (r1, r2, r3)) ∧ Aside0 (kq ≤ kj89) ∧ Aside0 (Kd.R (Kd.int .i64) 3 wc w.heap.size (fun _ => True) u16 x16_2) ∧ Aside0 (Kd.R Kd.bool 4 wc w.heap.size (fun _ => True) u17 x17_2) ∧ Aside0 (wc.heap[gb275]? = some (.cells #[.int .i64 a0_0, .int .i64 a0_1, .int .i64 a0_2, .int .i64 a0_3, .int .i64 a0_4] 26 (0, 0))) ∧ Aside0 (wc.heap[gb278]? = some (.cells #[.bool x279000_70, .bool x279001_83] 65 (0, 0))) ∧ Aside0 (Below w.heap.size w wc))
                             case first =>
                              have H := HC97.out; clear HC97
                              by_cases c98 : (decide (x18_2 ≥ a3)) = true
                              · rw [if_pos c98] at H
                                (have c98b0 : (decide (x18_2 ≥ a3)) = true := c98); (have c98b0' : decide (a3 ≤ x18_2) = true := c98b0); (have c98b0p : a3 ≤ x18_2 := of_decide_eq_true c98b0'); clear c98
                                (first | rw [c98b0] | (simp only [i64_w, i32_w]; rw [c98b0]) | skip)
                                (have H' := aM H); clear H
                                go_wp2
                                go_meet
                                case rel => exact ⟨_, ((a2 == (3 + 1))), (by first | rfl | (simp; done) | (simp [*]; done)), (by first | rfl | (simp; done) | (simp [*]; done)), H', ⟨by have := HJ5.out; have := HK2.out; have := HJ45.out; have := HJ55.out; have := HJ58.out; have := HJ63.out; have := HJ70.out; have := HJ74.out; have := HJ76.out; have := HJ83.out; have := HJ87.out; have := HJ89.out; first | omega | exact Nat.le_refl _⟩, ⟨by (with_reducible repeat (first | apply Kd.R_alloc | apply Kd.R_drewN | apply Kd.R_drew)); exact HO_16.out⟩, ⟨by (with_reducible repeat (first | apply Kd.R_alloc | apply Kd.R_drewN | apply Kd.R_drew)); exact HO_17.out⟩, ⟨by (with_reducible repeat (first | refine kN ?_ _ | refine kD ?_ | refine kA ?_ _)); exact BK275.out⟩, ⟨by (with_reducible repeat (first | refine kN ?_ _ | refine kD ?_ | refine kA ?_ _)); exact BK278.out⟩, ⟨by repeat (first | (with_reducible first | exact HB.out | apply bA | apply bN | apply bD | refine bS ?_ GE275.out | refine bS ?_ GE278.out) | exact HB.out)⟩⟩
                              · rw [if_neg c98] at H
                                (have c98b0 : (decide (x18_2 ≥ a3)) = false := by simpa using c98); (have c98b0' : decide (a3 ≤ x18_2) = false := c98b0); (have c98b0p : ¬ (a3 ≤ x18_2) := of_decide_eq_false c98b0'); clear c98
                                (first | rw [c98b0] | (simp only [i64_w, i32_w]; rw [c98b0]) | skip)
                                (have H' := aM H); clear H
                                go_wp2
                                go_meet
                                case rel => exact ⟨_, (false), (by first | rfl | (simp; done) | (simp [*]; done)), (by first | rfl | (simp; done) | (simp [*]; done)), H', ⟨by have := HJ5.out; have := HK2.out; have := HJ45.out; have := HJ55.out; have := HJ58.out; have := HJ63.out; have := HJ70.out; have := HJ74.out; have := HJ76.out; have := HJ83.out; have := HJ87.out; have := HJ89.out; first | omega | exact Nat.le_refl _⟩, ⟨by (with_reducible repeat (first | apply Kd.R_alloc | apply Kd.R_drewN | apply Kd.R_drew)); exact HO_16.out⟩, ⟨by (with_reducible repeat (first | apply Kd.R_alloc | apply Kd.R_drewN | apply Kd.R_drew)); exact HO_17.out⟩, ⟨by (with_reducible repeat (first | refine kN ?_ _ | refine kD ?_ | refine kA ?_ _)); exact BK275.out⟩, ⟨by (with_reducible repeat (first | refine kN ?_ _ | refine kD ?_ | refine kA ?_ _)); exact BK278.out⟩, ⟨by repeat (first | (with_reducible first | exact HB.out | apply bA | apply bN | apply bD | refine bS ?_ GE275.out | refine bS ?_ GE278.out) | exact HB.out)⟩⟩
                             case rest =>
                              clear HC97; (try clear c1); (try clear c2); (try clear p2); (try clear c3); (try clear c4); (try clear c5); (try clear c6); (try clear p6); (try clear c7); (try clear c8); (try clear c9); (try clear c10); (try clear c11); (try clear c12); (try clear c12b0); (try clear c16); (try clear c16b0); (try clear c20); (try clear c20b0); (try clear c24); (try clear c24b0); (try clear c28); (try clear c28b0); (try clear c34); (try clear c36); (try clear c40); (try clear c42); (try clear c45); (try clear c45b0); (try clear c47); (try clear c47b0); (try clear c47b1); (try clear c48); (try clear c48b0); (try clear c48b1); (try clear c49); (try clear c49b0); (try clear c50); (try clear c52); (try clear c54); (try clear c57); (try clear c60); (try clear c63); (try clear c63b0); (try clear p64); (try clear c65); (try clear c66); (try clear c67); (try clear c69); (try clear c72); (try clear c73); (try clear c76); (try clear c76b0); (try clear c78); (try clear c79); (try clear c80); (try clear c82); (try clear c85); (try clear c86); (try clear c89); (try clear c89b0); (try clear c91); (try clear c92); (try clear c93); (try clear c95); (try clear c98); (try clear c98b0); (try clear hcz13_0); (try clear hcz13_1); (try clear hcz13_2); (try clear hcz13_3); (try clear hcz13_4); (try clear hcz17_0); (try clear hcz17_1); (try clear hcz17_2); (try clear hcz17_3); (try clear hcz17_4); (try clear hcz21_0); (try clear hcz21_1); (try clear hcz21_2); (try clear hcz21_3); (try clear hcz21_4)
                              (try clear hcz25_0); (try clear hcz25_1); (try clear hcz25_2); (try clear hcz25_3); (try clear hcz25_4); (try clear hcz29_0); (try clear hcz29_1); (try clear hcz29_2); (try clear hcz29_3); (try clear hcz29_4); (try clear hcz32_0); (try clear hcz32_1); (try clear hcz32_2); (try clear hcz32_3); (try clear hcz32_4); (try clear hcz35_0); (try clear hcz35_1); (try clear hcz35_2); (try clear hcz35_3); (try clear hcz35_4); (try clear hcz38_0); (try clear hcz38_1); (try clear hcz38_2); (try clear hcz38_3); (try clear hcz38_4); (try clear hcz43_0); (try clear hcz43_1); (try clear hcz44_0); (try clear hcz44_1); (try clear hcz44_2); (try clear hcz44_3); (try clear hcz44_4); (try clear hcz51_0); (try clear hcz51_1); (try clear hcz51_2); (try clear hcz51_3); (try clear hcz51_4); (try clear hcz53_0); (try clear hcz53_1); (try clear hcz53_2); (try clear hcz53_3); (try clear hcz53_4); (try clear hcz55_0); (try clear hcz55_1); (try clear hcz55_2); (try clear hcz55_3); (try clear hcz55_4); (try clear hcz61_0); (try clear hcz61_1); (try clear hcz61_2); (try clear hcz61_3); (try clear hcz61_4); (try clear hcz68_0); (try clear hcz68_1); (try clear hcz68_2); (try clear hcz68_3); (try clear hcz68_4); (try clear hcz70_0); (try clear hcz70_1); (try clear hcz70_2); (try clear hcz70_3); (try clear hcz70_4); (try clear hcz74_0); (try clear hcz74_1); (try clear hcz81_0); (try clear hcz81_1); (try clear hcz81_2); (try clear hcz81_3); (try clear hcz81_4); (try clear hcz83_0); (try clear hcz83_1)
                              (try clear hcz83_2); (try clear hcz83_3); (try clear hcz83_4); (try clear hcz87_0); (try clear hcz87_1); (try clear hcz94_0); (try clear hcz94_1); (try clear hcz96_0); (try clear hcz96_1); (try clear hfz13_0); (try clear hfz13_1); (try clear hfz13_2); (try clear hfz13_3); (try clear hfz13_4); (try clear hfz17_0); (try clear hfz17_1); (try clear hfz17_2); (try clear hfz17_3); (try clear hfz17_4); (try clear hfz21_0); (try clear hfz21_1); (try clear hfz21_2); (try clear hfz21_3); (try clear hfz21_4); (try clear hfz25_0); (try clear hfz25_1); (try clear hfz25_2); (try clear hfz25_3); (try clear hfz25_4); (try clear hfz29_0); (try clear hfz29_1); (try clear hfz29_2); (try clear hfz29_3); (try clear hfz29_4); (try clear hfz32_0); (try clear hfz32_1); (try clear hfz32_2); (try clear hfz32_3); (try clear hfz32_4); (try clear hfz35_0); (try clear hfz35_1); (try clear hfz35_2); (try clear hfz35_3); (try clear hfz35_4); (try clear hfz38_0); (try clear hfz38_1); (try clear hfz38_2); (try clear hfz38_3); (try clear hfz38_4); (try clear hfz43_0); (try clear hfz43_1); (try clear hfz44_0); (try clear hfz44_1); (try clear hfz44_2); (try clear hfz44_3); (try clear hfz44_4); (try clear hfz51_0); (try clear hfz51_1); (try clear hfz51_2); (try clear hfz51_3); (try clear hfz51_4); (try clear hfz53_0); (try clear hfz53_1); (try clear hfz53_2); (try clear hfz53_3); (try clear hfz53_4); (try clear hfz55_0); (try clear hfz55_1); (try clear hfz55_2); (try clear hfz55_3); (try clear hfz55_4)
                              (try clear hfz61_0); (try clear hfz61_1); (try clear hfz61_2); (try clear hfz61_3); (try clear hfz61_4); (try clear hfz68_0); (try clear hfz68_1); (try clear hfz68_2); (try clear hfz68_3); (try clear hfz68_4); (try clear hfz70_0); (try clear hfz70_1); (try clear hfz70_2); (try clear hfz70_3); (try clear hfz70_4); (try clear hfz74_0); (try clear hfz74_1); (try clear hfz81_0); (try clear hfz81_1); (try clear hfz81_2); (try clear hfz81_3); (try clear hfz81_4); (try clear hfz83_0); (try clear hfz83_1); (try clear hfz83_2); (try clear hfz83_3); (try clear hfz83_4); (try clear hfz87_0); (try clear hfz87_1); (try clear hfz94_0); (try clear hfz94_1); (try clear hfz96_0); (try clear hfz96_1); (try clear p2); (try clear p6); (try clear p64); (obtain ⟨kq, x25_96, rfl, rfl, HA, HJ96, HO_16, HO_17, BK275, BK278, HB⟩ := hcut)
                              cases kq with
                              | zero => exact absurd HA.out (by simp [spec_RunStops.j12])
                              | succ kj96 =>
                               have H := HA.out; clear HA; (simp only [spec_RunStops.j12] at H); (have HC99 := aM H); clear H
                               go_upto_region 26 with (fail)
                               refine wp_last_k ?_
                               intro KL hKL
                               go_cut [23] (fun v23 wc => ∃ (kq : Nat) (x23_98 : Bool), v23 = .bool x23_98 ∧ Aside0 (spec_RunStops.j13 kq l1 a2 a3 a4 x14_55 x15_2 x16_2 x17_2 x18_2 x23_98 a0_0 a0_1 a0_2 a0_3 a0_4 x279000_70 x279001_83 = some (r1, r2, r3)) ∧ Aside0 (kq ≤ kj96) ∧ Aside0 (Kd.R (Kd.int .i64) 3 wc w.heap.size (fun _ => True) u16 x16_2) ∧ Aside0 (Kd.R Kd.bool 4 wc w.heap.size (fun _ => True) u17 x17_2) ∧ Aside0 (wc.heap[gb275]? = some (.cells #[.int .i64 a0_0, .int .i64 a0_1, .int .i64 a0_2, .int .i64 a0_3, .int .i64 a0_4] 26 (0, 0))) ∧ Aside0 (wc.heap[gb278]? = some (.cells #[.bool x279000_70, .bool x279001_83] 65 (0, 0))) ∧ Aside0 (Below w.heap.size w wc))
                               case first =>
                                have H := HC99.out; clear HC99
                                by_cases c100 : x23_89 = true
                                · subst c100
                                  (have H1 : (if x279001_83 = true then (spec_RunStops.j13 kj96 l1 a2 a3 a4 x14_55 x15_2 x16_2 x17_2 x18_2 true a0_0 a0_1 a0_2 a0_3 a0_4 x279000_70 x279001_83) else (spec_RunStops.j13 kj96 l1 a2 a3 a4 x14_55 x15_2 x16_2 x17_2 x18_2 x25_96 a0_0 a0_1 a0_2 a0_3 a0_4 x279000_70 x279001_83)) = some (r1, r2, r3) := by rw [if_pos rfl] at H; exact H); clear H; have H := H1; clear H1
                                  by_cases c101 : x279001_83 = true
                                  · subst c101
                                    (have H1 : (spec_RunStops.j13 kj96 l1 a2 a3 a4 x14_55 x15_2 x16_2 x17_2 x18_2 true a0_0 a0_1 a0_2 a0_3 a0_4 x279000_70 true) = some (r1, r2, r3) := by rw [if_pos rfl] at H; exact H); clear H; have H := H1; clear H1; (have H' := aM H); clear H; have hnb102 := NB278_275.out; have hnc102 := NB275_278.out; (have hcz103_0 : wc.cell? ⟨gb278, 0, none⟩ = some (.bool x279000_70) := (cZ BK278.out 0).trans rfl); (have hcz103_1 : wc.cell? ⟨gb278, 1, none⟩ = some (.bool true) := (cZ BK278.out 1).trans rfl); (have hfz103_0 := fZ BK278.out 0); (have hfz103_1 := fZ BK278.out 1)
                                    go_wp2
                                    go_meet
                                    case rel => exact ⟨_, (true), (by first | rfl | (simp; done) | (simp [*]; done)), H', ⟨by have := HJ5.out; have := HK2.out; have := HJ45.out; have := HJ55.out; have := HJ58.out; have := HJ63.out; have := HJ70.out; have := HJ74.out; have := HJ76.out; have := HJ83.out; have := HJ87.out; have := HJ89.out; have := HJ96.out; first | omega | exact Nat.le_refl _⟩, ⟨by (with_reducible repeat (first | apply Kd.R_alloc | apply Kd.R_drewN | apply Kd.R_drew)); exact HO_16.out⟩, ⟨by (with_reducible repeat (first | apply Kd.R_alloc | apply Kd.R_drewN | apply Kd.R_drew)); exact HO_17.out⟩, ⟨by (with_reducible repeat (first | refine kN ?_ _ | refine kD ?_ | refine kA ?_ _)); exact BK275.out⟩, ⟨by (with_reducible repeat (first | refine kN ?_ _ | refine kD ?_ | refine kA ?_ _)); exact BK278.out⟩, ⟨by repeat (first | (with_reducible first | exact HB.out | apply bA | apply bN | apply bD | refine bS ?_ GE275.out | refine bS ?_ GE278.out) | exact HB.out)⟩⟩
                                  · replace c101 := Bool.eq_false_iff.mpr c101
                                    subst c101; (have H1 : (spec_RunStops.j13 kj96 l1 a2 a3 a4 x14_55 x15_2 x16_2 x17_2 x18_2 x25_96 a0_0 a0_1 a0_2 a0_3 a0_4 x279000_70 false) = some (r1, r2, r3) := by rw [if_neg (show ¬ (false = true) by decide)] at H; exact H); clear H; have H := H1; clear H1; (have H' := aM H); clear H; have hnb104 := NB278_275.out; have hnc104 := NB275_278.out; (have hcz105_0 : wc.cell? ⟨gb278, 0, none⟩ = some (.bool x279000_70) := (cZ BK278.out 0).trans rfl); (have hcz105_1 : wc.cell? ⟨gb278, 1, none⟩ = some (.bool false) := (cZ BK278.out 1).trans rfl); (have hfz105_0 := fZ BK278.out 0); (have hfz105_1 := fZ BK278.out 1)
                                    go_wp2
                                    go_meet
                                    case rel => exact ⟨_, (x25_96), (by first | rfl | (simp; done) | (simp [*]; done)), H', ⟨by have := HJ5.out; have := HK2.out; have := HJ45.out; have := HJ55.out; have := HJ58.out; have := HJ63.out; have := HJ70.out; have := HJ74.out; have := HJ76.out; have := HJ83.out; have := HJ87.out; have := HJ89.out; have := HJ96.out; first | omega | exact Nat.le_refl _⟩, ⟨by (with_reducible repeat (first | apply Kd.R_alloc | apply Kd.R_drewN | apply Kd.R_drew)); exact HO_16.out⟩, ⟨by (with_reducible repeat (first | apply Kd.R_alloc | apply Kd.R_drewN | apply Kd.R_drew)); exact HO_17.out⟩, ⟨by (with_reducible repeat (first | refine kN ?_ _ | refine kD ?_ | refine kA ?_ _)); exact BK275.out⟩, ⟨by (with_reducible repeat (first | refine kN ?_ _ | refine kD ?_ | refine kA ?_ _)); exact BK278.out⟩, ⟨by repeat (first | (with_reducible first | exact HB.out | apply bA | apply bN | apply bD | refine bS ?_ GE275.out | refine bS ?_ GE278.out) | exact HB.out)⟩⟩
                                · replace c100 := Bool.eq_false_iff.mpr c100
                                  subst c100; (have H1 : (spec_RunStops.j13 kj96 l1 a2 a3 a4 x14_55 x15_2 x16_2 x17_2 x18_2 false a0_0 a0_1 a0_2 a0_3 a0_4 x279000_70 x279001_83) = some (r1, r2, r3) := by rw [if_neg (show ¬ (false = true) by decide)] at H; exact H); clear H; have H := H1; clear H1; (have H' := aM H); clear H
                                  go_wp2
                                  go_meet
                                  case rel => exact ⟨_, (false), (by first | rfl | (simp; done) | (simp [*]; done)), H', ⟨by have := HJ5.out; have := HK2.out; have := HJ45.out; have := HJ55.out; have := HJ58.out; have := HJ63.out; have := HJ70.out; have := HJ74.out; have := HJ76.out; have := HJ83.out; have := HJ87.out; have := HJ89.out; have := HJ96.out; first | omega | exact Nat.le_refl _⟩, ⟨by (with_reducible repeat (first | apply Kd.R_alloc | apply Kd.R_drewN | apply Kd.R_drew)); exact HO_16.out⟩, ⟨by (with_reducible repeat (first | apply Kd.R_alloc | apply Kd.R_drewN | apply Kd.R_drew)); exact HO_17.out⟩, ⟨by (with_reducible repeat (first | refine kN ?_ _ | refine kD ?_ | refine kA ?_ _)); exact BK275.out⟩, ⟨by (with_reducible repeat (first | refine kN ?_ _ | refine kD ?_ | refine kA ?_ _)); exact BK278.out⟩, ⟨by repeat (first | (with_reducible first | exact HB.out | apply bA | apply bN | apply bD | refine bS ?_ GE275.out | refine bS ?_ GE278.out) | exact HB.out)⟩⟩
                               case rest =>
                                clear HC99; (try clear c1); (try clear c2); (try clear p2); (try clear c3); (try clear c4); (try clear c5); (try clear c6); (try clear p6); (try clear c7); (try clear c8); (try clear c9); (try clear c10); (try clear c11); (try clear c12); (try clear c12b0); (try clear c16); (try clear c16b0); (try clear c20); (try clear c20b0); (try clear c24); (try clear c24b0); (try clear c28); (try clear c28b0); (try clear c34); (try clear c36); (try clear c40); (try clear c42); (try clear c45); (try clear c45b0); (try clear c47); (try clear c47b0); (try clear c47b1); (try clear c48); (try clear c48b0); (try clear c48b1); (try clear c49); (try clear c49b0); (try clear c50); (try clear c52); (try clear c54); (try clear c57); (try clear c60); (try clear c63); (try clear c63b0); (try clear p64); (try clear c65); (try clear c66); (try clear c67); (try clear c69); (try clear c72); (try clear c73); (try clear c76); (try clear c76b0); (try clear c78); (try clear c79); (try clear c80); (try clear c82); (try clear c85); (try clear c86); (try clear c89); (try clear c89b0); (try clear c91); (try clear c92); (try clear c93); (try clear c95); (try clear c98); (try clear c98b0); (try clear c100); (try clear c101); (try clear c102); (try clear c104); (try clear hcz103_0); (try clear hcz103_1); (try clear hcz105_0); (try clear hcz105_1); (try clear hcz13_0); (try clear hcz13_1); (try clear hcz13_2); (try clear hcz13_3); (try clear hcz13_4); (try clear hcz17_0); (try clear hcz17_1); (try clear hcz17_2)
                                (try clear hcz17_3); (try clear hcz17_4); (try clear hcz21_0); (try clear hcz21_1); (try clear hcz21_2); (try clear hcz21_3); (try clear hcz21_4); (try clear hcz25_0); (try clear hcz25_1); (try clear hcz25_2); (try clear hcz25_3); (try clear hcz25_4); (try clear hcz29_0); (try clear hcz29_1); (try clear hcz29_2); (try clear hcz29_3); (try clear hcz29_4); (try clear hcz32_0); (try clear hcz32_1); (try clear hcz32_2); (try clear hcz32_3); (try clear hcz32_4); (try clear hcz35_0); (try clear hcz35_1); (try clear hcz35_2); (try clear hcz35_3); (try clear hcz35_4); (try clear hcz38_0); (try clear hcz38_1); (try clear hcz38_2); (try clear hcz38_3); (try clear hcz38_4); (try clear hcz43_0); (try clear hcz43_1); (try clear hcz44_0); (try clear hcz44_1); (try clear hcz44_2); (try clear hcz44_3); (try clear hcz44_4); (try clear hcz51_0); (try clear hcz51_1); (try clear hcz51_2); (try clear hcz51_3); (try clear hcz51_4); (try clear hcz53_0); (try clear hcz53_1); (try clear hcz53_2); (try clear hcz53_3); (try clear hcz53_4); (try clear hcz55_0); (try clear hcz55_1); (try clear hcz55_2); (try clear hcz55_3); (try clear hcz55_4); (try clear hcz61_0); (try clear hcz61_1); (try clear hcz61_2); (try clear hcz61_3); (try clear hcz61_4); (try clear hcz68_0); (try clear hcz68_1); (try clear hcz68_2); (try clear hcz68_3); (try clear hcz68_4); (try clear hcz70_0); (try clear hcz70_1); (try clear hcz70_2); (try clear hcz70_3); (try clear hcz70_4); (try clear hcz74_0); (try clear hcz74_1)
                                (try clear hcz81_0); (try clear hcz81_1); (try clear hcz81_2); (try clear hcz81_3); (try clear hcz81_4); (try clear hcz83_0); (try clear hcz83_1); (try clear hcz83_2); (try clear hcz83_3); (try clear hcz83_4); (try clear hcz87_0); (try clear hcz87_1); (try clear hcz94_0); (try clear hcz94_1); (try clear hcz96_0); (try clear hcz96_1); (try clear hfz103_0); (try clear hfz103_1); (try clear hfz105_0); (try clear hfz105_1); (try clear hfz13_0); (try clear hfz13_1); (try clear hfz13_2); (try clear hfz13_3); (try clear hfz13_4); (try clear hfz17_0); (try clear hfz17_1); (try clear hfz17_2); (try clear hfz17_3); (try clear hfz17_4); (try clear hfz21_0); (try clear hfz21_1); (try clear hfz21_2); (try clear hfz21_3); (try clear hfz21_4); (try clear hfz25_0); (try clear hfz25_1); (try clear hfz25_2); (try clear hfz25_3); (try clear hfz25_4); (try clear hfz29_0); (try clear hfz29_1); (try clear hfz29_2); (try clear hfz29_3); (try clear hfz29_4); (try clear hfz32_0); (try clear hfz32_1); (try clear hfz32_2); (try clear hfz32_3); (try clear hfz32_4); (try clear hfz35_0); (try clear hfz35_1); (try clear hfz35_2); (try clear hfz35_3); (try clear hfz35_4); (try clear hfz38_0); (try clear hfz38_1); (try clear hfz38_2); (try clear hfz38_3); (try clear hfz38_4); (try clear hfz43_0); (try clear hfz43_1); (try clear hfz44_0); (try clear hfz44_1); (try clear hfz44_2); (try clear hfz44_3); (try clear hfz44_4); (try clear hfz51_0); (try clear hfz51_1); (try clear hfz51_2); (try clear hfz51_3)
                                (try clear hfz51_4); (try clear hfz53_0); (try clear hfz53_1); (try clear hfz53_2); (try clear hfz53_3); (try clear hfz53_4); (try clear hfz55_0); (try clear hfz55_1); (try clear hfz55_2); (try clear hfz55_3); (try clear hfz55_4); (try clear hfz61_0); (try clear hfz61_1); (try clear hfz61_2); (try clear hfz61_3); (try clear hfz61_4); (try clear hfz68_0); (try clear hfz68_1); (try clear hfz68_2); (try clear hfz68_3); (try clear hfz68_4); (try clear hfz70_0); (try clear hfz70_1); (try clear hfz70_2); (try clear hfz70_3); (try clear hfz70_4); (try clear hfz74_0); (try clear hfz74_1); (try clear hfz81_0); (try clear hfz81_1); (try clear hfz81_2); (try clear hfz81_3); (try clear hfz81_4); (try clear hfz83_0); (try clear hfz83_1); (try clear hfz83_2); (try clear hfz83_3); (try clear hfz83_4); (try clear hfz87_0); (try clear hfz87_1); (try clear hfz94_0); (try clear hfz94_1); (try clear hfz96_0); (try clear hfz96_1); (try clear p2); (try clear p6); (try clear p64); (obtain ⟨kq, x23_98, rfl, HA, HJ98, HO_16, HO_17, BK275, BK278, HB⟩ := hcut)
                                cases kq with
                                | zero => exact absurd HA.out (by simp [spec_RunStops.j13])
                                | succ kj98 =>
                                 have H := HA.out; clear HA; (simp only [spec_RunStops.j13] at H)
                                 by_cases c106 : x23_98 = true
                                 · subst c106
                                   (have H1 : ((spec_l13Cut.f (wrap64 (x15_2 + a0_3)) 0 a0_4).bind fun t280 => (if x16_2.length < 17592186044416 then (if x17_2.length < 140737488355328 then (spec_RunStops.l0 kj98 l1 a2 a3 a4 x14_55 t280 (x16_2 ++ [t280]) (x17_2 ++ [true]) (wrap64 (x18_2 + 1)) a0_0 a0_1 a0_2 a0_3 a0_4 x279000_70 x279001_83) else (none)) else (none))) = some (r1, r2, r3) := by rw [if_pos rfl] at H; exact H); clear H; have H := H1; clear H1; (replace H := Option.bind_eq_some_iff.mp H); (obtain ⟨t280, A1070, H⟩ := H); (replace H : (if x16_2.length < 17592186044416 then (if x17_2.length < 140737488355328 then (spec_RunStops.l0 kj98 l1 a2 a3 a4 x14_55 t280 (x16_2 ++ [t280]) (x17_2 ++ [true]) (wrap64 (x18_2 + 1)) a0_0 a0_1 a0_2 a0_3 a0_4 x279000_70 x279001_83) else (none)) else (none)) = some (r1, r2, r3) := H); (have A107 := aM A1070); clear A1070
                                   by_cases c108 : x16_2.length < 17592186044416
                                   · rw [if_pos c108] at H
                                     (have LMc108 := aM c108); clear c108; (obtain ⟨y281, hy281⟩ : ∃ y_ : List Int, y_ = (x16_2 ++ [t280]) := ⟨_, rfl⟩); (replace H : (if x17_2.length < 140737488355328 then (spec_RunStops.l0 kj98 l1 a2 a3 a4 x14_55 t280 y281 (x17_2 ++ [true]) (wrap64 (x18_2 + 1)) a0_0 a0_1 a0_2 a0_3 a0_4 x279000_70 x279001_83) else (none)) = some (r1, r2, r3) := by first | (rw [hy281]; with_reducible exact H) | (have H2_ := (Option.bind_some _ _).symm.trans H; rw [hy281]; with_reducible exact H2_) | (have H2_ := (Option.bind_some _ _).symm.trans H; with_reducible exact H2_) | with_reducible exact H | (rw [hy281]; exact H) | exact H); (have Ny281 := aM hy281); clear hy281
                                     by_cases c109 : x17_2.length < 140737488355328
                                     · rw [if_pos c109] at H
                                       (have LMc109 := aM c109); clear c109; (obtain ⟨y284, hy284⟩ : ∃ y_ : List Bool, y_ = (x17_2 ++ [true]) := ⟨_, rfl⟩); (replace H : (spec_RunStops.l0 kj98 l1 a2 a3 a4 x14_55 t280 y281 y284 (wrap64 (x18_2 + 1)) a0_0 a0_1 a0_2 a0_3 a0_4 x279000_70 x279001_83) = some (r1, r2, r3) := by first | (rw [hy284]; with_reducible exact H) | (have H2_ := (Option.bind_some _ _).symm.trans H; rw [hy284]; with_reducible exact H2_) | (have H2_ := (Option.bind_some _ _).symm.trans H; with_reducible exact H2_) | with_reducible exact H | (rw [hy284]; exact H) | exact H); (have Ny284 := aM hy284); clear hy284; (have H' := aM H); clear H; have hnb110 := NB275_278.out; have hnc110 := NB278_275.out; (have hcz111_0 : wc.cell? ⟨gb275, 0, none⟩ = some (.int .i64 a0_0) := (cZ BK275.out 0).trans rfl); (have hcz111_1 : wc.cell? ⟨gb275, 1, none⟩ = some (.int .i64 a0_1) := (cZ BK275.out 1).trans rfl); (have hcz111_2 : wc.cell? ⟨gb275, 2, none⟩ = some (.int .i64 a0_2) := (cZ BK275.out 2).trans rfl); (have hcz111_3 : wc.cell? ⟨gb275, 3, none⟩ = some (.int .i64 a0_3) := (cZ BK275.out 3).trans rfl); (have hcz111_4 : wc.cell? ⟨gb275, 4, none⟩ = some (.int .i64 a0_4) := (cZ BK275.out 4).trans rfl); (have hfz111_0 := fZ BK275.out 0); (have hfz111_1 := fZ BK275.out 1); (have hfz111_2 := fZ BK275.out 2); (have hfz111_3 := fZ BK275.out 3); (have hfz111_4 := fZ BK275.out 4)
                                       go_wp2_with (first | (rw [rounds_succ]) | ((with_reducible refine gate_callee (f := 37) rfl ?_); refine goesL_ (some 142) rfl rfl Try.func37 (by kernel_rfl) rfl #[.int .i64 (wrap64 (x15_2 + a0_3)), .int .i64 0, .int .i64 a0_4] rfl (by (try simp only [List.map_toArray, List.map_cons, List.map_nil]); first | done | rfl | (simp only [List.length_drop, List.length_take]; rfl)) ?_; (with_reducible refine (spec_l13Cut.calls (wrap64 (x15_2 + a0_3)) 0 a0_4 t280 _ A107.out).mono ?_); rintro e w' ⟨rfl, ⟨nd, rfl⟩⟩; refine ⟨_, rfl, ?_⟩) | ((with_reducible refine gate_builtin (b := .append) (xs := #[.tmp 150, .tmp 152]) rfl ?_); at_builtin; refine Kd.R_append (Kd.int .i64) (w0 := w) w.heap.size rfl (.tmp 150) (.tmp 152) 30 3 (.int .i64 0) 8 rfl Try.underlying30 info3 rfl (by decide) (by omega) u16 x16_2 t280 [.int .i64 t280] (fun _ => True) (fun _ => False) rfl rfl ?aP (fun _ hk => hk.elim) ?aF ?aO ?aB ?aS ?aL ?_; (case aP => exact rfl); (case aB => exact (by repeat (first | (with_reducible first | exact HB.out | apply bA | apply bN | apply bD | refine bS ?_ GE275.out | refine bS ?_ GE278.out) | exact HB.out))); (case aF => exact (fun _ _ => trivial)); (case aO => exact (by (with_reducible repeat (first | apply Kd.R_alloc | apply Kd.R_drewN | apply Kd.R_drew)); exact HO_16.out)); (case aS => exact (bZ (by repeat (first | (with_reducible first | exact HB.out | apply bA | apply bN | apply bD | refine bS ?_ GE275.out | refine bS ?_ GE278.out) | exact HB.out)))); (case aL => have := LMc108.out; omega); intro v282 w112 ho hb hg hat; rw [← Ny281.out] at ho; have n0_ := aM (Kd.R_over' (by (with_reducible repeat (first | apply Kd.R_alloc | apply Kd.R_drewN | apply Kd.R_drew)); exact HO_17.out) (Kd.R_typed (by (with_reducible repeat (first | apply Kd.R_alloc | apply Kd.R_drewN | apply Kd.R_drew)); exact HO_16.out)) (by decide) hg); have n1_ := aM (blk_grown (g := gb275) (o := .cells #[.int .i64 a0_0, .int .i64 a0_1, .int .i64 a0_2, .int .i64 a0_3, .int .i64 a0_4] 26 (0, 0)) (by (with_reducible repeat (first | refine kN ?_ _ | refine kD ?_ | refine kA ?_ _)); exact BK275.out) hg (Kd.R_ne HO_16.out BK275.out (by decide))); have n2_ := aM (blk_grown (g := gb278) (o := .cells #[.bool x279000_70, .bool x279001_83] 65 (0, 0)) (by (with_reducible repeat (first | refine kN ?_ _ | refine kD ?_ | refine kA ?_ _)); exact BK278.out) hg (Kd.R_ne HO_16.out BK278.out (by decide))); have n3_ := aM (hb); have n4_ := aM (ho); clear HO_17; clear BK275; clear BK278; clear HB; clear HO_16; have HO_17 := n0_; have BK275 := n1_; have BK278 := n2_; have HB := n3_; have HO283 := n4_; clear n0_ n1_ n2_ n3_ n4_; clear ho hb hg hat) | ((with_reducible refine gate_builtin (b := .append) (xs := #[.tmp 154, .tmp 156]) rfl ?_); at_builtin; refine Kd.R_append Kd.bool (w0 := w) w.heap.size rfl (.tmp 154) (.tmp 156) 31 4 (.bool false) 1 rfl Try.underlying31 info4 rfl (by decide) (by omega) u17 x17_2 true [.bool true] (fun _ => True) (fun _ => False) rfl rfl ?aP (fun _ hk => hk.elim) ?aF ?aO ?aB ?aS ?aL ?_; (case aP => exact rfl); (case aB => exact (by repeat (first | (with_reducible first | exact HB.out | apply bA | apply bN | apply bD | refine bS ?_ GE275.out | refine bS ?_ GE278.out) | exact HB.out))); (case aF => exact (fun _ _ => trivial)); (case aO => exact (by (with_reducible repeat (first | apply Kd.R_alloc | apply Kd.R_drewN | apply Kd.R_drew)); exact HO_17.out)); (case aS => exact (bZ (by repeat (first | (with_reducible first | exact HB.out | apply bA | apply bN | apply bD | refine bS ?_ GE275.out | refine bS ?_ GE278.out) | exact HB.out)))); (case aL => have := LMc109.out; omega); intro v285 w113 ho hb hg hat; rw [← Ny284.out] at ho; have n0_ := aM (blk_grown (g := gb275) (o := .cells #[.int .i64 a0_0, .int .i64 a0_1, .int .i64 a0_2, .int .i64 a0_3, .int .i64 a0_4] 26 (0, 0)) (by (with_reducible repeat (first | refine kN ?_ _ | refine kD ?_ | refine kA ?_ _)); exact BK275.out) hg (Kd.R_ne HO_17.out BK275.out (by decide))); have n1_ := aM (blk_grown (g := gb278) (o := .cells #[.bool x279000_70, .bool x279001_83] 65 (0, 0)) (by (with_reducible repeat (first | refine kN ?_ _ | refine kD ?_ | refine kA ?_ _)); exact BK278.out) hg (Kd.R_ne HO_17.out BK278.out (by decide))); have n2_ := aM (Kd.R_over' (by (with_reducible repeat (first | apply Kd.R_alloc | apply Kd.R_drewN | apply Kd.R_drew)); exact HO283.out) (Kd.R_typed (by (with_reducible repeat (first | apply Kd.R_alloc | apply Kd.R_drewN | apply Kd.R_drew)); exact HO_17.out)) (by decide) hg); have n3_ := aM (hb); have n4_ := aM (ho); clear BK275; clear BK278; clear HO283; clear HB; clear HO_17; have BK275 := n0_; have BK278 := n1_; have HO283 := n2_; have HB := n3_; have HO286 := n4_; clear n0_ n1_ n2_ n3_ n4_; clear ho hb hg hat))
                                       go_roundg kj98
                                       case measure => have := HJ5.out; have := HK2.out; have := HJ45.out; have := HJ55.out; have := HJ58.out; have := HJ63.out; have := HJ70.out; have := HJ74.out; have := HJ76.out; have := HJ83.out; have := HJ87.out; have := HJ89.out; have := HJ96.out; have := HJ98.out; omega
                                       case rel => exact ⟨(x14_55), (t280), (y281), (y284), (wrap64 (x18_2 + 1)), (x279000_70), (x279001_83), (by first | rfl | (simp; done) | (simp [*]; done)), (by first | rfl | (simp; done) | (simp [*]; done)), (by first | rfl | (simp; done) | (simp [*]; done)), H', ⟨by have := HJ5.out; have := HK2.out; have := HJ45.out; have := HJ55.out; have := HJ58.out; have := HJ63.out; have := HJ70.out; have := HJ74.out; have := HJ76.out; have := HJ83.out; have := HJ87.out; have := HJ89.out; have := HJ96.out; have := HJ98.out; omega⟩, ⟨by (with_reducible repeat (first | apply Kd.R_alloc | apply Kd.R_drewN | apply Kd.R_drew)); exact HO283.out⟩, ⟨by (with_reducible repeat (first | apply Kd.R_alloc | apply Kd.R_drewN | apply Kd.R_drew)); exact HO286.out⟩, ⟨by (with_reducible repeat (first | refine kN ?_ _ | refine kD ?_ | refine kA ?_ _)); exact BK275.out⟩, ⟨by (with_reducible repeat (first | refine kN ?_ _ | refine kD ?_ | refine kA ?_ _)); exact BK278.out⟩, ⟨by repeat (first | (with_reducible first | exact HB.out | apply bA | apply bN | apply bD | refine bS ?_ GE275.out | refine bS ?_ GE278.out) | exact HB.out)⟩⟩
                                     · rw [if_neg c109] at H
                                       exact absurd H (by simp)
                                   · rw [if_neg c108] at H
                                     exact absurd H (by simp)
                                 · replace c106 := Bool.eq_false_iff.mpr c106
                                   subst c106; (have H1 : ((spec_l13Cut.f (wrap64 (x15_2 - a0_3)) 0 a0_4).bind fun t287 => (if x16_2.length < 17592186044416 then (if x17_2.length < 140737488355328 then (spec_RunStops.l0 kj98 l1 a2 a3 a4 x14_55 t287 (x16_2 ++ [t287]) (x17_2 ++ [false]) (wrap64 (x18_2 + 1)) a0_0 a0_1 a0_2 a0_3 a0_4 x279000_70 x279001_83) else (none)) else (none))) = some (r1, r2, r3) := by rw [if_neg (show ¬ (false = true) by decide)] at H; exact H); clear H; have H := H1; clear H1; (replace H := Option.bind_eq_some_iff.mp H); (obtain ⟨t287, A1140, H⟩ := H); (replace H : (if x16_2.length < 17592186044416 then (if x17_2.length < 140737488355328 then (spec_RunStops.l0 kj98 l1 a2 a3 a4 x14_55 t287 (x16_2 ++ [t287]) (x17_2 ++ [false]) (wrap64 (x18_2 + 1)) a0_0 a0_1 a0_2 a0_3 a0_4 x279000_70 x279001_83) else (none)) else (none)) = some (r1, r2, r3) := H); (have A114 := aM A1140); clear A1140
                                   by_cases c115 : x16_2.length < 17592186044416
                                   · rw [if_pos c115] at H
                                     (have LMc115 := aM c115); clear c115; (obtain ⟨y288, hy288⟩ : ∃ y_ : List Int, y_ = (x16_2 ++ [t287]) := ⟨_, rfl⟩); (replace H : (if x17_2.length < 140737488355328 then (spec_RunStops.l0 kj98 l1 a2 a3 a4 x14_55 t287 y288 (x17_2 ++ [false]) (wrap64 (x18_2 + 1)) a0_0 a0_1 a0_2 a0_3 a0_4 x279000_70 x279001_83) else (none)) = some (r1, r2, r3) := by first | (rw [hy288]; with_reducible exact H) | (have H2_ := (Option.bind_some _ _).symm.trans H; rw [hy288]; with_reducible exact H2_) | (have H2_ := (Option.bind_some _ _).symm.trans H; with_reducible exact H2_) | with_reducible exact H | (rw [hy288]; exact H) | exact H); (have Ny288 := aM hy288); clear hy288
                                     by_cases c116 : x17_2.length < 140737488355328
                                     · rw [if_pos c116] at H
                                       (have LMc116 := aM c116); clear c116; (obtain ⟨y291, hy291⟩ : ∃ y_ : List Bool, y_ = (x17_2 ++ [false]) := ⟨_, rfl⟩); (replace H : (spec_RunStops.l0 kj98 l1 a2 a3 a4 x14_55 t287 y288 y291 (wrap64 (x18_2 + 1)) a0_0 a0_1 a0_2 a0_3 a0_4 x279000_70 x279001_83) = some (r1, r2, r3) := by first | (rw [hy291]; with_reducible exact H) | (have H2_ := (Option.bind_some _ _).symm.trans H; rw [hy291]; with_reducible exact H2_) | (have H2_ := (Option.bind_some _ _).symm.trans H; with_reducible exact H2_) | with_reducible exact H | (rw [hy291]; exact H) | exact H); (have Ny291 := aM hy291); clear hy291; (have H' := aM H); clear H; have hnb117 := NB275_278.out; have hnc117 := NB278_275.out; (have hcz118_0 : wc.cell? ⟨gb275, 0, none⟩ = some (.int .i64 a0_0) := (cZ BK275.out 0).trans rfl); (have hcz118_1 : wc.cell? ⟨gb275, 1, none⟩ = some (.int .i64 a0_1) := (cZ BK275.out 1).trans rfl); (have hcz118_2 : wc.cell? ⟨gb275, 2, none⟩ = some (.int .i64 a0_2) := (cZ BK275.out 2).trans rfl); (have hcz118_3 : wc.cell? ⟨gb275, 3, none⟩ = some (.int .i64 a0_3) := (cZ BK275.out 3).trans rfl); (have hcz118_4 : wc.cell? ⟨gb275, 4, none⟩ = some (.int .i64 a0_4) := (cZ BK275.out 4).trans rfl); (have hfz118_0 := fZ BK275.out 0); (have hfz118_1 := fZ BK275.out 1); (have hfz118_2 := fZ BK275.out 2); (have hfz118_3 := fZ BK275.out 3); (have hfz118_4 := fZ BK275.out 4)
                                       go_wp2_with (first | (rw [rounds_succ]) | ((with_reducible refine gate_callee (f := 37) rfl ?_); refine goesL_ (some 149) rfl rfl Try.func37 (by kernel_rfl) rfl #[.int .i64 (wrap64 (x15_2 - a0_3)), .int .i64 0, .int .i64 a0_4] rfl (by (try simp only [List.map_toArray, List.map_cons, List.map_nil]); first | done | rfl | (simp only [List.length_drop, List.length_take]; rfl)) ?_; (with_reducible refine (spec_l13Cut.calls (wrap64 (x15_2 - a0_3)) 0 a0_4 t287 _ A114.out).mono ?_); rintro e w' ⟨rfl, ⟨nd, rfl⟩⟩; refine ⟨_, rfl, ?_⟩) | ((with_reducible refine gate_builtin (b := .append) (xs := #[.tmp 150, .tmp 152]) rfl ?_); at_builtin; refine Kd.R_append (Kd.int .i64) (w0 := w) w.heap.size rfl (.tmp 150) (.tmp 152) 30 3 (.int .i64 0) 8 rfl Try.underlying30 info3 rfl (by decide) (by omega) u16 x16_2 t287 [.int .i64 t287] (fun _ => True) (fun _ => False) rfl rfl ?aP (fun _ hk => hk.elim) ?aF ?aO ?aB ?aS ?aL ?_; (case aP => exact rfl); (case aB => exact (by repeat (first | (with_reducible first | exact HB.out | apply bA | apply bN | apply bD | refine bS ?_ GE275.out | refine bS ?_ GE278.out) | exact HB.out))); (case aF => exact (fun _ _ => trivial)); (case aO => exact (by (with_reducible repeat (first | apply Kd.R_alloc | apply Kd.R_drewN | apply Kd.R_drew)); exact HO_16.out)); (case aS => exact (bZ (by repeat (first | (with_reducible first | exact HB.out | apply bA | apply bN | apply bD | refine bS ?_ GE275.out | refine bS ?_ GE278.out) | exact HB.out)))); (case aL => have := LMc115.out; omega); intro v289 w119 ho hb hg hat; rw [← Ny288.out] at ho; have n0_ := aM (Kd.R_over' (by (with_reducible repeat (first | apply Kd.R_alloc | apply Kd.R_drewN | apply Kd.R_drew)); exact HO_17.out) (Kd.R_typed (by (with_reducible repeat (first | apply Kd.R_alloc | apply Kd.R_drewN | apply Kd.R_drew)); exact HO_16.out)) (by decide) hg); have n1_ := aM (blk_grown (g := gb275) (o := .cells #[.int .i64 a0_0, .int .i64 a0_1, .int .i64 a0_2, .int .i64 a0_3, .int .i64 a0_4] 26 (0, 0)) (by (with_reducible repeat (first | refine kN ?_ _ | refine kD ?_ | refine kA ?_ _)); exact BK275.out) hg (Kd.R_ne HO_16.out BK275.out (by decide))); have n2_ := aM (blk_grown (g := gb278) (o := .cells #[.bool x279000_70, .bool x279001_83] 65 (0, 0)) (by (with_reducible repeat (first | refine kN ?_ _ | refine kD ?_ | refine kA ?_ _)); exact BK278.out) hg (Kd.R_ne HO_16.out BK278.out (by decide))); have n3_ := aM (hb); have n4_ := aM (ho); clear HO_17; clear BK275; clear BK278; clear HB; clear HO_16; have HO_17 := n0_; have BK275 := n1_; have BK278 := n2_; have HB := n3_; have HO290 := n4_; clear n0_ n1_ n2_ n3_ n4_; clear ho hb hg hat) | ((with_reducible refine gate_builtin (b := .append) (xs := #[.tmp 154, .tmp 156]) rfl ?_); at_builtin; refine Kd.R_append Kd.bool (w0 := w) w.heap.size rfl (.tmp 154) (.tmp 156) 31 4 (.bool false) 1 rfl Try.underlying31 info4 rfl (by decide) (by omega) u17 x17_2 false [.bool false] (fun _ => True) (fun _ => False) rfl rfl ?aP (fun _ hk => hk.elim) ?aF ?aO ?aB ?aS ?aL ?_; (case aP => exact rfl); (case aB => exact (by repeat (first | (with_reducible first | exact HB.out | apply bA | apply bN | apply bD | refine bS ?_ GE275.out | refine bS ?_ GE278.out) | exact HB.out))); (case aF => exact (fun _ _ => trivial)); (case aO => exact (by (with_reducible repeat (first | apply Kd.R_alloc | apply Kd.R_drewN | apply Kd.R_drew)); exact HO_17.out)); (case aS => exact (bZ (by repeat (first | (with_reducible first | exact HB.out | apply bA | apply bN | apply bD | refine bS ?_ GE275.out | refine bS ?_ GE278.out) | exact HB.out)))); (case aL => have := LMc116.out; omega); intro v292 w120 ho hb hg hat; rw [← Ny291.out] at ho; have n0_ := aM (blk_grown (g := gb275) (o := .cells #[.int .i64 a0_0, .int .i64 a0_1, .int .i64 a0_2, .int .i64 a0_3, .int .i64 a0_4] 26 (0, 0)) (by (with_reducible repeat (first | refine kN ?_ _ | refine kD ?_ | refine kA ?_ _)); exact BK275.out) hg (Kd.R_ne HO_17.out BK275.out (by decide))); have n1_ := aM (blk_grown (g := gb278) (o := .cells #[.bool x279000_70, .bool x279001_83] 65 (0, 0)) (by (with_reducible repeat (first | refine kN ?_ _ | refine kD ?_ | refine kA ?_ _)); exact BK278.out) hg (Kd.R_ne HO_17.out BK278.out (by decide))); have n2_ := aM (Kd.R_over' (by (with_reducible repeat (first | apply Kd.R_alloc | apply Kd.R_drewN | apply Kd.R_drew)); exact HO290.out) (Kd.R_typed (by (with_reducible repeat (first | apply Kd.R_alloc | apply Kd.R_drewN | apply Kd.R_drew)); exact HO_17.out)) (by decide) hg); have n3_ := aM (hb); have n4_ := aM (ho); clear BK275; clear BK278; clear HO290; clear HB; clear HO_17; have BK275 := n0_; have BK278 := n1_; have HO290 := n2_; have HB := n3_; have HO293 := n4_; clear n0_ n1_ n2_ n3_ n4_; clear ho hb hg hat))
                                       go_roundg kj98
                                       case measure => have := HJ5.out; have := HK2.out; have := HJ45.out; have := HJ55.out; have := HJ58.out; have := HJ63.out; have := HJ70.out; have := HJ74.out; have := HJ76.out; have := HJ83.out; have := HJ87.out; have := HJ89.out; have := HJ96.out; have := HJ98.out; omega
                                       case rel => exact ⟨(x14_55), (t287), (y288), (y291), (wrap64 (x18_2 + 1)), (x279000_70), (x279001_83), (by first | rfl | (simp; done) | (simp [*]; done)), (by first | rfl | (simp; done) | (simp [*]; done)), (by first | rfl | (simp; done) | (simp [*]; done)), H', ⟨by have := HJ5.out; have := HK2.out; have := HJ45.out; have := HJ55.out; have := HJ58.out; have := HJ63.out; have := HJ70.out; have := HJ74.out; have := HJ76.out; have := HJ83.out; have := HJ87.out; have := HJ89.out; have := HJ96.out; have := HJ98.out; omega⟩, ⟨by (with_reducible repeat (first | apply Kd.R_alloc | apply Kd.R_drewN | apply Kd.R_drew)); exact HO290.out⟩, ⟨by (with_reducible repeat (first | apply Kd.R_alloc | apply Kd.R_drewN | apply Kd.R_drew)); exact HO293.out⟩, ⟨by (with_reducible repeat (first | refine kN ?_ _ | refine kD ?_ | refine kA ?_ _)); exact BK275.out⟩, ⟨by (with_reducible repeat (first | refine kN ?_ _ | refine kD ?_ | refine kA ?_ _)); exact BK278.out⟩, ⟨by repeat (first | (with_reducible first | exact HB.out | apply bA | apply bN | apply bD | refine bS ?_ GE275.out | refine bS ?_ GE278.out) | exact HB.out)⟩⟩
                                     · rw [if_neg c116] at H
                                       exact absurd H (by simp)
                                   · rw [if_neg c115] at H
                                     exact absurd H (by simp)
       · rw [if_neg c45] at H
         (have c45b0 : decide (x18_2 < a4) = false := decide_eq_false c45); clear c45; (simp only [Option.some.injEq, Prod.mk.injEq] at H); (obtain ⟨rfl, rfl, rfl⟩ := H)
         go_wp2
         go_ret3
         exact ⟨_, _, by first | rfl | (simp [errW_none, errW_some] <;> rfl) | (simp [*, errW_none, errW_some] <;> rfl), by (with_reducible repeat (first | apply Kd.R_alloc | apply Kd.R_drewN | apply Kd.R_drew)); exact HO_16.out, by (with_reducible repeat (first | apply Kd.R_alloc | apply Kd.R_drewN | apply Kd.R_drew)); exact HO_17.out, by repeat (first | (with_reducible first | exact HB.out | apply bA | apply bN | apply bD | refine bS ?_ GE275.out | refine bS ?_ GE278.out) | exact HB.out)⟩

end Go.Proofs.Ytkigjidjbjbjlaa.PFnStops
