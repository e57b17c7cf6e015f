-- Written by this session's own program for the law FnExactTalkAll; it began as the print's text.
import Derived.Test.YtmlejakajcmbdaaQFnExactTalkAllx0
import Derived.Test.YtmlejakajcmbdaaQFnExactTalkAllx1
import Derived.Test.YtmlejakajcmbdaaQFnExactTalkAllx2
import Derived.Test.YtmlejakajcmbdaaQFnExactTalkAllx3
namespace Go.Proofs.Ytmlejakajcmbdaa.PFnExactTalkAll
open Go.RowKit Go.Proofs.YtmlejakajcmbdaaW.PrintWords Go.Proofs.YtmlejakajcmbdaaW.PrintLast Go.Proofs.YtmlejakajcmbdaaW.PrintMore
attribute [local go_sem] max2_int min2_int max_two min_two max_three min_three max_four min_four   -- for this text's walks alone
set_option linter.unusedVariables false
set_option linter.unusedSimpArgs false

/-! ### spec_TalkAll: function 42 -/
mutual
def spec_TalkAll.j0 : Nat → List Int → Int → List Int → List Int → Int → Bool → Option (List Int × Int × Int × Bool × Bool)
  | 0, _, _, _, _, _, _ => none
  | k + 1, x0, x1, x2, x3, x4, x49 => if x49 = true then (some (([] : List Int), 0, 0, false, false)) else (spec_TalkAll.l0 k x0 x1 x2 x3 x4 ([] : List (S54)) 0 x0 0 0 ([] : List Int) 0 0 false)
def spec_TalkAll.l0 : Nat → List Int → Int → List Int → List Int → Int → List (S54) → Int → List Int → Int → Int → List Int → Int → Int → Bool → Option (List Int × Int × Int × Bool × Bool)
  | 0, _, _, _, _, _, _, _, _, _, _, _, _, _, _ => none
  | k + 1, x0, x1, x2, x3, x4, x14, x15, x162000, x162001, x162002, x163000, x163001, x163002, x163003 => if x163002 < x4 then (if x15 > x162001 then (spec_TalkAll.j2 k x0 x1 x2 x3 x4 x14 x162000 x15 x162002 x163000 x163001 x163002 x163003) else (spec_TalkAll.j2 k x0 x1 x2 x3 x4 x14 x162000 x162001 x162002 x163000 x163001 x163002 x163003)) else (if x15 > x162001 then (some (x163000, x163001, x163002, (x15 == (x0.length : Int)), true)) else (some (x163000, x163001, x163002, (x162001 == (x0.length : Int)), true)))
def spec_TalkAll.j2 : Nat → List Int → Int → List Int → List Int → Int → List (S54) → List Int → Int → Int → List Int → Int → Int → Bool → Option (List Int × Int × Int × Bool × Bool)
  | 0, _, _, _, _, _, _, _, _, _, _, _, _, _ => none
  | k + 1, x0, x1, x2, x3, x4, x14, x162000, x162001, x162002, x163000, x163001, x163002, x163003 => (spec_SendNext.f k x162000 x162001 x162002 x1).bind fun bt163 => (if bt163.2.2.2.2.2 = true then (if (x2.length : Int) = 0 then (none) else (if 0 ≤ (Int.tmod x163001 (x2.length : Int)) then (if (Int.tmod x163001 (x2.length : Int)) < (x2.length : Int) then (if (rd x2 (Int.tmod x163001 (x2.length : Int))) = 0 then (if x14.length < 8796093022208 then (spec_TalkAll.j3 k x0 x1 x2 x3 x4 ([] : List (S54)) 0 (x14 ++ [(⟨bt163.1, bt163.2.1⟩ : S54)]) bt163.2.2.1 bt163.2.2.2.1 bt163.2.2.2.2.1 x163000 x163001 x163002 x163003) else (none)) else (if (rd x2 (Int.tmod x163001 (x2.length : Int))) = 2 then (if x14.length < 8796093022208 then ((some (x14 ++ [(⟨bt163.1, bt163.2.1⟩ : S54)] : List (S54))).bind fun y177 => (if y177.length < 8796093022208 then (spec_TalkAll.j3 k x0 x1 x2 x3 x4 ([] : List (S54)) 0 (y177 ++ [(⟨bt163.1, bt163.2.1⟩ : S54)]) bt163.2.2.1 bt163.2.2.2.1 bt163.2.2.2.2.1 x163000 x163001 x163002 x163003) else (none))) else (none)) else (if (rd x2 (Int.tmod x163001 (x2.length : Int))) = 3 then (if ([] : List (S54)).length < 8796093022208 then (spec_TalkAll.j3 k x0 x1 x2 x3 x4 (([] : List (S54)) ++ [(⟨bt163.1, bt163.2.1⟩ : S54)]) 0 x14 bt163.2.2.1 bt163.2.2.2.1 bt163.2.2.2.2.1 x163000 x163001 x163002 x163003) else (none)) else (spec_TalkAll.j3 k x0 x1 x2 x3 x4 ([] : List (S54)) 0 x14 bt163.2.2.1 bt163.2.2.2.1 bt163.2.2.2.2.1 x163000 x163001 x163002 x163003)))) else (none)) else (none))) else (if 0 > x162001 then (some (x163000, x163001, x163002, (0 == (x0.length : Int)), true)) else (some (x163000, x163001, x163002, (x162001 == (x0.length : Int)), true))))
def spec_TalkAll.j3 : Nat → List Int → Int → List Int → List Int → Int → List (S54) → Int → List (S54) → List Int → Int → Int → List Int → Int → Int → Bool → Option (List Int × Int × Int × Bool × Bool)
  | 0, _, _, _, _, _, _, _, _, _, _, _, _, _, _, _ => none
  | k + 1, x0, x1, x2, x3, x4, x14, x15, x19, x162000, x162001, x162002, x163000, x163001, x163002, x163003 => (spec_TakeParcels.f k x163000 x19).bind fun bt186 => (if (x3.length : Int) = 0 then (none) else (if 0 ≤ (Int.tmod x163001 (x3.length : Int)) then (if (Int.tmod x163001 (x3.length : Int)) < (x3.length : Int) then (if (rd x3 (Int.tmod x163001 (x3.length : Int))) = 0 then (spec_TalkAll.j4 k x0 x1 x2 x3 x4 x14 x15 bt186.2 (rd x3 (Int.tmod x163001 (x3.length : Int))) ((rd x3 (Int.tmod x163001 (x3.length : Int))) == 0) x162000 x162001 x162002 bt186.1 x163001 x163002 x163003) else (spec_TalkAll.j4 k x0 x1 x2 x3 x4 x14 x15 bt186.2 (rd x3 (Int.tmod x163001 (x3.length : Int))) ((rd x3 (Int.tmod x163001 (x3.length : Int))) == 2) x162000 x162001 x162002 bt186.1 x163001 x163002 x163003)) else (none)) else (none)))
def spec_TalkAll.j4 : Nat → List Int → Int → List Int → List Int → Int → List (S54) → Int → Int → Int → Bool → List Int → Int → Int → List Int → Int → Int → Bool → Option (List Int × Int × Int × Bool × Bool)
  | 0, _, _, _, _, _, _, _, _, _, _, _, _, _, _, _, _, _ => none
  | k + 1, x0, x1, x2, x3, x4, x14, x15, x20, x120, x121, x162000, x162001, x162002, x163000, x163001, x163002, x163003 => if x121 = true then (if x20 > x162001 then (spec_TalkAll.l0 k x0 x1 x2 x3 x4 x14 x15 x162000 x20 x162002 x163000 (wrap64 (x163001 + 1)) (wrap64 (x163002 + 1)) x163003) else (spec_TalkAll.l0 k x0 x1 x2 x3 x4 x14 x15 x162000 x162001 x162002 x163000 (wrap64 (x163001 + 1)) (wrap64 (x163002 + 1)) x163003)) else (if x120 = 3 then (spec_TalkAll.l0 k x0 x1 x2 x3 x4 x14 x20 x162000 x162001 x162002 x163000 (wrap64 (x163001 + 1)) (wrap64 (x163002 + 1)) x163003) else (spec_TalkAll.l0 k x0 x1 x2 x3 x4 x14 x15 x162000 x162001 x162002 x163000 (wrap64 (x163001 + 1)) (wrap64 (x163002 + 1)) x163003))
end
def spec_TalkAll.f (k : Nat) (l0 : List Int) (a1 : Int) (l2 : List Int) (l3 : List Int) (a4 : Int) : Option (List Int × Int × Int × Bool × Bool) := if (l0.length : Int) > 30 then (spec_TalkAll.j0 k l0 a1 l2 l3 a4 true) else (if a1 < 1 then (spec_TalkAll.j0 k l0 a1 l2 l3 a4 true) else (if a1 > 10 then (spec_TalkAll.j0 k l0 a1 l2 l3 a4 true) else ((spec_l24Fates.f k l2).bind fun t159 => (if t159 = true then ((spec_l24Fates.f k l3).bind fun t160 => (if t160 = true then (if a4 < 0 then (spec_TalkAll.j0 k l0 a1 l2 l3 a4 true) else (spec_TalkAll.j0 k l0 a1 l2 l3 a4 (decide (a4 > 400)))) else (spec_TalkAll.j0 k l0 a1 l2 l3 a4 true))) else (spec_TalkAll.j0 k l0 a1 l2 l3 a4 true)))))
theorem spec_TalkAll.mono_l : ∀ k, (∀ y0 y1 y2 y3 y4 y5, LeO (spec_TalkAll.j0 k y0 y1 y2 y3 y4 y5) (spec_TalkAll.j0 (k + 1) y0 y1 y2 y3 y4 y5)) ∧ (∀ y0 y1 y2 y3 y4 y5 y6 y7 y8 y9 y10 y11 y12 y13, LeO (spec_TalkAll.l0 k y0 y1 y2 y3 y4 y5 y6 y7 y8 y9 y10 y11 y12 y13) (spec_TalkAll.l0 (k + 1) y0 y1 y2 y3 y4 y5 y6 y7 y8 y9 y10 y11 y12 y13)) ∧ (∀ y0 y1 y2 y3 y4 y5 y6 y7 y8 y9 y10 y11 y12, LeO (spec_TalkAll.j2 k y0 y1 y2 y3 y4 y5 y6 y7 y8 y9 y10 y11 y12) (spec_TalkAll.j2 (k + 1) y0 y1 y2 y3 y4 y5 y6 y7 y8 y9 y10 y11 y12)) ∧ (∀ y0 y1 y2 y3 y4 y5 y6 y7 y8 y9 y10 y11 y12 y13 y14, LeO (spec_TalkAll.j3 k y0 y1 y2 y3 y4 y5 y6 y7 y8 y9 y10 y11 y12 y13 y14) (spec_TalkAll.j3 (k + 1) y0 y1 y2 y3 y4 y5 y6 y7 y8 y9 y10 y11 y12 y13 y14)) ∧ (∀ y0 y1 y2 y3 y4 y5 y6 y7 y8 y9 y10 y11 y12 y13 y14 y15 y16, LeO (spec_TalkAll.j4 k y0 y1 y2 y3 y4 y5 y6 y7 y8 y9 y10 y11 y12 y13 y14 y15 y16) (spec_TalkAll.j4 (k + 1) y0 y1 y2 y3 y4 y5 y6 y7 y8 y9 y10 y11 y12 y13 y14 y15 y16))
  | 0 => ⟨fun _ _ _ _ _ _ r h => by simp [spec_TalkAll.j0] at h, fun _ _ _ _ _ _ _ _ _ _ _ _ _ _ r h => by simp [spec_TalkAll.l0] at h, fun _ _ _ _ _ _ _ _ _ _ _ _ _ r h => by simp [spec_TalkAll.j2] at h, fun _ _ _ _ _ _ _ _ _ _ _ _ _ _ _ r h => by simp [spec_TalkAll.j3] at h, fun _ _ _ _ _ _ _ _ _ _ _ _ _ _ _ _ _ r h => by simp [spec_TalkAll.j4] at h⟩
  | k + 1 => by
    obtain ⟨ih0, ih1, ih2, ih3, ih4⟩ := spec_TalkAll.mono_l k
    refine ⟨?_, ?_, ?_, ?_, ?_⟩
    · intro y0 y1 y2 y3 y4 y5
      unfold spec_TalkAll.j0
      repeat' first
      | (with_reducible exact ih0 _ _ _ _ _ _)
      | (with_reducible exact ih1 _ _ _ _ _ _ _ _ _ _ _ _ _ _)
      | (with_reducible exact ih2 _ _ _ _ _ _ _ _ _ _ _ _ _)
      | (with_reducible exact ih3 _ _ _ _ _ _ _ _ _ _ _ _ _ _ _)
      | (with_reducible exact ih4 _ _ _ _ _ _ _ _ _ _ _ _ _ _ _ _ _)
      | (with_reducible exact spec_SendNext.mono _ _ _ _ _)
      | (with_reducible exact spec_TakeParcels.mono _ _ _)
      | (with_reducible exact spec_l24Fates.mono _ _)
      | (with_reducible exact LeO.refl _)
      | (with_reducible exact LeO.none _)
      | (with_reducible refine LeO.ite ?_ ?_)
      | (with_reducible refine LeO.bind ?_ (fun _ => ?_))
      | exact ih0 _ _ _ _ _ _
      | exact ih1 _ _ _ _ _ _ _ _ _ _ _ _ _ _
      | exact ih2 _ _ _ _ _ _ _ _ _ _ _ _ _
      | exact ih3 _ _ _ _ _ _ _ _ _ _ _ _ _ _ _
      | exact ih4 _ _ _ _ _ _ _ _ _ _ _ _ _ _ _ _ _
      | exact spec_SendNext.mono _ _ _ _ _
      | exact spec_TakeParcels.mono _ _ _
      | exact spec_l24Fates.mono _ _
      | exact LeO.none _
      | refine LeO.ite ?_ ?_
      | refine LeO.bind ?_ (fun _ => ?_)
    · intro y0 y1 y2 y3 y4 y5 y6 y7 y8 y9 y10 y11 y12 y13
      unfold spec_TalkAll.l0
      repeat' first
      | (with_reducible exact ih0 _ _ _ _ _ _)
      | (with_reducible exact ih1 _ _ _ _ _ _ _ _ _ _ _ _ _ _)
      | (with_reducible exact ih2 _ _ _ _ _ _ _ _ _ _ _ _ _)
      | (with_reducible exact ih3 _ _ _ _ _ _ _ _ _ _ _ _ _ _ _)
      | (with_reducible exact ih4 _ _ _ _ _ _ _ _ _ _ _ _ _ _ _ _ _)
      | (with_reducible exact spec_SendNext.mono _ _ _ _ _)
      | (with_reducible exact spec_TakeParcels.mono _ _ _)
      | (with_reducible exact spec_l24Fates.mono _ _)
      | (with_reducible exact LeO.refl _)
      | (with_reducible exact LeO.none _)
      | (with_reducible refine LeO.ite ?_ ?_)
      | (with_reducible refine LeO.bind ?_ (fun _ => ?_))
      | exact ih0 _ _ _ _ _ _
      | exact ih1 _ _ _ _ _ _ _ _ _ _ _ _ _ _
      | exact ih2 _ _ _ _ _ _ _ _ _ _ _ _ _
      | exact ih3 _ _ _ _ _ _ _ _ _ _ _ _ _ _ _
      | exact ih4 _ _ _ _ _ _ _ _ _ _ _ _ _ _ _ _ _
      | exact spec_SendNext.mono _ _ _ _ _
      | exact spec_TakeParcels.mono _ _ _
      | exact spec_l24Fates.mono _ _
      | exact LeO.none _
      | refine LeO.ite ?_ ?_
      | refine LeO.bind ?_ (fun _ => ?_)
    · intro y0 y1 y2 y3 y4 y5 y6 y7 y8 y9 y10 y11 y12
      unfold spec_TalkAll.j2
      repeat' first
      | (with_reducible exact ih0 _ _ _ _ _ _)
      | (with_reducible exact ih1 _ _ _ _ _ _ _ _ _ _ _ _ _ _)
      | (with_reducible exact ih2 _ _ _ _ _ _ _ _ _ _ _ _ _)
      | (with_reducible exact ih3 _ _ _ _ _ _ _ _ _ _ _ _ _ _ _)
      | (with_reducible exact ih4 _ _ _ _ _ _ _ _ _ _ _ _ _ _ _ _ _)
      | (with_reducible exact spec_SendNext.mono _ _ _ _ _)
      | (with_reducible exact spec_TakeParcels.mono _ _ _)
      | (with_reducible exact spec_l24Fates.mono _ _)
      | (with_reducible exact LeO.refl _)
      | (with_reducible exact LeO.none _)
      | (with_reducible refine LeO.ite ?_ ?_)
      | (with_reducible refine LeO.bind ?_ (fun _ => ?_))
      | exact ih0 _ _ _ _ _ _
      | exact ih1 _ _ _ _ _ _ _ _ _ _ _ _ _ _
      | exact ih2 _ _ _ _ _ _ _ _ _ _ _ _ _
      | exact ih3 _ _ _ _ _ _ _ _ _ _ _ _ _ _ _
      | exact ih4 _ _ _ _ _ _ _ _ _ _ _ _ _ _ _ _ _
      | exact spec_SendNext.mono _ _ _ _ _
      | exact spec_TakeParcels.mono _ _ _
      | exact spec_l24Fates.mono _ _
      | exact LeO.none _
      | refine LeO.ite ?_ ?_
      | refine LeO.bind ?_ (fun _ => ?_)
    · intro y0 y1 y2 y3 y4 y5 y6 y7 y8 y9 y10 y11 y12 y13 y14
      unfold spec_TalkAll.j3
      repeat' first
      | (with_reducible exact ih0 _ _ _ _ _ _)
      | (with_reducible exact ih1 _ _ _ _ _ _ _ _ _ _ _ _ _ _)
      | (with_reducible exact ih2 _ _ _ _ _ _ _ _ _ _ _ _ _)
      | (with_reducible exact ih3 _ _ _ _ _ _ _ _ _ _ _ _ _ _ _)
      | (with_reducible exact ih4 _ _ _ _ _ _ _ _ _ _ _ _ _ _ _ _ _)
      | (with_reducible exact spec_SendNext.mono _ _ _ _ _)
      | (with_reducible exact spec_TakeParcels.mono _ _ _)
      | (with_reducible exact spec_l24Fates.mono _ _)
      | (with_reducible exact LeO.refl _)
      | (with_reducible exact LeO.none _)
      | (with_reducible refine LeO.ite ?_ ?_)
      | (with_reducible refine LeO.bind ?_ (fun _ => ?_))
      | exact ih0 _ _ _ _ _ _
      | exact ih1 _ _ _ _ _ _ _ _ _ _ _ _ _ _
      | exact ih2 _ _ _ _ _ _ _ _ _ _ _ _ _
      | exact ih3 _ _ _ _ _ _ _ _ _ _ _ _ _ _ _
      | exact ih4 _ _ _ _ _ _ _ _ _ _ _ _ _ _ _ _ _
      | exact spec_SendNext.mono _ _ _ _ _
      | exact spec_TakeParcels.mono _ _ _
      | exact spec_l24Fates.mono _ _
      | exact LeO.none _
      | refine LeO.ite ?_ ?_
      | refine LeO.bind ?_ (fun _ => ?_)
    · intro y0 y1 y2 y3 y4 y5 y6 y7 y8 y9 y10 y11 y12 y13 y14 y15 y16
      unfold spec_TalkAll.j4
      repeat' first
      | (with_reducible exact ih0 _ _ _ _ _ _)
      | (with_reducible exact ih1 _ _ _ _ _ _ _ _ _ _ _ _ _ _)
      | (with_reducible exact ih2 _ _ _ _ _ _ _ _ _ _ _ _ _)
      | (with_reducible exact ih3 _ _ _ _ _ _ _ _ _ _ _ _ _ _ _)
      | (with_reducible exact ih4 _ _ _ _ _ _ _ _ _ _ _ _ _ _ _ _ _)
      | (with_reducible exact spec_SendNext.mono _ _ _ _ _)
      | (with_reducible exact spec_TakeParcels.mono _ _ _)
      | (with_reducible exact spec_l24Fates.mono _ _)
      | (with_reducible exact LeO.refl _)
      | (with_reducible exact LeO.none _)
      | (with_reducible refine LeO.ite ?_ ?_)
      | (with_reducible refine LeO.bind ?_ (fun _ => ?_))
      | exact ih0 _ _ _ _ _ _
      | exact ih1 _ _ _ _ _ _ _ _ _ _ _ _ _ _
      | exact ih2 _ _ _ _ _ _ _ _ _ _ _ _ _
      | exact ih3 _ _ _ _ _ _ _ _ _ _ _ _ _ _ _
      | exact ih4 _ _ _ _ _ _ _ _ _ _ _ _ _ _ _ _ _
      | exact spec_SendNext.mono _ _ _ _ _
      | exact spec_TakeParcels.mono _ _ _
      | exact spec_l24Fates.mono _ _
      | exact LeO.none _
      | refine LeO.ite ?_ ?_
      | refine LeO.bind ?_ (fun _ => ?_)
theorem spec_TalkAll.mono : ∀ a0 a1 a2 a3 a4 k, LeO (spec_TalkAll.f k a0 a1 a2 a3 a4) (spec_TalkAll.f (k + 1) a0 a1 a2 a3 a4) := by
  intro a0 a1 a2 a3 a4 k
  obtain ⟨ih0, ih1, ih2, ih3, ih4⟩ := spec_TalkAll.mono_l k
  unfold spec_TalkAll.f
  repeat' first
      | (with_reducible exact ih0 _ _ _ _ _ _)
      | (with_reducible exact ih1 _ _ _ _ _ _ _ _ _ _ _ _ _ _)
      | (with_reducible exact ih2 _ _ _ _ _ _ _ _ _ _ _ _ _)
      | (with_reducible exact ih3 _ _ _ _ _ _ _ _ _ _ _ _ _ _ _)
      | (with_reducible exact ih4 _ _ _ _ _ _ _ _ _ _ _ _ _ _ _ _ _)
      | (with_reducible exact spec_SendNext.mono _ _ _ _ _)
      | (with_reducible exact spec_TakeParcels.mono _ _ _)
      | (with_reducible exact spec_l24Fates.mono _ _)
      | (with_reducible exact LeO.refl _)
      | (with_reducible exact LeO.none _)
      | (with_reducible refine LeO.ite ?_ ?_)
      | (with_reducible refine LeO.bind ?_ (fun _ => ?_))
      | exact ih0 _ _ _ _ _ _
      | exact ih1 _ _ _ _ _ _ _ _ _ _ _ _ _ _
      | exact ih2 _ _ _ _ _ _ _ _ _ _ _ _ _
      | exact ih3 _ _ _ _ _ _ _ _ _ _ _ _ _ _ _
      | exact ih4 _ _ _ _ _ _ _ _ _ _ _ _ _ _ _ _ _
      | exact spec_SendNext.mono _ _ _ _ _
      | exact spec_TakeParcels.mono _ _ _
      | exact spec_l24Fates.mono _ _
      | exact LeO.none _
      | refine LeO.ite ?_ ?_
      | refine LeO.bind ?_ (fun _ => ?_)
set_option maxHeartbeats 8000000 in
set_option maxRecDepth 100000 in
theorem spec_TalkAll.calls (k : Nat) (P0_ : Nat → Prop) (A0 : Option Addr) (c0 : Nat) (l0 : List Int) (a1 : Int) (A2 : Option Addr) (c2 : Nat) (l2 : List Int) (A3 : Option Addr) (c3 : Nat) (l3 : List Int) (a4 : Int) (r1 : List Int) (r2 : Int) (r3 : Int) (r4 : Bool) (r5 : Bool) (w : World) (hs0 : Kd.V (Kd.int .i64) 3 w w.heap.size (fun k_ => P0_ k_) (.slice A0 l0.length c0) l0) (hr2 : Kd.C (Kd.int .i64) w A2 l2.length l2) (hc2 : l2.length ≤ c2) (hr3 : Kd.C (Kd.int .i64) w A3 l3.length l3) (hc3 : l3.length ≤ c3) (h : spec_TalkAll.f k l0 a1 l2 l3 a4 = some (r1, r2, r3, r4, r5)) :
    Calls Try.prog 42 #[.slice A0 l0.length c0, .int .i64 a1, .slice A2 l2.length c2, .slice A3 l3.length c3, .int .i64 a4] w fun e w' => ∃ v0_ : Value, e = .returned (.tuple #[.agg #[v0_, .int .i64 r2, .int .i64 r3, .bool r4], .bool r5]) ∧ Kd.R (Kd.int .i64) 3 w' w.heap.size (fun k_ => (w.heap.size ≤ k_)) v0_ r1 ∧ Below w.heap.size w w' := by
  have hu69 := Try.underlying69
  have hu55 := Try.underlying55
  have hu54 := Try.underlying54
  have HO0 := Aside0.mk (show Kd.V (Kd.int .i64) 3 w w.heap.size (fun k_ => (P0_ k_ ∨ w.heap.size ≤ k_)) (.slice A0 l0.length c0) l0 from Kd.V_mono hs0 (fun k_ hk => .inl hk))
  have HR2 := Aside0.mk hr2
  have HC2 := Aside0.mk hc2
  clear hr2 hc2
  have HR3 := Aside0.mk hr3
  have HC3 := Aside0.mk hc3
  clear hr3 hc3
  have HB := Aside0.mk (Below.refl w.heap.size w)
  have H : (if (l0.length : Int) > 30 then (spec_TalkAll.j0 k l0 a1 l2 l3 a4 true) else (if a1 < 1 then (spec_TalkAll.j0 k l0 a1 l2 l3 a4 true) else (if a1 > 10 then (spec_TalkAll.j0 k l0 a1 l2 l3 a4 true) else ((spec_l24Fates.f k l2).bind fun t159 => (if t159 = true then ((spec_l24Fates.f k l3).bind fun t160 => (if t160 = true then (if a4 < 0 then (spec_TalkAll.j0 k l0 a1 l2 l3 a4 true) else (spec_TalkAll.j0 k l0 a1 l2 l3 a4 (decide (a4 > 400)))) else (spec_TalkAll.j0 k l0 a1 l2 l3 a4 true))) else (spec_TalkAll.j0 k l0 a1 l2 l3 a4 true)))))) = some (r1, r2, r3, r4, r5) := h
  clear h
  have HC6 := Aside0.mk H
  clear H
  go_enter Try.func42, Try.ntmps42
  go_upto_region 1 with (first | ((with_reducible refine gate_dst (N := 10) rfl ?_); refine box_event ?hg (N := 10) ?hd (cs := #[.slice none 0 0, .int .i64 0, .int .i64 0, .bool false]) (t := 69) ?hr ?_; (case hd => rfl); (case hg => rfl); (case hr => first | (go_simp; done) | (go_simp; rfl)); intro gb158 hg w7 hbox hb; have n0_ := Aside0.mk (Kd.V_below (Kd.V_elderB (by (with_reducible repeat (first | apply Kd.V_alloc | apply Kd.V_drewN | apply Kd.V_drew)); exact HO0.out) gb158 (Nat.le_of_eq hg.symm)) hb); have n1_ := Aside0.mk (below_step (by repeat (first | (with_reducible first | exact HB.out | apply below_alloc | apply pw_below_drewN | apply below_drew1) | exact HB.out)) hb); have n2_ := Aside0.mk (hbox); have n3_ := Aside0.mk ((by rw [hg]; exact (below_size (by repeat (first | (with_reducible first | exact HB.out | apply below_alloc | apply pw_below_drewN | apply below_drew1) | exact HB.out))) : w.heap.size ≤ gb158)); have n4_ := Aside0.mk ((by rw [hg]; exact (below_size (by repeat (first | (with_reducible first | exact HB.out | apply below_alloc | apply pw_below_drewN | apply below_drew1) | exact HB.out))) : w.heap.size ≤ gb158)); clear HO0; clear HB; have HO0 := n0_; have HB := n1_; have BK158 := n2_; have GW158 := n3_; have GE158 := n4_; clear n0_ n1_ n2_ n3_ n4_; clear hb hbox hg))
  (try simp only [Act.put, List.setIfInBounds_toArray, List.set_cons_zero, List.set_cons_succ])
  go_cut [49] (fun v49 wc => ∃ (kq : Nat) (x49_5 : Bool), v49 = .bool x49_5 ∧ Aside0 (spec_TalkAll.j0 kq l0 a1 l2 l3 a4 x49_5 = some (r1, r2, r3, r4, r5)) ∧ Aside0 (kq ≤ k) ∧ Aside0 (Kd.V (Kd.int .i64) 3 wc w.heap.size (fun k_ => (P0_ k_ ∨ w.heap.size ≤ k_) ∧ k_ ≠ gb158) (.slice A0 l0.length c0) l0) ∧ Aside0 (wc.heap[gb158]? = some (.cells #[(.slice none 0 0), .int .i64 0, .int .i64 0, .bool false] 69 (0, 0))) ∧ Aside0 (Below w.heap.size w wc))
  case first =>
    have H := HC6.out
    clear HC6
    by_cases c8 : (l0.length : Int) > 30
    · rw [if_pos c8] at H
      have c8b0 : decide (30 < (l0.length : Int)) = true := decide_eq_true c8
      have c8b1 : decide (30 < l0.length) = true := decide_eq_true (by omega)
      clear c8
      (first | rw [c8b0] | (simp only [i64_w, i32_w]; rw [c8b0]) | skip)
      have H' := Aside0.mk H
      clear H
      go_wp2
      go_meet
      case rel => exact ⟨_, (true), (by first | rfl | (simp; done) | (simp [*]; done)), H', ⟨by first | omega | exact Nat.le_refl _⟩, ⟨by (with_reducible repeat (first | apply Kd.V_alloc | apply Kd.V_drewN | apply Kd.V_drew)); exact HO0.out⟩, ⟨by exact BK158.out⟩, ⟨by repeat (first | (with_reducible first | exact HB.out | apply below_alloc | apply pw_below_drewN | apply below_drew1 | refine below_set ?_ GE158.out) | exact HB.out)⟩⟩
    · rw [if_neg c8] at H
      have c8b0 : decide (30 < (l0.length : Int)) = false := decide_eq_false c8
      have c8b1 : decide (30 < l0.length) = false := decide_eq_false (by omega)
      clear c8
      (first | rw [c8b0] | (simp only [i64_w, i32_w]; rw [c8b0]) | skip)
      by_cases c9 : a1 < 1
      · rw [if_pos c9] at H
        have c9b0 : decide (a1 < 1) = true := decide_eq_true c9
        clear c9
        have H' := Aside0.mk H
        clear H
        go_wp2
        go_meet
        case rel => exact ⟨_, (true), (by first | rfl | (simp; done) | (simp [*]; done)), H', ⟨by first | omega | exact Nat.le_refl _⟩, ⟨by (with_reducible repeat (first | apply Kd.V_alloc | apply Kd.V_drewN | apply Kd.V_drew)); exact HO0.out⟩, ⟨by exact BK158.out⟩, ⟨by repeat (first | (with_reducible first | exact HB.out | apply below_alloc | apply pw_below_drewN | apply below_drew1 | refine below_set ?_ GE158.out) | exact HB.out)⟩⟩
      · rw [if_neg c9] at H
        have c9b0 : decide (a1 < 1) = false := decide_eq_false c9
        clear c9
        by_cases c10 : a1 > 10
        · rw [if_pos c10] at H
          have c10b0 : decide (10 < a1) = true := decide_eq_true c10
          clear c10
          have H' := Aside0.mk H
          clear H
          go_wp2
          go_meet
          case rel => exact ⟨_, (true), (by first | rfl | (simp; done) | (simp [*]; done)), H', ⟨by first | omega | exact Nat.le_refl _⟩, ⟨by (with_reducible repeat (first | apply Kd.V_alloc | apply Kd.V_drewN | apply Kd.V_drew)); exact HO0.out⟩, ⟨by exact BK158.out⟩, ⟨by repeat (first | (with_reducible first | exact HB.out | apply below_alloc | apply pw_below_drewN | apply below_drew1 | refine below_set ?_ GE158.out) | exact HB.out)⟩⟩
        · rw [if_neg c10] at H
          have c10b0 : decide (10 < a1) = false := decide_eq_false c10
          clear c10
          replace H := Option.bind_eq_some_iff.mp H
          obtain ⟨t159, A110, H⟩ := H
          replace H : (if t159 = true then ((spec_l24Fates.f k l3).bind fun t160 => (if t160 = true then (if a4 < 0 then (spec_TalkAll.j0 k l0 a1 l2 l3 a4 true) else (spec_TalkAll.j0 k l0 a1 l2 l3 a4 (decide (a4 > 400)))) else (spec_TalkAll.j0 k l0 a1 l2 l3 a4 true))) else (spec_TalkAll.j0 k l0 a1 l2 l3 a4 true)) = some (r1, r2, r3, r4, r5) := H
          have A11 := Aside0.mk A110
          clear A110
          by_cases c12 : t159 = true
          · subst c12
            have H1 : ((spec_l24Fates.f k l3).bind fun t160 => (if t160 = true then (if a4 < 0 then (spec_TalkAll.j0 k l0 a1 l2 l3 a4 true) else (spec_TalkAll.j0 k l0 a1 l2 l3 a4 (decide (a4 > 400)))) else (spec_TalkAll.j0 k l0 a1 l2 l3 a4 true))) = some (r1, r2, r3, r4, r5) := by rw [if_pos rfl] at H; exact H
            clear H
            have H := H1
            clear H1
            replace H := Option.bind_eq_some_iff.mp H
            obtain ⟨t160, A130, H⟩ := H
            replace H : (if t160 = true then (if a4 < 0 then (spec_TalkAll.j0 k l0 a1 l2 l3 a4 true) else (spec_TalkAll.j0 k l0 a1 l2 l3 a4 (decide (a4 > 400)))) else (spec_TalkAll.j0 k l0 a1 l2 l3 a4 true)) = some (r1, r2, r3, r4, r5) := H
            have A13 := Aside0.mk A130
            clear A130
            by_cases c14 : t160 = true
            · subst c14
              have H1 : (if a4 < 0 then (spec_TalkAll.j0 k l0 a1 l2 l3 a4 true) else (spec_TalkAll.j0 k l0 a1 l2 l3 a4 (decide (a4 > 400)))) = some (r1, r2, r3, r4, r5) := by rw [if_pos rfl] at H; exact H
              clear H
              have H := H1
              clear H1
              by_cases c15 : a4 < 0
              · rw [if_pos c15] at H
                have c15b0 : decide (a4 < 0) = true := decide_eq_true c15
                clear c15
                have H' := Aside0.mk H
                clear H
                go_wp2_with (first | (go_at_call 62; (with_reducible refine (spec_l24Fates.calls k _ _ l2 true _ ?side1 ?side2 A11.out).mono ?_); (case side1 => repeat (first | exact (Kd.C_below HR2.out HB.out) | (with_reducible refine Kd.C_alloc ?_ _) | (with_reducible refine Kd.C_drewN ?_ _) | (with_reducible refine Kd.C_drew ?_))); (case side2 => exact HC2.out); rintro e w' ⟨rfl, ⟨nd, rfl⟩⟩) | (go_at_call 62; (with_reducible refine (spec_l24Fates.calls k _ _ l3 true _ ?side1 ?side2 A13.out).mono ?_); (case side1 => repeat (first | exact (Kd.C_below HR3.out (by repeat (first | (with_reducible first | exact HB.out | apply below_alloc | apply pw_below_drewN | apply below_drew1 | refine below_set ?_ GE158.out) | exact HB.out))) | (with_reducible refine Kd.C_alloc ?_ _) | (with_reducible refine Kd.C_drewN ?_ _) | (with_reducible refine Kd.C_drew ?_))); (case side2 => exact HC3.out); rintro e w' ⟨rfl, ⟨nd, rfl⟩⟩))
                go_meet
                case rel => exact ⟨_, (true), (by first | rfl | (simp; done) | (simp [*]; done)), H', ⟨by first | omega | exact Nat.le_refl _⟩, ⟨by (with_reducible repeat (first | apply Kd.V_alloc | apply Kd.V_drewN | apply Kd.V_drew)); exact HO0.out⟩, ⟨by exact BK158.out⟩, ⟨by repeat (first | (with_reducible first | exact HB.out | apply below_alloc | apply pw_below_drewN | apply below_drew1 | refine below_set ?_ GE158.out) | exact HB.out)⟩⟩
              · rw [if_neg c15] at H
                have c15b0 : decide (a4 < 0) = false := decide_eq_false c15
                clear c15
                have H' := Aside0.mk H
                clear H
                go_wp2_with (first | (go_at_call 62; (with_reducible refine (spec_l24Fates.calls k _ _ l2 true _ ?side1 ?side2 A11.out).mono ?_); (case side1 => repeat (first | exact (Kd.C_below HR2.out HB.out) | (with_reducible refine Kd.C_alloc ?_ _) | (with_reducible refine Kd.C_drewN ?_ _) | (with_reducible refine Kd.C_drew ?_))); (case side2 => exact HC2.out); rintro e w' ⟨rfl, ⟨nd, rfl⟩⟩) | (go_at_call 62; (with_reducible refine (spec_l24Fates.calls k _ _ l3 true _ ?side1 ?side2 A13.out).mono ?_); (case side1 => repeat (first | exact (Kd.C_below HR3.out (by repeat (first | (with_reducible first | exact HB.out | apply below_alloc | apply pw_below_drewN | apply below_drew1 | refine below_set ?_ GE158.out) | exact HB.out))) | (with_reducible refine Kd.C_alloc ?_ _) | (with_reducible refine Kd.C_drewN ?_ _) | (with_reducible refine Kd.C_drew ?_))); (case side2 => exact HC3.out); rintro e w' ⟨rfl, ⟨nd, rfl⟩⟩))
                go_meet
                case rel => exact ⟨_, (decide (a4 > 400)), (by first | rfl | (simp; done) | (simp [*]; done)), H', ⟨by first | omega | exact Nat.le_refl _⟩, ⟨by (with_reducible repeat (first | apply Kd.V_alloc | apply Kd.V_drewN | apply Kd.V_drew)); exact HO0.out⟩, ⟨by exact BK158.out⟩, ⟨by repeat (first | (with_reducible first | exact HB.out | apply below_alloc | apply pw_below_drewN | apply below_drew1 | refine below_set ?_ GE158.out) | exact HB.out)⟩⟩
            · replace c14 := Bool.eq_false_iff.mpr c14
              subst c14
              have H1 : (spec_TalkAll.j0 k l0 a1 l2 l3 a4 true) = some (r1, r2, r3, r4, r5) := by rw [if_neg (show ¬ (false = true) by decide)] at H; exact H
              clear H
              have H := H1
              clear H1
              have H' := Aside0.mk H
              clear H
              go_wp2_with (first | (go_at_call 62; (with_reducible refine (spec_l24Fates.calls k _ _ l2 true _ ?side1 ?side2 A11.out).mono ?_); (case side1 => repeat (first | exact (Kd.C_below HR2.out HB.out) | (with_reducible refine Kd.C_alloc ?_ _) | (with_reducible refine Kd.C_drewN ?_ _) | (with_reducible refine Kd.C_drew ?_))); (case side2 => exact HC2.out); rintro e w' ⟨rfl, ⟨nd, rfl⟩⟩) | (go_at_call 62; (with_reducible refine (spec_l24Fates.calls k _ _ l3 false _ ?side1 ?side2 A13.out).mono ?_); (case side1 => repeat (first | exact (Kd.C_below HR3.out (by repeat (first | (with_reducible first | exact HB.out | apply below_alloc | apply pw_below_drewN | apply below_drew1 | refine below_set ?_ GE158.out) | exact HB.out))) | (with_reducible refine Kd.C_alloc ?_ _) | (with_reducible refine Kd.C_drewN ?_ _) | (with_reducible refine Kd.C_drew ?_))); (case side2 => exact HC3.out); rintro e w' ⟨rfl, ⟨nd, rfl⟩⟩))
              go_meet
              case rel => exact ⟨_, (true), (by first | rfl | (simp; done) | (simp [*]; done)), H', ⟨by first | omega | exact Nat.le_refl _⟩, ⟨by (with_reducible repeat (first | apply Kd.V_alloc | apply Kd.V_drewN | apply Kd.V_drew)); exact HO0.out⟩, ⟨by exact BK158.out⟩, ⟨by repeat (first | (with_reducible first | exact HB.out | apply below_alloc | apply pw_below_drewN | apply below_drew1 | refine below_set ?_ GE158.out) | exact HB.out)⟩⟩
          · replace c12 := Bool.eq_false_iff.mpr c12
            subst c12
            have H1 : (spec_TalkAll.j0 k l0 a1 l2 l3 a4 true) = some (r1, r2, r3, r4, r5) := by rw [if_neg (show ¬ (false = true) by decide)] at H; exact H
            clear H
            have H := H1
            clear H1
            have H' := Aside0.mk H
            clear H
            go_wp2_with (first | (go_at_call 62; (with_reducible refine (spec_l24Fates.calls k _ _ l2 false _ ?side1 ?side2 A11.out).mono ?_); (case side1 => repeat (first | exact (Kd.C_below HR2.out HB.out) | (with_reducible refine Kd.C_alloc ?_ _) | (with_reducible refine Kd.C_drewN ?_ _) | (with_reducible refine Kd.C_drew ?_))); (case side2 => exact HC2.out); rintro e w' ⟨rfl, ⟨nd, rfl⟩⟩))
            go_meet
            case rel => exact ⟨_, (true), (by first | rfl | (simp; done) | (simp [*]; done)), H', ⟨by first | omega | exact Nat.le_refl _⟩, ⟨by (with_reducible repeat (first | apply Kd.V_alloc | apply Kd.V_drewN | apply Kd.V_drew)); exact HO0.out⟩, ⟨by exact BK158.out⟩, ⟨by repeat (first | (with_reducible first | exact HB.out | apply below_alloc | apply pw_below_drewN | apply below_drew1 | refine below_set ?_ GE158.out) | exact HB.out)⟩⟩
  case rest =>
    clear HC6
    try clear c1
    try clear c2
    try clear p2
    try clear c3
    try clear c4
    try clear c8
    try clear c8b0
    try clear c8b1
    try clear c9
    try clear c9b0
    try clear c10
    try clear c10b0
    try clear c12
    try clear c14
    try clear c15
    try clear c15b0
    obtain ⟨kq, x49_5, rfl, HA, HJ5, HO_0, BK158, HB⟩ := hcut
    cases kq with
    | zero => exact absurd HA.out (by simp [spec_TalkAll.j0])
    | succ kj5 =>
      have H := HA.out
      clear HA
      simp only [spec_TalkAll.j0] at H
      by_cases c16 : x49_5 = true
      · subst c16
        have H1 : (some (([] : List Int), 0, 0, false, false)) = some (r1, r2, r3, r4, r5) := by rw [if_pos rfl] at H; exact H
        clear H
        have H := H1
        clear H1
        simp only [Option.some.injEq, Prod.mk.injEq] at H
        obtain ⟨rfl, rfl, rfl, rfl, rfl⟩ := H
        have hcz17_0 : wc.cell? ⟨gb158, 0, none⟩ = some (.slice none 0 0) := (blk_cell BK158.out 0).trans rfl
        have hcz17_1 : wc.cell? ⟨gb158, 1, none⟩ = some (.int .i64 0) := (blk_cell BK158.out 1).trans rfl
        have hcz17_2 : wc.cell? ⟨gb158, 2, none⟩ = some (.int .i64 0) := (blk_cell BK158.out 2).trans rfl
        have hcz17_3 : wc.cell? ⟨gb158, 3, none⟩ = some (.bool false) := (blk_cell BK158.out 3).trans rfl
        have hfz17_0 := blk_frozen BK158.out 0
        have hfz17_1 := blk_frozen BK158.out 1
        have hfz17_2 := blk_frozen BK158.out 2
        have hfz17_3 := blk_frozen BK158.out 3
        go_wp2
        refine bodyPost_ret (results_ct rfl _ _ gb158 69 #[.slice none 0 0, .int .i64 0, .int .i64 0, .bool false] (0, 0) _ rfl (by refine blk_put (cs := #[.slice none 0 0, .int .i64 0, .int .i64 0, .bool false]) ?_ 3 _ rfl; refine blk_put (cs := #[.slice none 0 0, .int .i64 0, .int .i64 0, .bool false]) ?_ 2 _ rfl; refine blk_put (cs := #[.slice none 0 0, .int .i64 0, .int .i64 0, .bool false]) ?_ 1 _ rfl; refine blk_put (cs := #[.slice none 0 0, .int .i64 0, .int .i64 0, .bool false]) ?_ 0 _ rfl; exact BK158.out) Try.underlying69 rfl (by kernel_rfl)) rfl ?_
        exact ⟨_, by first | rfl | (simp [errW_none, errW_some] <;> rfl) | (simp [*, errW_none, errW_some] <;> rfl), by first | exact Kd.R_nil _ _ _ _ _ | exact Kd.N_nil _ _ _ _ _ | exact Kd.V_nil _ _ _ _ _ | exact Kd.Q_nil _ _ _ _ _ | exact Kd.S_nil _ _ _ _ _, by repeat (first | (with_reducible first | exact HB.out | apply below_alloc | apply pw_below_drewN | apply below_drew1 | refine below_set ?_ GE158.out) | exact HB.out)⟩
      · replace c16 := Bool.eq_false_iff.mpr c16
        subst c16
        have H1 : (spec_TalkAll.l0 kj5 l0 a1 l2 l3 a4 ([] : List (S54)) 0 l0 0 0 ([] : List Int) 0 0 false) = some (r1, r2, r3, r4, r5) := by rw [if_neg (show ¬ (false = true) by decide)] at H; exact H
        clear H
        have H := H1
        clear H1
        have H' := Aside0.mk H
        clear H
        go_wp2_with (first | ((with_reducible refine gate_dst (N := 12) rfl ?_); refine box_event ?hg (N := 12) ?hd (cs := #[.slice none 0 0, .int .i64 0, .int .i64 0]) (t := 55) ?hr ?_; (case hd => rfl); (case hg => rfl); (case hr => first | (go_simp; done) | (go_simp; rfl)); intro gb161 hg w18 hbox hb; have n0_ := Aside0.mk (Kd.V_below (Kd.V_elderB (by (with_reducible repeat (first | apply Kd.V_alloc | apply Kd.V_drewN | apply Kd.V_drew)); exact HO_0.out) gb161 (Nat.le_of_eq hg.symm)) hb); have n1_ := Aside0.mk (blk_below (g := gb158) (o := .cells #[.slice none 0 0, .int .i64 0, .int .i64 0, .bool false] 69 (0, 0)) BK158.out hb); have n2_ := Aside0.mk (below_step (by repeat (first | (with_reducible first | exact HB.out | apply below_alloc | apply pw_below_drewN | apply below_drew1 | refine below_set ?_ GE158.out) | exact HB.out)) hb); have n3_ := Aside0.mk (hbox); have n4_ := Aside0.mk ((by rw [hg]; exact (below_size (by repeat (first | (with_reducible first | exact HB.out | apply below_alloc | apply pw_below_drewN | apply below_drew1 | refine below_set ?_ GE158.out) | exact HB.out))) : w.heap.size ≤ gb161)); have n5_ := Aside0.mk ((by rw [hg]; exact (below_size (by repeat (first | (with_reducible first | exact HB.out | apply below_alloc | apply pw_below_drewN | apply below_drew1 | refine below_set ?_ GE158.out) | exact HB.out))) : w.heap.size ≤ gb161)); have n6_ := Aside0.mk ((by rw [hg]; exact Nat.ne_of_lt (blk_lt (g := gb158) (o := .cells #[.slice none 0 0, .int .i64 0, .int .i64 0, .bool false] 69 (0, 0)) BK158.out) : gb158 ≠ gb161)); have n7_ := Aside0.mk ((by rw [hg]; exact Nat.ne_of_gt (blk_lt (g := gb158) (o := .cells #[.slice none 0 0, .int .i64 0, .int .i64 0, .bool false] 69 (0, 0)) BK158.out) : gb161 ≠ gb158)); clear HO_0; clear BK158; clear HB; have HO_0 := n0_; have BK158 := n1_; have HB := n2_; have BK161 := n3_; have GW161 := n4_; have GE161 := n5_; have NB158_161 := n6_; have NB161_158 := n7_; clear n0_ n1_ n2_ n3_ n4_ n5_ n6_ n7_; clear hb hbox hg; have hnb19 := NB161_158.out; have hnc19 := NB158_161.out; have hcz20_0 : w18.cell? ⟨gb161, 0, none⟩ = some (.slice none 0 0) := (blk_cell BK161.out 0).trans rfl; have hcz20_1 : w18.cell? ⟨gb161, 1, none⟩ = some (.int .i64 0) := (blk_cell BK161.out 1).trans rfl; have hcz20_2 : w18.cell? ⟨gb161, 2, none⟩ = some (.int .i64 0) := (blk_cell BK161.out 2).trans rfl; have hfz20_0 := blk_frozen BK161.out 0; have hfz20_1 := blk_frozen BK161.out 1; have hfz20_2 := blk_frozen BK161.out 2) | ((with_reducible refine gate_dst (N := 13) rfl ?_); refine box_event ?hg (N := 13) ?hd (cs := #[.slice none 0 0, .int .i64 0, .int .i64 0, .bool false]) (t := 69) ?hr ?_; (case hd => rfl); (case hg => rfl); (case hr => first | (go_simp; done) | (go_simp; rfl)); intro gb162 hg w21 hbox hb; have n0_ := Aside0.mk (Kd.V_below (Kd.V_elderB (by (with_reducible repeat (first | apply Kd.V_alloc | apply Kd.V_drewN | apply Kd.V_drew)); exact (Kd.V_mono (Kd.V_far (p := ⟨gb161, 2, none⟩) (Kd.V_far (p := ⟨gb161, 1, none⟩) (Kd.V_far (p := ⟨gb161, 0, none⟩) (Kd.V_mono HO_0.out (fun k_ hk => (⟨hk, hk.2⟩ : _ ∧ k_ ≠ gb161))) (fun _ hk => hk.2) (.slice A0 l0.length c0)) (fun _ hk => hk.2) (.int .i64 0)) (fun _ hk => hk.2) (.int .i64 0)) (fun _ h_ => h_.1))) gb162 (Nat.le_of_eq hg.symm)) hb); have n1_ := Aside0.mk (blk_below (g := gb158) (o := .cells #[.slice none 0 0, .int .i64 0, .int .i64 0, .bool false] 69 (0, 0)) (by refine blk_far ?_ NB158_161.out _; refine blk_far ?_ NB158_161.out _; refine blk_far ?_ NB158_161.out _; exact BK158.out) hb); have n2_ := Aside0.mk (blk_below (g := gb161) (o := .cells #[.slice A0 l0.length c0, .int .i64 0, .int .i64 0] 55 (0, 0)) (by refine blk_put (cs := #[.slice A0 l0.length c0, .int .i64 0, .int .i64 0]) ?_ 2 _ rfl; refine blk_put (cs := #[.slice A0 l0.length c0, .int .i64 0, .int .i64 0]) ?_ 1 _ rfl; refine blk_put (cs := #[.slice none 0 0, .int .i64 0, .int .i64 0]) ?_ 0 _ rfl; exact BK161.out) hb); have n3_ := Aside0.mk (below_step (by repeat (first | (with_reducible first | exact HB.out | apply below_alloc | apply pw_below_drewN | apply below_drew1 | refine below_set ?_ GE158.out | refine below_set ?_ GE161.out) | exact HB.out)) hb); have n4_ := Aside0.mk (hbox); have n5_ := Aside0.mk ((by rw [hg]; exact (below_size (by repeat (first | (with_reducible first | exact HB.out | apply below_alloc | apply pw_below_drewN | apply below_drew1 | refine below_set ?_ GE158.out | refine below_set ?_ GE161.out) | exact HB.out))) : w.heap.size ≤ gb162)); have n6_ := Aside0.mk ((by rw [hg]; exact (below_size (by repeat (first | (with_reducible first | exact HB.out | apply below_alloc | apply pw_below_drewN | apply below_drew1 | refine below_set ?_ GE158.out | refine below_set ?_ GE161.out) | exact HB.out))) : w.heap.size ≤ gb162)); have n7_ := Aside0.mk ((by rw [hg]; exact Nat.ne_of_lt (blk_lt (g := gb158) (o := .cells #[.slice none 0 0, .int .i64 0, .int .i64 0, .bool false] 69 (0, 0)) (by refine blk_far ?_ NB158_161.out _; refine blk_far ?_ NB158_161.out _; refine blk_far ?_ NB158_161.out _; exact BK158.out)) : gb158 ≠ gb162)); have n8_ := Aside0.mk ((by rw [hg]; exact Nat.ne_of_gt (blk_lt (g := gb158) (o := .cells #[.slice none 0 0, .int .i64 0, .int .i64 0, .bool false] 69 (0, 0)) (by refine blk_far ?_ NB158_161.out _; refine blk_far ?_ NB158_161.out _; refine blk_far ?_ NB158_161.out _; exact BK158.out)) : gb162 ≠ gb158)); have n9_ := Aside0.mk ((by rw [hg]; exact Nat.ne_of_lt (blk_lt (g := gb161) (o := .cells #[.slice A0 l0.length c0, .int .i64 0, .int .i64 0] 55 (0, 0)) (by refine blk_put (cs := #[.slice A0 l0.length c0, .int .i64 0, .int .i64 0]) ?_ 2 _ rfl; refine blk_put (cs := #[.slice A0 l0.length c0, .int .i64 0, .int .i64 0]) ?_ 1 _ rfl; refine blk_put (cs := #[.slice none 0 0, .int .i64 0, .int .i64 0]) ?_ 0 _ rfl; exact BK161.out)) : gb161 ≠ gb162)); have n10_ := Aside0.mk ((by rw [hg]; exact Nat.ne_of_gt (blk_lt (g := gb161) (o := .cells #[.slice A0 l0.length c0, .int .i64 0, .int .i64 0] 55 (0, 0)) (by refine blk_put (cs := #[.slice A0 l0.length c0, .int .i64 0, .int .i64 0]) ?_ 2 _ rfl; refine blk_put (cs := #[.slice A0 l0.length c0, .int .i64 0, .int .i64 0]) ?_ 1 _ rfl; refine blk_put (cs := #[.slice none 0 0, .int .i64 0, .int .i64 0]) ?_ 0 _ rfl; exact BK161.out)) : gb162 ≠ gb161)); clear HO_0; clear BK158; clear BK161; clear HB; have HO_0 := n0_; have BK158 := n1_; have BK161 := n2_; have HB := n3_; have BK162 := n4_; have GW162 := n5_; have GE162 := n6_; have NB158_162 := n7_; have NB162_158 := n8_; have NB161_162 := n9_; have NB162_161 := n10_; clear n0_ n1_ n2_ n3_ n4_ n5_ n6_ n7_ n8_ n9_ n10_; clear hb hbox hg; have hnb22 := NB162_158.out; have hnc22 := NB158_162.out; have hnb23 := NB162_161.out; have hnc23 := NB161_162.out; have hcz24_0 : w21.cell? ⟨gb162, 0, none⟩ = some (.slice none 0 0) := (blk_cell BK162.out 0).trans rfl; have hcz24_1 : w21.cell? ⟨gb162, 1, none⟩ = some (.int .i64 0) := (blk_cell BK162.out 1).trans rfl; have hcz24_2 : w21.cell? ⟨gb162, 2, none⟩ = some (.int .i64 0) := (blk_cell BK162.out 2).trans rfl; have hcz24_3 : w21.cell? ⟨gb162, 3, none⟩ = some (.bool false) := (blk_cell BK162.out 3).trans rfl; have hfz24_0 := blk_frozen BK162.out 0; have hfz24_1 := blk_frozen BK162.out 1; have hfz24_2 := blk_frozen BK162.out 2; have hfz24_3 := blk_frozen BK162.out 3))
        go_loopg [14, 15] kj5 (fun kq v14 v15 w' => ∃ (x14_2 : List (S54)) (x15_2 : Int) (x162000_2 : List Int) (x162001_2 : Int) (x162002_2 : Int) (x163000_2 : List Int) (x163001_2 : Int) (x163002_2 : Int) (u162000 : Value) (u163000 : Value), v15 = .int .i64 x15_2 ∧ Aside0 (spec_TalkAll.l0 kq l0 a1 l2 l3 a4 x14_2 x15_2 x162000_2 x162001_2 x162002_2 x163000_2 x163001_2 x163002_2 false = some (r1, r2, r3, r4, r5)) ∧ Aside0 (kq ≤ kj5) ∧ Aside0 (Kd.V (Kd.int .i64) 3 w' w.heap.size (fun k_ => (P0_ k_ ∨ w.heap.size ≤ k_) ∧ some k_ ≠ (v14 : Value).ownBlock ∧ some k_ ≠ (u163000 : Value).ownBlock ∧ k_ ≠ gb158 ∧ k_ ≠ gb161 ∧ k_ ≠ gb162) (.slice A0 l0.length c0) l0) ∧ Aside0 (Kd.R k54 54 w' w.heap.size (fun k_ => (w.heap.size ≤ k_)) v14 x14_2) ∧ Aside0 (Kd.V (Kd.int .i64) 3 w' w.heap.size (fun k_ => (P0_ k_ ∨ w.heap.size ≤ k_) ∧ some k_ ≠ (v14 : Value).ownBlock ∧ some k_ ≠ (u163000 : Value).ownBlock ∧ k_ ≠ gb158 ∧ k_ ≠ gb161 ∧ k_ ≠ gb162) u162000 x162000_2) ∧ Aside0 (Kd.R (Kd.int .i64) 3 w' w.heap.size (fun k_ => (w.heap.size ≤ k_)) u163000 x163000_2) ∧ Aside0 (w'.heap[gb158]? = some (.cells #[(.slice none 0 0), .int .i64 0, .int .i64 0, .bool false] 69 (0, 0))) ∧ Aside0 (w'.heap[gb161]? = some (.cells #[u162000, .int .i64 x162001_2, .int .i64 x162002_2] 55 (0, 0))) ∧ Aside0 (w'.heap[gb162]? = some (.cells #[u163000, .int .i64 x163001_2, .int .i64 x163002_2, .bool false] 69 (0, 0))) ∧ Aside0 (Below w.heap.size w w'))
        case atStart => exact ⟨(([] : List (S54))), (0), (l0), (0), (0), (([] : List Int)), (0), (0), (.slice A0 l0.length c0), (.slice none 0 0), (by first | rfl | (simp; done) | (simp [*]; done)), H', ⟨Nat.le_refl _⟩, ⟨by (with_reducible repeat (first | apply Kd.V_alloc | apply Kd.V_drewN | apply Kd.V_drew)); exact Kd.V_mono (Kd.V_far (p := ⟨gb162, 3, none⟩) (Kd.V_far (p := ⟨gb162, 2, none⟩) (Kd.V_far (p := ⟨gb162, 1, none⟩) (Kd.V_far (p := ⟨gb162, 0, none⟩) (Kd.V_mono HO_0.out (fun k_ hk => (⟨hk, hk.2⟩ : _ ∧ k_ ≠ gb162))) (fun _ hk => hk.2) (.slice none 0 0)) (fun _ hk => hk.2) (.int .i64 0)) (fun _ hk => hk.2) (.int .i64 0)) (fun _ hk => hk.2) (.bool false)) (fun _ hk => ⟨hk.1.1.1.1, ⟨(by simp [Value.ownBlock]), ⟨(by simp [Value.ownBlock]), ⟨hk.1.1.1.2, ⟨hk.1.1.2, hk.1.2⟩⟩⟩⟩⟩)⟩, ⟨by first | exact Kd.R_nil _ _ _ _ _ | exact Kd.N_nil _ _ _ _ _ | exact Kd.V_nil _ _ _ _ _ | exact Kd.Q_nil _ _ _ _ _ | exact Kd.S_nil _ _ _ _ _⟩, ⟨by (with_reducible repeat (first | apply Kd.V_alloc | apply Kd.V_drewN | apply Kd.V_drew)); exact Kd.V_mono (Kd.V_far (p := ⟨gb162, 3, none⟩) (Kd.V_far (p := ⟨gb162, 2, none⟩) (Kd.V_far (p := ⟨gb162, 1, none⟩) (Kd.V_far (p := ⟨gb162, 0, none⟩) (Kd.V_mono HO_0.out (fun k_ hk => (⟨hk, hk.2⟩ : _ ∧ k_ ≠ gb162))) (fun _ hk => hk.2) (.slice none 0 0)) (fun _ hk => hk.2) (.int .i64 0)) (fun _ hk => hk.2) (.int .i64 0)) (fun _ hk => hk.2) (.bool false)) (fun _ hk => ⟨hk.1.1.1.1, ⟨(by simp [Value.ownBlock]), ⟨(by simp [Value.ownBlock]), ⟨hk.1.1.1.2, ⟨hk.1.1.2, hk.1.2⟩⟩⟩⟩⟩)⟩, ⟨by first | exact Kd.R_nil _ _ _ _ _ | exact Kd.N_nil _ _ _ _ _ | exact Kd.V_nil _ _ _ _ _ | exact Kd.Q_nil _ _ _ _ _ | exact Kd.S_nil _ _ _ _ _⟩, ⟨by refine blk_far ?_ NB158_162.out _; refine blk_far ?_ NB158_162.out _; refine blk_far ?_ NB158_162.out _; refine blk_far ?_ NB158_162.out _; exact BK158.out⟩, ⟨by refine blk_far ?_ NB161_162.out _; refine blk_far ?_ NB161_162.out _; refine blk_far ?_ NB161_162.out _; refine blk_far ?_ NB161_162.out _; exact BK161.out⟩, ⟨by refine blk_put (cs := #[.slice none 0 0, .int .i64 0, .int .i64 0, .bool false]) ?_ 3 _ rfl; refine blk_put (cs := #[.slice none 0 0, .int .i64 0, .int .i64 0, .bool false]) ?_ 2 _ rfl; refine blk_put (cs := #[.slice none 0 0, .int .i64 0, .int .i64 0, .bool false]) ?_ 1 _ rfl; refine blk_put (cs := #[.slice none 0 0, .int .i64 0, .int .i64 0, .bool false]) ?_ 0 _ rfl; exact BK162.out⟩, ⟨by repeat (first | (with_reducible first | exact HB.out | apply below_alloc | apply pw_below_drewN | apply below_drew1 | refine below_set ?_ GE158.out | refine below_set ?_ GE161.out | refine below_set ?_ GE162.out) | exact HB.out)⟩⟩
        case round =>
          clear H'
          try clear c1
          try clear c2
          try clear p2
          try clear c3
          try clear c4
          try clear c8
          try clear c8b0
          try clear c8b1
          try clear c9
          try clear c9b0
          try clear c10
          try clear c10b0
          try clear c12
          try clear c14
          try clear c15
          try clear c15b0
          try clear c16
          try clear c19
          try clear c22
          try clear c23
          try clear hcz17_0
          try clear hcz17_1
          try clear hcz17_2
          try clear hcz17_3
          try clear hcz20_0
          try clear hcz20_1
          try clear hcz20_2
          try clear hcz24_0
          try clear hcz24_1
          try clear hcz24_2
          try clear hcz24_3
          try clear hfz17_0
          try clear hfz17_1
          try clear hfz17_2
          try clear hfz17_3
          try clear hfz20_0
          try clear hfz20_1
          try clear hfz20_2
          try clear hfz24_0
          try clear hfz24_1
          try clear hfz24_2
          try clear hfz24_3
          try clear p2
          obtain ⟨x14_2, x15_2, x162000_2, x162001_2, x162002_2, x163000_2, x163001_2, x163002_2, u162000, u163000, rfl, HA, HK2, HO_0, HO_14, HO_162000, HO_163000, BK158, BK161, BK162, HB⟩ := hrel
          cases gk with
          | zero => exact absurd HA.out (by simp [spec_TalkAll.l0])
          | succ k2 =>
            have H := HA.out
            clear HA
            simp only [spec_TalkAll.l0] at H
            by_cases c25 : x163002_2 < a4
            · rw [if_pos c25] at H
              have c25b0 : decide (x163002_2 < a4) = true := decide_eq_true c25
              clear c25
              have HC26 := Aside0.mk H
              clear H
              have hnb27 := NB162_158.out
              have hnc27 := NB158_162.out
              have hnb28 := NB162_161.out
              have hnc28 := NB161_162.out
              have hcz29_0 : wr.cell? ⟨gb162, 0, none⟩ = some (u163000) := (blk_cell BK162.out 0).trans rfl
              have hcz29_1 : wr.cell? ⟨gb162, 1, none⟩ = some (.int .i64 x163001_2) := (blk_cell BK162.out 1).trans rfl
              have hcz29_2 : wr.cell? ⟨gb162, 2, none⟩ = some (.int .i64 x163002_2) := (blk_cell BK162.out 2).trans rfl
              have hcz29_3 : wr.cell? ⟨gb162, 3, none⟩ = some (.bool false) := (blk_cell BK162.out 3).trans rfl
              have hfz29_0 := blk_frozen BK162.out 0
              have hfz29_1 := blk_frozen BK162.out 1
              have hfz29_2 := blk_frozen BK162.out 2
              have hfz29_3 := blk_frozen BK162.out 3
              have hnb30 := NB161_158.out
              have hnc30 := NB158_161.out
              have hcz31_0 : wr.cell? ⟨gb161, 0, none⟩ = some (u162000) := (blk_cell BK161.out 0).trans rfl
              have hcz31_1 : wr.cell? ⟨gb161, 1, none⟩ = some (.int .i64 x162001_2) := (blk_cell BK161.out 1).trans rfl
              have hcz31_2 : wr.cell? ⟨gb161, 2, none⟩ = some (.int .i64 x162002_2) := (blk_cell BK161.out 2).trans rfl
              have hfz31_0 := blk_frozen BK161.out 0
              have hfz31_1 := blk_frozen BK161.out 1
              have hfz31_2 := blk_frozen BK161.out 2
              go_upto_if 61 with (fail)
              go_cut [] (fun wc => ∃ (kq : Nat) (x162001_25 : Int), Aside0 (spec_TalkAll.j2 kq l0 a1 l2 l3 a4 x14_2 x162000_2 x162001_25 x162002_2 x163000_2 x163001_2 x163002_2 false = some (r1, r2, r3, r4, r5)) ∧ Aside0 (kq ≤ k2) ∧ Aside0 (Kd.V (Kd.int .i64) 3 wc w.heap.size (fun k_ => (P0_ k_ ∨ w.heap.size ≤ k_) ∧ some k_ ≠ (u14 : Value).ownBlock ∧ some k_ ≠ (u163000 : Value).ownBlock ∧ k_ ≠ gb158 ∧ k_ ≠ gb161 ∧ k_ ≠ gb162) (.slice A0 l0.length c0) l0) ∧ Aside0 (Kd.R k54 54 wc w.heap.size (fun k_ => (w.heap.size ≤ k_)) u14 x14_2) ∧ Aside0 (Kd.V (Kd.int .i64) 3 wc w.heap.size (fun k_ => (P0_ k_ ∨ w.heap.size ≤ k_) ∧ some k_ ≠ (u14 : Value).ownBlock ∧ some k_ ≠ (u163000 : Value).ownBlock ∧ k_ ≠ gb158 ∧ k_ ≠ gb161 ∧ k_ ≠ gb162) u162000 x162000_2) ∧ Aside0 (Kd.R (Kd.int .i64) 3 wc w.heap.size (fun k_ => (w.heap.size ≤ k_)) u163000 x163000_2) ∧ Aside0 (wc.heap[gb158]? = some (.cells #[(.slice none 0 0), .int .i64 0, .int .i64 0, .bool false] 69 (0, 0))) ∧ Aside0 (wc.heap[gb161]? = some (.cells #[u162000, .int .i64 x162001_25, .int .i64 x162002_2] 55 (0, 0))) ∧ Aside0 (wc.heap[gb162]? = some (.cells #[u163000, .int .i64 x163001_2, .int .i64 x163002_2, .bool false] 69 (0, 0))) ∧ Aside0 (Below w.heap.size w wc))
              case first =>
                have H := HC26.out
                clear HC26
                by_cases c32 : x15_2 > x162001_2
                · rw [if_pos c32] at H
                  have c32b0 : decide (x162001_2 < x15_2) = true := decide_eq_true c32
                  clear c32
                  (first | rw [c32b0] | (simp only [i64_w, i32_w]; rw [c32b0]) | skip)
                  have H' := Aside0.mk H
                  clear H
                  have hnb33 := NB161_158.out
                  have hnc33 := NB158_161.out
                  have hnb34 := NB161_162.out
                  have hnc34 := NB162_161.out
                  have hcz35_0 : wr.cell? ⟨gb161, 0, none⟩ = some (u162000) := (blk_cell BK161.out 0).trans rfl
                  have hcz35_1 : wr.cell? ⟨gb161, 1, none⟩ = some (.int .i64 x162001_2) := (blk_cell BK161.out 1).trans rfl
                  have hcz35_2 : wr.cell? ⟨gb161, 2, none⟩ = some (.int .i64 x162002_2) := (blk_cell BK161.out 2).trans rfl
                  have hfz35_0 := blk_frozen BK161.out 0
                  have hfz35_1 := blk_frozen BK161.out 1
                  have hfz35_2 := blk_frozen BK161.out 2
                  go_wp2
                  go_meet
                  case rel => exact ⟨_, (x15_2), H', ⟨by have := HJ5.out; have := HK2.out; first | omega | exact Nat.le_refl _⟩, ⟨by (with_reducible repeat (first | apply Kd.V_alloc | apply Kd.V_drewN | apply Kd.V_drew)); exact Kd.V_mono (Kd.V_far (p := ⟨gb161, 1, none⟩) (Kd.V_mono HO_0.out (fun k_ hk => (⟨hk, hk.2.2.2.2.1⟩ : _ ∧ k_ ≠ gb161))) (fun _ hk => hk.2) (.int .i64 x15_2)) (fun _ hk => ⟨hk.1.1, ⟨hk.1.2.1, ⟨hk.1.2.2.1, ⟨hk.1.2.2.2.1, ⟨hk.1.2.2.2.2.1, hk.1.2.2.2.2.2⟩⟩⟩⟩⟩)⟩, ⟨by exact Kd.R_mono (Kd.R_far (p := ⟨gb161, 1, none⟩) (Kd.R_types HO_14.out BK161.out (by decide)) (fun _ hk => hk.2) (.int .i64 x15_2)) (fun _ hk => hk.1)⟩, ⟨by (with_reducible repeat (first | apply Kd.V_alloc | apply Kd.V_drewN | apply Kd.V_drew)); exact Kd.V_mono (Kd.V_far (p := ⟨gb161, 1, none⟩) (Kd.V_mono HO_162000.out (fun k_ hk => (⟨hk, hk.2.2.2.2.1⟩ : _ ∧ k_ ≠ gb161))) (fun _ hk => hk.2) (.int .i64 x15_2)) (fun _ hk => ⟨hk.1.1, ⟨hk.1.2.1, ⟨hk.1.2.2.1, ⟨hk.1.2.2.2.1, ⟨hk.1.2.2.2.2.1, hk.1.2.2.2.2.2⟩⟩⟩⟩⟩)⟩, ⟨by exact Kd.R_mono (Kd.R_far (p := ⟨gb161, 1, none⟩) (Kd.R_types HO_163000.out BK161.out (by decide)) (fun _ hk => hk.2) (.int .i64 x15_2)) (fun _ hk => hk.1)⟩, ⟨by refine blk_far ?_ NB158_161.out _; exact BK158.out⟩, ⟨by refine blk_put (cs := #[u162000, .int .i64 x162001_2, .int .i64 x162002_2]) ?_ 1 _ rfl; exact BK161.out⟩, ⟨by refine blk_far ?_ NB162_161.out _; exact BK162.out⟩, ⟨by repeat (first | (with_reducible first | exact HB.out | apply below_alloc | apply pw_below_drewN | apply below_drew1 | refine below_set ?_ GE158.out | refine below_set ?_ GE161.out | refine below_set ?_ GE162.out) | exact HB.out)⟩⟩
                · rw [if_neg c32] at H
                  have c32b0 : decide (x162001_2 < x15_2) = false := decide_eq_false c32
                  clear c32
                  (first | rw [c32b0] | (simp only [i64_w, i32_w]; rw [c32b0]) | skip)
                  have H' := Aside0.mk H
                  clear H
                  go_wp2
                  go_meet
                  case rel => exact ⟨_, (x162001_2), H', ⟨by have := HJ5.out; have := HK2.out; first | omega | exact Nat.le_refl _⟩, ⟨by (with_reducible repeat (first | apply Kd.V_alloc | apply Kd.V_drewN | apply Kd.V_drew)); exact HO_0.out⟩, ⟨by exact HO_14.out⟩, ⟨by (with_reducible repeat (first | apply Kd.V_alloc | apply Kd.V_drewN | apply Kd.V_drew)); exact HO_162000.out⟩, ⟨by exact HO_163000.out⟩, ⟨by exact BK158.out⟩, ⟨by exact BK161.out⟩, ⟨by exact BK162.out⟩, ⟨by repeat (first | (with_reducible first | exact HB.out | apply below_alloc | apply pw_below_drewN | apply below_drew1 | refine below_set ?_ GE158.out | refine below_set ?_ GE161.out | refine below_set ?_ GE162.out) | exact HB.out)⟩⟩
              case rest =>
                clear HC26
                try clear c1
                try clear c2
                try clear p2
                try clear c3
                try clear c4
                try clear c8
                try clear c8b0
                try clear c8b1
                try clear c9
                try clear c9b0
                try clear c10
                try clear c10b0
                try clear c12
                try clear c14
                try clear c15
                try clear c15b0
                try clear c16
                try clear c19
                try clear c22
                try clear c23
                try clear c25
                try clear c25b0
                try clear c27
                try clear c28
                try clear c30
                try clear c32
                try clear c32b0
                try clear c33
                try clear c34
                try clear hcz17_0
                try clear hcz17_1
                try clear hcz17_2
                try clear hcz17_3
                try clear hcz20_0
                try clear hcz20_1
                try clear hcz20_2
                try clear hcz24_0
                try clear hcz24_1
                try clear hcz24_2
                try clear hcz24_3
                try clear hcz29_0
                try clear hcz29_1
                try clear hcz29_2
                try clear hcz29_3
                try clear hcz31_0
                try clear hcz31_1
                try clear hcz31_2
                try clear hcz35_0
                try clear hcz35_1
                try clear hcz35_2
                try clear hfz17_0
                try clear hfz17_1
                try clear hfz17_2
                try clear hfz17_3
                try clear hfz20_0
                try clear hfz20_1
                try clear hfz20_2
                try clear hfz24_0
                try clear hfz24_1
                try clear hfz24_2
                try clear hfz24_3
                try clear hfz29_0
                try clear hfz29_1
                try clear hfz29_2
                try clear hfz29_3
                try clear hfz31_0
                try clear hfz31_1
                try clear hfz31_2
                try clear hfz35_0
                try clear hfz35_1
                try clear hfz35_2
                try clear p2
                obtain ⟨kq, x162001_25, HA, HJ25, HO_0, HO_14, HO_162000, HO_163000, BK158, BK161, BK162, HB⟩ := hcut
                cases kq with
                | zero => exact absurd HA.out (by simp [spec_TalkAll.j2])
                | succ kj25 =>
                  have H := HA.out
                  clear HA
                  simp only [spec_TalkAll.j2] at H
                  replace H := Option.bind_eq_some_iff.mp H
                  obtain ⟨⟨t163, t164, t165, t168, t169, t170⟩, A360, H⟩ := H
                  replace H : (if t170 = true then (if (l2.length : Int) = 0 then (none) else (if 0 ≤ (Int.tmod x163001_2 (l2.length : Int)) then (if (Int.tmod x163001_2 (l2.length : Int)) < (l2.length : Int) then (if (rd l2 (Int.tmod x163001_2 (l2.length : Int))) = 0 then (if x14_2.length < 8796093022208 then (spec_TalkAll.j3 kj25 l0 a1 l2 l3 a4 ([] : List (S54)) 0 (x14_2 ++ [(⟨t163, t164⟩ : S54)]) t165 t168 t169 x163000_2 x163001_2 x163002_2 false) else (none)) else (if (rd l2 (Int.tmod x163001_2 (l2.length : Int))) = 2 then (if x14_2.length < 8796093022208 then ((some (x14_2 ++ [(⟨t163, t164⟩ : S54)] : List (S54))).bind fun y177 => (if y177.length < 8796093022208 then (spec_TalkAll.j3 kj25 l0 a1 l2 l3 a4 ([] : List (S54)) 0 (y177 ++ [(⟨t163, t164⟩ : S54)]) t165 t168 t169 x163000_2 x163001_2 x163002_2 false) else (none))) else (none)) else (if (rd l2 (Int.tmod x163001_2 (l2.length : Int))) = 3 then (if ([] : List (S54)).length < 8796093022208 then (spec_TalkAll.j3 kj25 l0 a1 l2 l3 a4 (([] : List (S54)) ++ [(⟨t163, t164⟩ : S54)]) 0 x14_2 t165 t168 t169 x163000_2 x163001_2 x163002_2 false) else (none)) else (spec_TalkAll.j3 kj25 l0 a1 l2 l3 a4 ([] : List (S54)) 0 x14_2 t165 t168 t169 x163000_2 x163001_2 x163002_2 false)))) else (none)) else (none))) else (if 0 > x162001_25 then (some (x163000_2, x163001_2, x163002_2, (0 == (l0.length : Int)), true)) else (some (x163000_2, x163001_2, x163002_2, (x162001_25 == (l0.length : Int)), true)))) = some (r1, r2, r3, r4, r5) := H
                  have A36 := Aside0.mk A360
                  clear A360
                  by_cases c37 : t170 = true
                  · subst c37
                    have H1 : (if (l2.length : Int) = 0 then (none) else (if 0 ≤ (Int.tmod x163001_2 (l2.length : Int)) then (if (Int.tmod x163001_2 (l2.length : Int)) < (l2.length : Int) then (if (rd l2 (Int.tmod x163001_2 (l2.length : Int))) = 0 then (if x14_2.length < 8796093022208 then (spec_TalkAll.j3 kj25 l0 a1 l2 l3 a4 ([] : List (S54)) 0 (x14_2 ++ [(⟨t163, t164⟩ : S54)]) t165 t168 t169 x163000_2 x163001_2 x163002_2 false) else (none)) else (if (rd l2 (Int.tmod x163001_2 (l2.length : Int))) = 2 then (if x14_2.length < 8796093022208 then ((some (x14_2 ++ [(⟨t163, t164⟩ : S54)] : List (S54))).bind fun y177 => (if y177.length < 8796093022208 then (spec_TalkAll.j3 kj25 l0 a1 l2 l3 a4 ([] : List (S54)) 0 (y177 ++ [(⟨t163, t164⟩ : S54)]) t165 t168 t169 x163000_2 x163001_2 x163002_2 false) else (none))) else (none)) else (if (rd l2 (Int.tmod x163001_2 (l2.length : Int))) = 3 then (if ([] : List (S54)).length < 8796093022208 then (spec_TalkAll.j3 kj25 l0 a1 l2 l3 a4 (([] : List (S54)) ++ [(⟨t163, t164⟩ : S54)]) 0 x14_2 t165 t168 t169 x163000_2 x163001_2 x163002_2 false) else (none)) else (spec_TalkAll.j3 kj25 l0 a1 l2 l3 a4 ([] : List (S54)) 0 x14_2 t165 t168 t169 x163000_2 x163001_2 x163002_2 false)))) else (none)) else (none))) = some (r1, r2, r3, r4, r5) := by rw [if_pos rfl] at H; exact H
                    clear H
                    have H := H1
                    clear H1
                    by_cases c38 : (l2.length : Int) = 0
                    · rw [if_pos c38] at H
                      exact absurd H (by simp)
                    · rw [if_neg c38] at H
                      have c38b0 : ((l2.length : Int) == 0) = false := beq_eq_false_iff_ne.mpr c38
                      have c38b1 : ((l2.length : Int) != 0) = true := bne_iff_ne.mpr c38
                      have c38b2 : ¬ (l2 = []) := fun h_ => c38 (by rw [h_]; rfl)
                      obtain ⟨ji39, hji39⟩ : ∃ j_ : Int, (Int.tmod x163001_2 (l2.length : Int)) = j_ := ⟨_, rfl⟩
                      replace H : (if 0 ≤ (ji39) then (if (ji39) < (l2.length : Int) then (if (rd l2 (ji39)) = 0 then (if x14_2.length < 8796093022208 then (spec_TalkAll.j3 kj25 l0 a1 l2 l3 a4 ([] : List (S54)) 0 (x14_2 ++ [(⟨t163, t164⟩ : S54)]) t165 t168 t169 x163000_2 x163001_2 x163002_2 false) else (none)) else (if (rd l2 (ji39)) = 2 then (if x14_2.length < 8796093022208 then ((some (x14_2 ++ [(⟨t163, t164⟩ : S54)] : List (S54))).bind fun y177 => (if y177.length < 8796093022208 then (spec_TalkAll.j3 kj25 l0 a1 l2 l3 a4 ([] : List (S54)) 0 (y177 ++ [(⟨t163, t164⟩ : S54)]) t165 t168 t169 x163000_2 x163001_2 x163002_2 false) else (none))) else (none)) else (if (rd l2 (ji39)) = 3 then (if ([] : List (S54)).length < 8796093022208 then (spec_TalkAll.j3 kj25 l0 a1 l2 l3 a4 (([] : List (S54)) ++ [(⟨t163, t164⟩ : S54)]) 0 x14_2 t165 t168 t169 x163000_2 x163001_2 x163002_2 false) else (none)) else (spec_TalkAll.j3 kj25 l0 a1 l2 l3 a4 ([] : List (S54)) 0 x14_2 t165 t168 t169 x163000_2 x163001_2 x163002_2 false)))) else (none)) else (none)) = some (r1, r2, r3, r4, r5) := by first | (rw [hji39] at H; exact H) | (simp only [hji39] at H ⊢; exact H)
                      (try rw [hji39] at A36)
                      by_cases c40 : 0 ≤ (ji39)
                      · rw [if_pos c40] at H
                        have c40b0 : decide (0 ≤ (ji39)) = true := decide_eq_true c40
                        clear c40
                        by_cases c41 : (ji39) < (l2.length : Int)
                        · rw [if_pos c41] at H
                          have c41b0 : decide ((ji39) < (l2.length : Int)) = true := decide_eq_true c41
                          clear c41
                          have HC42 := Aside0.mk H
                          clear H
                          have hnb43 := NB161_158.out
                          have hnc43 := NB158_161.out
                          have hnb44 := NB161_162.out
                          have hnc44 := NB162_161.out
                          have hcz45_0 : wc.cell? ⟨gb161, 0, none⟩ = some (u162000) := (blk_cell BK161.out 0).trans rfl
                          have hcz45_1 : wc.cell? ⟨gb161, 1, none⟩ = some (.int .i64 x162001_25) := (blk_cell BK161.out 1).trans rfl
                          have hcz45_2 : wc.cell? ⟨gb161, 2, none⟩ = some (.int .i64 x162002_2) := (blk_cell BK161.out 2).trans rfl
                          have hfz45_0 := blk_frozen BK161.out 0
                          have hfz45_1 := blk_frozen BK161.out 1
                          have hfz45_2 := blk_frozen BK161.out 2
                          obtain ⟨Ao46, co46, eo46⟩ := Kd.V_slice HO_162000.out
                          subst eo46
                          go_upto_block 2 with (first | ((with_reducible refine gate_callee (f := 30) rfl ?_); refine goesL_ (some 67) rfl rfl Try.func30 (by kernel_rfl) rfl #[.agg #[.slice Ao46 x162000_2.length co46, .int .i64 x162001_25, .int .i64 x162002_2], .int .i64 a1] rfl (by (try simp only [List.map_toArray, List.map_cons, List.map_nil]); first | done | rfl | (simp only [List.length_drop, List.length_take]; rfl)) ?_; (with_reducible refine (spec_SendNext.calls kj25 _ _ x162000_2 x162001_25 x162002_2 a1 t163 t164 t165 t168 t169 true _ ?side1 ?side2 A36.out).mono ?_); (case side1 => repeat (first | exact (Kd.V_reads' HO_162000.out).2.2 | (with_reducible refine Kd.C_alloc ?_ _) | (with_reducible refine Kd.C_drewN ?_ _) | (with_reducible refine Kd.C_drew ?_))); (case side2 => exact (Kd.V_reads' HO_162000.out).2.1); rintro e w47 ⟨v166, rfl, ho0, hb⟩; refine ⟨_, rfl, ?_⟩; have n0_ := Aside0.mk (Kd.V_elder' (by (with_reducible repeat (first | apply Kd.V_alloc | apply Kd.V_drewN | apply Kd.V_drew)); exact HO_0.out) (Kd.R_base ho0) hb); have n1_ := Aside0.mk (Kd.R_below HO_14.out hb); have n2_ := Aside0.mk (Kd.V_elder' (by (with_reducible repeat (first | apply Kd.V_alloc | apply Kd.V_drewN | apply Kd.V_drew)); exact HO_162000.out) (Kd.R_base ho0) hb); have n3_ := Aside0.mk (Kd.R_elder' HO_163000.out (Kd.R_base ho0) hb); have n4_ := Aside0.mk (Kd.R_lower (Kd.R_new' (Kd.R_newM (M := fun k_ => (w.heap.size ≤ k_)) ho0 (below_size (by repeat (first | (with_reducible first | exact HB.out | apply below_alloc | apply pw_below_drewN | apply below_drew1 | refine below_set ?_ GE158.out | refine below_set ?_ GE161.out | refine below_set ?_ GE162.out) | exact HB.out))) (fun k_ h_ => h_)) (Kd.R_lt HO_163000.out)) (below_size (by repeat (first | (with_reducible first | exact HB.out | apply below_alloc | apply pw_below_drewN | apply below_drew1 | refine below_set ?_ GE158.out | refine below_set ?_ GE161.out | refine below_set ?_ GE162.out) | exact HB.out)))); have n5_ := Aside0.mk (blk_below (g := gb158) (o := .cells #[.slice none 0 0, .int .i64 0, .int .i64 0, .bool false] 69 (0, 0)) BK158.out hb); have n6_ := Aside0.mk (blk_below (g := gb161) (o := .cells #[.slice Ao46 x162000_2.length co46, .int .i64 x162001_25, .int .i64 x162002_2] 55 (0, 0)) BK161.out hb); have n7_ := Aside0.mk (blk_below (g := gb162) (o := .cells #[u163000, .int .i64 x163001_2, .int .i64 x163002_2, .bool false] 69 (0, 0)) BK162.out hb); have n8_ := Aside0.mk (below_step (by repeat (first | (with_reducible first | exact HB.out | apply below_alloc | apply pw_below_drewN | apply below_drew1 | refine below_set ?_ GE158.out | refine below_set ?_ GE161.out | refine below_set ?_ GE162.out) | exact HB.out)) hb); clear HO_0; clear HO_14; clear HO_162000; clear HO_163000; clear BK158; clear BK161; clear BK162; clear HB; have HO_0 := n0_; have HO_14 := n1_; have HO_162000 := n2_; have HO_163000 := n3_; have HO167 := n4_; have BK158 := n5_; have BK161 := n6_; have BK162 := n7_; have HB := n8_; clear n0_ n1_ n2_ n3_ n4_ n5_ n6_ n7_ n8_; (try clear hb); (try clear hb2); (try clear hk); (try clear hi); (try clear ho0)) | ((with_reducible refine gate_dst (N := 16) rfl ?_); refine box_event ?hg (N := 16) ?hd (cs := #[.int .i64 0, .int .i64 0]) (t := 54) ?hr ?_; (case hd => rfl); (case hg => rfl); (case hr => first | (go_simp; done) | (go_simp; rfl)); intro gb171 hg w48 hbox hb; have n0_ := Aside0.mk (Kd.V_below (Kd.V_elderB (by (with_reducible repeat (first | apply Kd.V_alloc | apply Kd.V_drewN | apply Kd.V_drew)); exact HO_0.out) gb171 (Nat.le_of_eq hg.symm)) hb); have n1_ := Aside0.mk (Kd.R_below (Kd.R_elderB HO_14.out gb171 (Nat.le_of_eq hg.symm)) hb); have n2_ := Aside0.mk (Kd.V_below (Kd.V_elderB (by (with_reducible repeat (first | apply Kd.V_alloc | apply Kd.V_drewN | apply Kd.V_drew)); exact HO_162000.out) gb171 (Nat.le_of_eq hg.symm)) hb); have n3_ := Aside0.mk (Kd.R_below HO_163000.out hb); have n4_ := Aside0.mk (Kd.R_below HO167.out hb); have n5_ := Aside0.mk (blk_below (g := gb158) (o := .cells #[.slice none 0 0, .int .i64 0, .int .i64 0, .bool false] 69 (0, 0)) BK158.out hb); have n6_ := Aside0.mk (blk_below (g := gb161) (o := .cells #[.slice Ao46 x162000_2.length co46, .int .i64 x162001_25, .int .i64 x162002_2] 55 (0, 0)) BK161.out hb); have n7_ := Aside0.mk (blk_below (g := gb162) (o := .cells #[u163000, .int .i64 x163001_2, .int .i64 x163002_2, .bool false] 69 (0, 0)) BK162.out hb); have n8_ := Aside0.mk (below_step (by repeat (first | (with_reducible first | exact HB.out | apply below_alloc | apply pw_below_drewN | apply below_drew1 | refine below_set ?_ GE158.out | refine below_set ?_ GE161.out | refine below_set ?_ GE162.out) | exact HB.out)) hb); have n9_ := Aside0.mk (hbox); have n10_ := Aside0.mk ((by rw [hg]; exact (below_size (by repeat (first | (with_reducible first | exact HB.out | apply below_alloc | apply pw_below_drewN | apply below_drew1 | refine below_set ?_ GE158.out | refine below_set ?_ GE161.out | refine below_set ?_ GE162.out) | exact HB.out))) : w.heap.size ≤ gb171)); have n11_ := Aside0.mk ((by rw [hg]; exact (below_size (by repeat (first | (with_reducible first | exact HB.out | apply below_alloc | apply pw_below_drewN | apply below_drew1 | refine below_set ?_ GE158.out | refine below_set ?_ GE161.out | refine below_set ?_ GE162.out) | exact HB.out))) : w.heap.size ≤ gb171)); have n12_ := Aside0.mk ((by rw [hg]; exact Nat.ne_of_lt (blk_lt (g := gb158) (o := .cells #[.slice none 0 0, .int .i64 0, .int .i64 0, .bool false] 69 (0, 0)) BK158.out) : gb158 ≠ gb171)); have n13_ := Aside0.mk ((by rw [hg]; exact Nat.ne_of_gt (blk_lt (g := gb158) (o := .cells #[.slice none 0 0, .int .i64 0, .int .i64 0, .bool false] 69 (0, 0)) BK158.out) : gb171 ≠ gb158)); have n14_ := Aside0.mk ((by rw [hg]; exact Nat.ne_of_lt (blk_lt (g := gb161) (o := .cells #[.slice Ao46 x162000_2.length co46, .int .i64 x162001_25, .int .i64 x162002_2] 55 (0, 0)) BK161.out) : gb161 ≠ gb171)); have n15_ := Aside0.mk ((by rw [hg]; exact Nat.ne_of_gt (blk_lt (g := gb161) (o := .cells #[.slice Ao46 x162000_2.length co46, .int .i64 x162001_25, .int .i64 x162002_2] 55 (0, 0)) BK161.out) : gb171 ≠ gb161)); have n16_ := Aside0.mk ((by rw [hg]; exact Nat.ne_of_lt (blk_lt (g := gb162) (o := .cells #[u163000, .int .i64 x163001_2, .int .i64 x163002_2, .bool false] 69 (0, 0)) BK162.out) : gb162 ≠ gb171)); have n17_ := Aside0.mk ((by rw [hg]; exact Nat.ne_of_gt (blk_lt (g := gb162) (o := .cells #[u163000, .int .i64 x163001_2, .int .i64 x163002_2, .bool false] 69 (0, 0)) BK162.out) : gb171 ≠ gb162)); clear HO_0; clear HO_14; clear HO_162000; clear HO_163000; clear HO167; clear BK158; clear BK161; clear BK162; clear HB; have HO_0 := n0_; have HO_14 := n1_; have HO_162000 := n2_; have HO_163000 := n3_; have HO167 := n4_; have BK158 := n5_; have BK161 := n6_; have BK162 := n7_; have HB := n8_; have BK171 := n9_; have GW171 := n10_; have GE171 := n11_; have NB158_171 := n12_; have NB171_158 := n13_; have NB161_171 := n14_; have NB171_161 := n15_; have NB162_171 := n16_; have NB171_162 := n17_; clear n0_ n1_ n2_ n3_ n4_ n5_ n6_ n7_ n8_ n9_ n10_ n11_ n12_ n13_ n14_ n15_ n16_ n17_; clear hb hbox hg) | ((with_reducible refine gate_dst (N := 17) rfl ?_); refine box_event ?hg (N := 17) ?hd (cs := #[.slice none 0 0, .int .i64 0, .int .i64 0]) (t := 55) ?hr ?_; (case hd => rfl); (case hg => rfl); (case hr => first | (go_simp; done) | (go_simp; rfl)); intro gb172 hg w49 hbox hb; have n0_ := Aside0.mk (Kd.V_below (Kd.V_elderB (by (with_reducible repeat (first | apply Kd.V_alloc | apply Kd.V_drewN | apply Kd.V_drew)); exact HO_0.out) gb172 (Nat.le_of_eq hg.symm)) hb); have n1_ := Aside0.mk (Kd.R_below HO_14.out hb); have n2_ := Aside0.mk (Kd.V_below (Kd.V_elderB (by (with_reducible repeat (first | apply Kd.V_alloc | apply Kd.V_drewN | apply Kd.V_drew)); exact HO_162000.out) gb172 (Nat.le_of_eq hg.symm)) hb); have n3_ := Aside0.mk (Kd.R_below HO_163000.out hb); have n4_ := Aside0.mk (Kd.R_below HO167.out hb); have n5_ := Aside0.mk (blk_below (g := gb158) (o := .cells #[.slice none 0 0, .int .i64 0, .int .i64 0, .bool false] 69 (0, 0)) BK158.out hb); have n6_ := Aside0.mk (blk_below (g := gb161) (o := .cells #[.slice Ao46 x162000_2.length co46, .int .i64 x162001_25, .int .i64 x162002_2] 55 (0, 0)) BK161.out hb); have n7_ := Aside0.mk (blk_below (g := gb162) (o := .cells #[u163000, .int .i64 x163001_2, .int .i64 x163002_2, .bool false] 69 (0, 0)) BK162.out hb); have n8_ := Aside0.mk (blk_below (g := gb171) (o := .cells #[.int .i64 0, .int .i64 0] 54 (0, 0)) BK171.out hb); have n9_ := Aside0.mk (below_step (by repeat (first | (with_reducible first | exact HB.out | apply below_alloc | apply pw_below_drewN | apply below_drew1 | refine below_set ?_ GE158.out | refine below_set ?_ GE161.out | refine below_set ?_ GE162.out | refine below_set ?_ GE171.out) | exact HB.out)) hb); have n10_ := Aside0.mk (hbox); have n11_ := Aside0.mk ((by rw [hg]; exact (below_size (by repeat (first | (with_reducible first | exact HB.out | apply below_alloc | apply pw_below_drewN | apply below_drew1 | refine below_set ?_ GE158.out | refine below_set ?_ GE161.out | refine below_set ?_ GE162.out | refine below_set ?_ GE171.out) | exact HB.out))) : w.heap.size ≤ gb172)); have n12_ := Aside0.mk ((by rw [hg]; exact (below_size (by repeat (first | (with_reducible first | exact HB.out | apply below_alloc | apply pw_below_drewN | apply below_drew1 | refine below_set ?_ GE158.out | refine below_set ?_ GE161.out | refine below_set ?_ GE162.out | refine below_set ?_ GE171.out) | exact HB.out))) : w.heap.size ≤ gb172)); have n13_ := Aside0.mk ((by rw [hg]; exact Nat.ne_of_lt (blk_lt (g := gb158) (o := .cells #[.slice none 0 0, .int .i64 0, .int .i64 0, .bool false] 69 (0, 0)) BK158.out) : gb158 ≠ gb172)); have n14_ := Aside0.mk ((by rw [hg]; exact Nat.ne_of_gt (blk_lt (g := gb158) (o := .cells #[.slice none 0 0, .int .i64 0, .int .i64 0, .bool false] 69 (0, 0)) BK158.out) : gb172 ≠ gb158)); have n15_ := Aside0.mk ((by rw [hg]; exact Nat.ne_of_lt (blk_lt (g := gb161) (o := .cells #[.slice Ao46 x162000_2.length co46, .int .i64 x162001_25, .int .i64 x162002_2] 55 (0, 0)) BK161.out) : gb161 ≠ gb172)); have n16_ := Aside0.mk ((by rw [hg]; exact Nat.ne_of_gt (blk_lt (g := gb161) (o := .cells #[.slice Ao46 x162000_2.length co46, .int .i64 x162001_25, .int .i64 x162002_2] 55 (0, 0)) BK161.out) : gb172 ≠ gb161)); have n17_ := Aside0.mk ((by rw [hg]; exact Nat.ne_of_lt (blk_lt (g := gb162) (o := .cells #[u163000, .int .i64 x163001_2, .int .i64 x163002_2, .bool false] 69 (0, 0)) BK162.out) : gb162 ≠ gb172)); have n18_ := Aside0.mk ((by rw [hg]; exact Nat.ne_of_gt (blk_lt (g := gb162) (o := .cells #[u163000, .int .i64 x163001_2, .int .i64 x163002_2, .bool false] 69 (0, 0)) BK162.out) : gb172 ≠ gb162)); have n19_ := Aside0.mk ((by rw [hg]; exact Nat.ne_of_lt (blk_lt (g := gb171) (o := .cells #[.int .i64 0, .int .i64 0] 54 (0, 0)) BK171.out) : gb171 ≠ gb172)); have n20_ := Aside0.mk ((by rw [hg]; exact Nat.ne_of_gt (blk_lt (g := gb171) (o := .cells #[.int .i64 0, .int .i64 0] 54 (0, 0)) BK171.out) : gb172 ≠ gb171)); clear HO_0; clear HO_14; clear HO_162000; clear HO_163000; clear HO167; clear BK158; clear BK161; clear BK162; clear BK171; clear HB; have HO_0 := n0_; have HO_14 := n1_; have HO_162000 := n2_; have HO_163000 := n3_; have HO167 := n4_; have BK158 := n5_; have BK161 := n6_; have BK162 := n7_; have BK171 := n8_; have HB := n9_; have BK172 := n10_; have GW172 := n11_; have GE172 := n12_; have NB158_172 := n13_; have NB172_158 := n14_; have NB161_172 := n15_; have NB172_161 := n16_; have NB162_172 := n17_; have NB172_162 := n18_; have NB171_172 := n19_; have NB172_171 := n20_; clear n0_ n1_ n2_ n3_ n4_ n5_ n6_ n7_ n8_ n9_ n10_ n11_ n12_ n13_ n14_ n15_ n16_ n17_ n18_ n19_ n20_; clear hb hbox hg; have hnb50 := NB171_158.out; have hnc50 := NB158_171.out; have hnb51 := NB171_161.out; have hnc51 := NB161_171.out; have hnb52 := NB171_162.out; have hnc52 := NB162_171.out; have hnb53 := NB171_172.out; have hnc53 := NB172_171.out; have hcz54_0 : w49.cell? ⟨gb171, 0, none⟩ = some (.int .i64 0) := (blk_cell BK171.out 0).trans rfl; have hcz54_1 : w49.cell? ⟨gb171, 1, none⟩ = some (.int .i64 0) := (blk_cell BK171.out 1).trans rfl; have hfz54_0 := blk_frozen BK171.out 0; have hfz54_1 := blk_frozen BK171.out 1; obtain ⟨Ao55, co55, eo55⟩ := Kd.R_slice HO167.out; subst eo55; have hnb56 := NB172_158.out; have hnc56 := NB158_172.out; have hnb57 := NB172_161.out; have hnc57 := NB161_172.out; have hnb58 := NB172_162.out; have hnc58 := NB162_172.out; have hcz59_0 : w49.cell? ⟨gb172, 0, none⟩ = some (.slice none 0 0) := (blk_cell BK172.out 0).trans rfl; have hcz59_1 : w49.cell? ⟨gb172, 1, none⟩ = some (.int .i64 0) := (blk_cell BK172.out 1).trans rfl; have hcz59_2 : w49.cell? ⟨gb172, 2, none⟩ = some (.int .i64 0) := (blk_cell BK172.out 2).trans rfl; have hfz59_0 := blk_frozen BK172.out 0; have hfz59_1 := blk_frozen BK172.out 1; have hfz59_2 := blk_frozen BK172.out 2; have hcz60_0 : w49.cell? ⟨gb161, 0, none⟩ = some (.slice Ao46 x162000_2.length co46) := (blk_cell BK161.out 0).trans rfl; have hcz60_1 : w49.cell? ⟨gb161, 1, none⟩ = some (.int .i64 x162001_25) := (blk_cell BK161.out 1).trans rfl; have hcz60_2 : w49.cell? ⟨gb161, 2, none⟩ = some (.int .i64 x162002_2) := (blk_cell BK161.out 2).trans rfl; have hfz60_0 := blk_frozen BK161.out 0; have hfz60_1 := blk_frozen BK161.out 1; have hfz60_2 := blk_frozen BK161.out 2; have hnb61 := NB162_158.out; have hnc61 := NB158_162.out; have hcz62_0 : w49.cell? ⟨gb162, 0, none⟩ = some (u163000) := (blk_cell BK162.out 0).trans rfl; have hcz62_1 : w49.cell? ⟨gb162, 1, none⟩ = some (.int .i64 x163001_2) := (blk_cell BK162.out 1).trans rfl; have hcz62_2 : w49.cell? ⟨gb162, 2, none⟩ = some (.int .i64 x163002_2) := (blk_cell BK162.out 2).trans rfl; have hcz62_3 : w49.cell? ⟨gb162, 3, none⟩ = some (.bool false) := (blk_cell BK162.out 3).trans rfl; have hfz62_0 := blk_frozen BK162.out 0; have hfz62_1 := blk_frozen BK162.out 1; have hfz62_2 := blk_frozen BK162.out 2; have hfz62_3 := blk_frozen BK162.out 3; have p173 : 0 ≤ ((ji39) : Int) := of_decide_eq_true (by first | (with_reducible assumption) | assumption); have q173 : (ji39) < (l2.length : Int) := of_decide_eq_true (by first | (with_reducible assumption) | assumption); obtain ⟨ad173, e173, hx173_0⟩ := Kd.at_int HR2.out (ji39) p173 q173; cases e173; have hn173_0 : ad173.block ≠ gb171 := Nat.ne_of_lt (Nat.lt_of_lt_of_le (by have := World.block_lt_of_cell? _ _ hx173_0; first | rwa [add_block] at this | exact this) GW171.out); have hn173_1 : ad173.block ≠ gb171 := Nat.ne_of_lt (Nat.lt_of_lt_of_le (by have := World.block_lt_of_cell? _ _ hx173_0; first | rwa [add_block] at this | exact this) GW171.out); have hn173_2 : ad173.block ≠ gb172 := Nat.ne_of_lt (Nat.lt_of_lt_of_le (by have := World.block_lt_of_cell? _ _ hx173_0; first | rwa [add_block] at this | exact this) GW172.out); have hn173_3 : ad173.block ≠ gb172 := Nat.ne_of_lt (Nat.lt_of_lt_of_le (by have := World.block_lt_of_cell? _ _ hx173_0; first | rwa [add_block] at this | exact this) GW172.out); have hn173_4 : ad173.block ≠ gb172 := Nat.ne_of_lt (Nat.lt_of_lt_of_le (by have := World.block_lt_of_cell? _ _ hx173_0; first | rwa [add_block] at this | exact this) GW172.out); have hn173_5 : ad173.block ≠ gb161 := Nat.ne_of_lt (Nat.lt_of_lt_of_le (by have := World.block_lt_of_cell? _ _ hx173_0; first | rwa [add_block] at this | exact this) GW161.out); have hn173_6 : ad173.block ≠ gb161 := Nat.ne_of_lt (Nat.lt_of_lt_of_le (by have := World.block_lt_of_cell? _ _ hx173_0; first | rwa [add_block] at this | exact this) GW161.out); have hn173_7 : ad173.block ≠ gb161 := Nat.ne_of_lt (Nat.lt_of_lt_of_le (by have := World.block_lt_of_cell? _ _ hx173_0; first | rwa [add_block] at this | exact this) GW161.out); (first | replace hx173_0 := (HB.out.cell (World.block_lt_of_cell? w _ hx173_0)).trans hx173_0 | skip); replace hx173_0 := (cell_far (p := ⟨gb171, 0, none⟩) (by first | (rw [add_block]; exact hn173_0) | (show (Addr.add _ _).block ≠ _; rw [add_block]; exact hn173_0) | exact hn173_0) (.int .i64 t163)).trans hx173_0; replace hx173_0 := (cell_far (p := ⟨gb171, 1, none⟩) (by first | (rw [add_block]; exact hn173_1) | (show (Addr.add _ _).block ≠ _; rw [add_block]; exact hn173_1) | exact hn173_1) (.int .i64 t164)).trans hx173_0; replace hx173_0 := (cell_far (p := ⟨gb172, 0, none⟩) (by first | (rw [add_block]; exact hn173_2) | (show (Addr.add _ _).block ≠ _; rw [add_block]; exact hn173_2) | exact hn173_2) (.slice Ao55 t165.length co55)).trans hx173_0; replace hx173_0 := (cell_far (p := ⟨gb172, 1, none⟩) (by first | (rw [add_block]; exact hn173_3) | (show (Addr.add _ _).block ≠ _; rw [add_block]; exact hn173_3) | exact hn173_3) (.int .i64 t168)).trans hx173_0; replace hx173_0 := (cell_far (p := ⟨gb172, 2, none⟩) (by first | (rw [add_block]; exact hn173_4) | (show (Addr.add _ _).block ≠ _; rw [add_block]; exact hn173_4) | exact hn173_4) (.int .i64 t169)).trans hx173_0; replace hx173_0 := (cell_far (p := ⟨gb161, 0, none⟩) (by first | (rw [add_block]; exact hn173_5) | (show (Addr.add _ _).block ≠ _; rw [add_block]; exact hn173_5) | exact hn173_5) (.slice Ao55 t165.length co55)).trans hx173_0; replace hx173_0 := (cell_far (p := ⟨gb161, 1, none⟩) (by first | (rw [add_block]; exact hn173_6) | (show (Addr.add _ _).block ≠ _; rw [add_block]; exact hn173_6) | exact hn173_6) (.int .i64 t168)).trans hx173_0; replace hx173_0 := (cell_far (p := ⟨gb161, 2, none⟩) (by first | (rw [add_block]; exact hn173_7) | (show (Addr.add _ _).block ≠ _; rw [add_block]; exact hn173_7) | exact hn173_7) (.int .i64 t169)).trans hx173_0; clear hn173_0; clear hn173_1; clear hn173_2; clear hn173_3; clear hn173_4; clear hn173_5; clear hn173_6; clear hn173_7; replace p173 := eq_true p173; replace q173 := eq_true q173))
                          (try simp only [Act.put, List.setIfInBounds_toArray, List.set_cons_zero, List.set_cons_succ])
                          go_cut [14, 19] (fun v14 v19 wc => ∃ (kq : Nat) (x14_41 : List (S54)) (x19_41 : List (S54)), Aside0 (spec_TalkAll.j3 kq l0 a1 l2 l3 a4 x14_41 0 x19_41 t165 t168 t169 x163000_2 x163001_2 x163002_2 false = some (r1, r2, r3, r4, r5)) ∧ Aside0 (kq ≤ kj25) ∧ Aside0 (Kd.V (Kd.int .i64) 3 wc w.heap.size (fun k_ => (P0_ k_ ∨ w.heap.size ≤ k_) ∧ some k_ ≠ (v14 : Value).ownBlock ∧ some k_ ≠ (v19 : Value).ownBlock ∧ some k_ ≠ ((.slice Ao55 t165.length co55) : Value).ownBlock ∧ some k_ ≠ (u163000 : Value).ownBlock ∧ some k_ ≠ ((.slice Ao55 t165.length co55) : Value).ownBlock ∧ k_ ≠ gb158 ∧ k_ ≠ gb161 ∧ k_ ≠ gb162 ∧ k_ ≠ gb171 ∧ k_ ≠ gb172) (.slice A0 l0.length c0) l0) ∧ Aside0 (Kd.R k54 54 wc w.heap.size (fun k_ => (w.heap.size ≤ k_) ∧ some k_ ≠ (v19 : Value).ownBlock ∧ k_ ≠ gb171) v14 x14_41) ∧ Aside0 (Kd.R k54 54 wc w.heap.size (fun k_ => (w.heap.size ≤ k_) ∧ some k_ ≠ (v14 : Value).ownBlock ∧ k_ ≠ gb171) v19 x19_41) ∧ Aside0 (Kd.R (Kd.int .i64) 3 wc w.heap.size (fun k_ => (w.heap.size ≤ k_) ∧ some k_ ≠ (u163000 : Value).ownBlock) (.slice Ao55 t165.length co55) t165) ∧ Aside0 (Kd.R (Kd.int .i64) 3 wc w.heap.size (fun k_ => (w.heap.size ≤ k_) ∧ some k_ ≠ ((.slice Ao55 t165.length co55) : Value).ownBlock ∧ some k_ ≠ ((.slice Ao55 t165.length co55) : Value).ownBlock) u163000 x163000_2) ∧ Aside0 (Kd.R (Kd.int .i64) 3 wc w.heap.size (fun k_ => (w.heap.size ≤ k_) ∧ some k_ ≠ (u163000 : Value).ownBlock) (.slice Ao55 t165.length co55) t165) ∧ Aside0 (wc.heap[gb158]? = some (.cells #[(.slice none 0 0), .int .i64 0, .int .i64 0, .bool false] 69 (0, 0))) ∧ Aside0 (wc.heap[gb161]? = some (.cells #[(.slice Ao55 t165.length co55), .int .i64 t168, .int .i64 t169] 55 (0, 0))) ∧ Aside0 (wc.heap[gb162]? = some (.cells #[u163000, .int .i64 x163001_2, .int .i64 x163002_2, .bool false] 69 (0, 0))) ∧ Aside0 (wc.heap[gb171]? = some (.cells #[.int .i64 t163, .int .i64 t164] 54 (0, 0))) ∧ Aside0 (wc.heap[gb172]? = some (.cells #[(.slice Ao55 t165.length co55), .int .i64 t168, .int .i64 t169] 55 (0, 0))) ∧ Aside0 (Below w.heap.size w wc))
                          case first =>
                            have H := HC42.out
                            clear HC42
                            by_cases c63 : (rd l2 (ji39)) = 0
                            · rw [if_pos c63] at H
                              have c63b0 : ((rd l2 (ji39)) == 0) = true := beq_iff_eq.mpr c63
                              have c63b1 : ((rd l2 (ji39)) != 0) = false := bne_eq_false_iff_eq.mpr c63
                              clear c63
                              (first | rw [c63b0] | (simp only [i64_w, i32_w]; rw [c63b0]) | skip)
                              by_cases c64 : x14_2.length < 8796093022208
                              · rw [if_pos c64] at H
                                have LMc64 := Aside0.mk c64
                                clear c64
                                obtain ⟨y174, hy174⟩ : ∃ y_ : List (S54), y_ = (x14_2 ++ [(⟨t163, t164⟩ : S54)]) := ⟨_, rfl⟩
                                replace H : (spec_TalkAll.j3 kj25 l0 a1 l2 l3 a4 ([] : List (S54)) 0 y174 t165 t168 t169 x163000_2 x163001_2 x163002_2 false) = some (r1, r2, r3, r4, r5) := by first | (rw [hy174]; with_reducible exact H) | (have H2_ := (Option.bind_some _ _).symm.trans H; rw [hy174]; with_reducible exact H2_) | (have H2_ := (Option.bind_some _ _).symm.trans H; with_reducible exact H2_) | with_reducible exact H | (rw [hy174]; exact H) | exact H
                                have Ny174 := Aside0.mk hy174
                                clear hy174
                                have H' := Aside0.mk H
                                clear H
                                have hnb65 := NB171_158.out
                                have hnc65 := NB158_171.out
                                have hnb66 := NB171_161.out
                                have hnc66 := NB161_171.out
                                have hnb67 := NB171_162.out
                                have hnc67 := NB162_171.out
                                have hnb68 := NB171_172.out
                                have hnc68 := NB172_171.out
                                have hcz69_0 : w49.cell? ⟨gb171, 0, none⟩ = some (.int .i64 0) := (blk_cell BK171.out 0).trans rfl
                                have hcz69_1 : w49.cell? ⟨gb171, 1, none⟩ = some (.int .i64 0) := (blk_cell BK171.out 1).trans rfl
                                have hfz69_0 := blk_frozen BK171.out 0
                                have hfz69_1 := blk_frozen BK171.out 1
                                go_wp2_with (first | ((with_reducible refine gate_builtin (b := .append) (xs := #[.tmp 85, .tmp 87]) rfl ?_); at_builtin; refine Kd.R_append k54 (w0 := w) w.heap.size rfl (.tmp 85) (.tmp 87) 37 54 (.agg #[(.int .i64 0), (.int .i64 0)]) 16 rfl Try.underlying37 info54 rfl (by decide) (by omega) u14 x14_2 (⟨t163, t164⟩ : S54) [.int .i64 t163, .int .i64 t164] (fun k_ => (w.heap.size ≤ k_) ∧ k_ ≠ gb171) (fun _ => False) rfl (by first | (go_simp; done) | (go_simp; rfl)) ?aP (fun _ hk => hk.elim) ?aF ?aO ?aB ?aS ?aL ?_; (case aP => exact k54_mkM _ _ _ (⟨t163, t164⟩ : S54)); (case aB => exact (by repeat (first | (with_reducible first | exact HB.out | apply below_alloc | apply pw_below_drewN | apply below_drew1 | refine below_set ?_ GE158.out | refine below_set ?_ GE161.out | refine below_set ?_ GE162.out | refine below_set ?_ GE171.out | refine below_set ?_ GE172.out) | exact HB.out))); (case aF => exact (fun k_ hk => ⟨(Nat.le_trans (below_size (by repeat (first | (with_reducible first | exact HB.out | apply below_alloc | apply pw_below_drewN | apply below_drew1 | refine below_set ?_ GE158.out | refine below_set ?_ GE161.out | refine below_set ?_ GE162.out | refine below_set ?_ GE171.out | refine below_set ?_ GE172.out) | exact HB.out))) hk), Kd.freshB (g := gb171) (o := .cells #[.int .i64 t163, .int .i64 t164] 54 (0, 0)) (by refine blk_far ?_ NB171_161.out _; refine blk_far ?_ NB171_161.out _; refine blk_far ?_ NB171_161.out _; refine blk_far ?_ NB171_172.out _; refine blk_far ?_ NB171_172.out _; refine blk_far ?_ NB171_172.out _; refine blk_put (cs := #[.int .i64 t163, .int .i64 0]) ?_ 1 _ rfl; refine blk_put (cs := #[.int .i64 0, .int .i64 0]) ?_ 0 _ rfl; exact BK171.out) k_ hk⟩)); (case aO => exact (by exact Kd.R_mono (Kd.R_far (p := ⟨gb161, 2, none⟩) (Kd.R_far (p := ⟨gb161, 1, none⟩) (Kd.R_far (p := ⟨gb161, 0, none⟩) (Kd.R_far (p := ⟨gb172, 2, none⟩) (Kd.R_far (p := ⟨gb172, 1, none⟩) (Kd.R_far (p := ⟨gb172, 0, none⟩) (Kd.R_far (p := ⟨gb171, 1, none⟩) (Kd.R_far (p := ⟨gb171, 0, none⟩) (Kd.R_types (Kd.R_types (Kd.R_mono HO_14.out (fun k_ hk => (⟨hk, hk.2⟩ : _ ∧ k_ ≠ gb171))) BK172.out (by decide)) BK161.out (by decide)) (fun _ hk => hk.1.1.2) (.int .i64 t163)) (fun _ hk => hk.1.1.2) (.int .i64 t164)) (fun _ hk => hk.1.2) (.slice Ao55 t165.length co55)) (fun _ hk => hk.1.2) (.int .i64 t168)) (fun _ hk => hk.1.2) (.int .i64 t169)) (fun _ hk => hk.2) (.slice Ao55 t165.length co55)) (fun _ hk => hk.2) (.int .i64 t168)) (fun _ hk => hk.2) (.int .i64 t169)) (fun _ hk => ⟨hk.1.1.1.1, hk.1.1.1.2⟩))); (case aS => exact (below_size (by repeat (first | (with_reducible first | exact HB.out | apply below_alloc | apply pw_below_drewN | apply below_drew1 | refine below_set ?_ GE158.out | refine below_set ?_ GE161.out | refine below_set ?_ GE162.out | refine below_set ?_ GE171.out | refine below_set ?_ GE172.out) | exact HB.out)))); (case aL => have := LMc64.out; omega); intro v175 w70 ho hb hg hat; rw [← Ny174.out] at ho; have n0_ := Aside0.mk (Kd.V_afterv (ok := (fun k_ => (P0_ k_ ∨ w.heap.size ≤ k_) ∧ some k_ ≠ (u163000 : Value).ownBlock ∧ some k_ ≠ (.slice Ao55 t165.length co55 : Value).ownBlock ∧ k_ ≠ gb158 ∧ k_ ≠ gb161 ∧ k_ ≠ gb162 ∧ k_ ≠ gb171 ∧ k_ ≠ gb172)) (by (with_reducible repeat (first | apply Kd.V_alloc | apply Kd.V_drewN | apply Kd.V_drew)); exact Kd.V_mono (Kd.V_far (p := ⟨gb161, 2, none⟩) (Kd.V_far (p := ⟨gb161, 1, none⟩) (Kd.V_far (p := ⟨gb161, 0, none⟩) (Kd.V_far (p := ⟨gb172, 2, none⟩) (Kd.V_far (p := ⟨gb172, 1, none⟩) (Kd.V_far (p := ⟨gb172, 0, none⟩) (Kd.V_far (p := ⟨gb171, 1, none⟩) (Kd.V_far (p := ⟨gb171, 0, none⟩) (Kd.V_mono (Kd.V_mono (Kd.V_mono HO_0.out (fun k_ hk => (⟨hk, hk.1.2⟩ : _ ∧ k_ ≠ gb171))) (fun k_ hk => (⟨hk, hk.1.2⟩ : _ ∧ k_ ≠ gb172))) (fun k_ hk => (⟨hk, hk.1.1.1.1.1.2.2.2.2.1⟩ : _ ∧ k_ ≠ gb161))) (fun _ hk => hk.1.1.2) (.int .i64 t163)) (fun _ hk => hk.1.1.2) (.int .i64 t164)) (fun _ hk => hk.1.2) (.slice Ao55 t165.length co55)) (fun _ hk => hk.1.2) (.int .i64 t168)) (fun _ hk => hk.1.2) (.int .i64 t169)) (fun _ hk => hk.2) (.slice Ao55 t165.length co55)) (fun _ hk => hk.2) (.int .i64 t168)) (fun _ hk => hk.2) (.int .i64 t169)) (fun _ hk => ⟨⟨hk.1.1.1.1.1.1.1, ⟨hk.1.1.1.1.1.1.2.2.1, ⟨hk.1.1.1.1.1.2, ⟨hk.1.1.1.1.1.1.2.2.2.1, ⟨hk.1.1.1.1.1.1.2.2.2.2.1, ⟨hk.1.1.1.1.1.1.2.2.2.2.2, ⟨hk.1.1.1.1.2, hk.1.1.1.2⟩⟩⟩⟩⟩⟩⟩, hk.1.1.1.1.1.1.2.1⟩)) hg hat); have n1_ := Aside0.mk (Kd.V_afterv (ok := (fun k_ => (P0_ k_ ∨ w.heap.size ≤ k_) ∧ some k_ ≠ (u163000 : Value).ownBlock ∧ some k_ ≠ (.slice Ao55 t165.length co55 : Value).ownBlock ∧ k_ ≠ gb158 ∧ k_ ≠ gb161 ∧ k_ ≠ gb162 ∧ k_ ≠ gb171 ∧ k_ ≠ gb172)) (by (with_reducible repeat (first | apply Kd.V_alloc | apply Kd.V_drewN | apply Kd.V_drew)); exact Kd.V_mono (Kd.V_far (p := ⟨gb161, 2, none⟩) (Kd.V_far (p := ⟨gb161, 1, none⟩) (Kd.V_far (p := ⟨gb161, 0, none⟩) (Kd.V_far (p := ⟨gb172, 2, none⟩) (Kd.V_far (p := ⟨gb172, 1, none⟩) (Kd.V_far (p := ⟨gb172, 0, none⟩) (Kd.V_far (p := ⟨gb171, 1, none⟩) (Kd.V_far (p := ⟨gb171, 0, none⟩) (Kd.V_mono (Kd.V_mono (Kd.V_mono HO_162000.out (fun k_ hk => (⟨hk, hk.1.2⟩ : _ ∧ k_ ≠ gb171))) (fun k_ hk => (⟨hk, hk.1.2⟩ : _ ∧ k_ ≠ gb172))) (fun k_ hk => (⟨hk, hk.1.1.1.1.1.2.2.2.2.1⟩ : _ ∧ k_ ≠ gb161))) (fun _ hk => hk.1.1.2) (.int .i64 t163)) (fun _ hk => hk.1.1.2) (.int .i64 t164)) (fun _ hk => hk.1.2) (.slice Ao55 t165.length co55)) (fun _ hk => hk.1.2) (.int .i64 t168)) (fun _ hk => hk.1.2) (.int .i64 t169)) (fun _ hk => hk.2) (.slice Ao55 t165.length co55)) (fun _ hk => hk.2) (.int .i64 t168)) (fun _ hk => hk.2) (.int .i64 t169)) (fun _ hk => ⟨⟨hk.1.1.1.1.1.1.1, ⟨hk.1.1.1.1.1.1.2.2.1, ⟨hk.1.1.1.1.1.2, ⟨hk.1.1.1.1.1.1.2.2.2.1, ⟨hk.1.1.1.1.1.1.2.2.2.2.1, ⟨hk.1.1.1.1.1.1.2.2.2.2.2, ⟨hk.1.1.1.1.2, hk.1.1.1.2⟩⟩⟩⟩⟩⟩⟩, hk.1.1.1.1.1.1.2.1⟩)) hg hat); have n2_ := Aside0.mk (Kd.R_over' (by exact (Kd.R_mono (Kd.R_mono (Kd.R_mono (Kd.R_far (p := ⟨gb161, 2, none⟩) (Kd.R_far (p := ⟨gb161, 1, none⟩) (Kd.R_far (p := ⟨gb161, 0, none⟩) (Kd.R_far (p := ⟨gb172, 2, none⟩) (Kd.R_far (p := ⟨gb172, 1, none⟩) (Kd.R_far (p := ⟨gb172, 0, none⟩) (Kd.R_far (p := ⟨gb171, 1, none⟩) (Kd.R_far (p := ⟨gb171, 0, none⟩) (Kd.R_types (Kd.R_types (Kd.R_types HO_163000.out BK171.out (by decide)) BK172.out (by decide)) BK161.out (by decide)) (fun _ hk => hk.1.1.2) (.int .i64 t163)) (fun _ hk => hk.1.1.2) (.int .i64 t164)) (fun _ hk => hk.1.2) (.slice Ao55 t165.length co55)) (fun _ hk => hk.1.2) (.int .i64 t168)) (fun _ hk => hk.1.2) (.int .i64 t169)) (fun _ hk => hk.2) (.slice Ao55 t165.length co55)) (fun _ hk => hk.2) (.int .i64 t168)) (fun _ hk => hk.2) (.int .i64 t169)) (fun _ h_ => h_.1)) (fun _ h_ => h_.1)) (fun _ h_ => h_.1))) (Kd.R_typed (by exact (Kd.R_mono (Kd.R_mono (Kd.R_mono (Kd.R_far (p := ⟨gb161, 2, none⟩) (Kd.R_far (p := ⟨gb161, 1, none⟩) (Kd.R_far (p := ⟨gb161, 0, none⟩) (Kd.R_far (p := ⟨gb172, 2, none⟩) (Kd.R_far (p := ⟨gb172, 1, none⟩) (Kd.R_far (p := ⟨gb172, 0, none⟩) (Kd.R_far (p := ⟨gb171, 1, none⟩) (Kd.R_far (p := ⟨gb171, 0, none⟩) (Kd.R_types (Kd.R_types (Kd.R_mono HO_14.out (fun k_ hk => (⟨hk, hk.2⟩ : _ ∧ k_ ≠ gb171))) BK172.out (by decide)) BK161.out (by decide)) (fun _ hk => hk.1.1.2) (.int .i64 t163)) (fun _ hk => hk.1.1.2) (.int .i64 t164)) (fun _ hk => hk.1.2) (.slice Ao55 t165.length co55)) (fun _ hk => hk.1.2) (.int .i64 t168)) (fun _ hk => hk.1.2) (.int .i64 t169)) (fun _ hk => hk.2) (.slice Ao55 t165.length co55)) (fun _ hk => hk.2) (.int .i64 t168)) (fun _ hk => hk.2) (.int .i64 t169)) (fun _ h_ => h_.1)) (fun _ h_ => h_.1)) (fun _ h_ => h_.1)))) (by decide) hg); have n3_ := Aside0.mk (blk_grown (g := gb158) (o := .cells #[.slice none 0 0, .int .i64 0, .int .i64 0, .bool false] 69 (0, 0)) (by refine blk_far ?_ NB158_161.out _; refine blk_far ?_ NB158_161.out _; refine blk_far ?_ NB158_161.out _; refine blk_far ?_ NB158_172.out _; refine blk_far ?_ NB158_172.out _; refine blk_far ?_ NB158_172.out _; refine blk_far ?_ NB158_171.out _; refine blk_far ?_ NB158_171.out _; exact BK158.out) hg (Kd.R_ne HO_14.out BK158.out (by decide))); have n4_ := Aside0.mk (blk_grown (g := gb161) (o := .cells #[.slice Ao55 t165.length co55, .int .i64 t168, .int .i64 t169] 55 (0, 0)) (by refine blk_put (cs := #[.slice Ao55 t165.length co55, .int .i64 t168, .int .i64 x162002_2]) ?_ 2 _ rfl; refine blk_put (cs := #[.slice Ao55 t165.length co55, .int .i64 x162001_25, .int .i64 x162002_2]) ?_ 1 _ rfl; refine blk_put (cs := #[.slice Ao46 x162000_2.length co46, .int .i64 x162001_25, .int .i64 x162002_2]) ?_ 0 _ rfl; refine blk_far ?_ NB161_172.out _; refine blk_far ?_ NB161_172.out _; refine blk_far ?_ NB161_172.out _; refine blk_far ?_ NB161_171.out _; refine blk_far ?_ NB161_171.out _; exact BK161.out) hg (Kd.R_ne HO_14.out BK161.out (by decide))); have n5_ := Aside0.mk (blk_grown (g := gb162) (o := .cells #[u163000, .int .i64 x163001_2, .int .i64 x163002_2, .bool false] 69 (0, 0)) (by refine blk_far ?_ NB162_161.out _; refine blk_far ?_ NB162_161.out _; refine blk_far ?_ NB162_161.out _; refine blk_far ?_ NB162_172.out _; refine blk_far ?_ NB162_172.out _; refine blk_far ?_ NB162_172.out _; refine blk_far ?_ NB162_171.out _; refine blk_far ?_ NB162_171.out _; exact BK162.out) hg (Kd.R_ne HO_14.out BK162.out (by decide))); have n6_ := Aside0.mk (Kd.R_over' (by exact (Kd.R_mono (Kd.R_mono (Kd.R_mono (Kd.R_far (p := ⟨gb161, 2, none⟩) (Kd.R_far (p := ⟨gb161, 1, none⟩) (Kd.R_far (p := ⟨gb161, 0, none⟩) (Kd.R_far (p := ⟨gb172, 2, none⟩) (Kd.R_far (p := ⟨gb172, 1, none⟩) (Kd.R_far (p := ⟨gb172, 0, none⟩) (Kd.R_far (p := ⟨gb171, 1, none⟩) (Kd.R_far (p := ⟨gb171, 0, none⟩) (Kd.R_types (Kd.R_types (Kd.R_types HO167.out BK171.out (by decide)) BK172.out (by decide)) BK161.out (by decide)) (fun _ hk => hk.1.1.2) (.int .i64 t163)) (fun _ hk => hk.1.1.2) (.int .i64 t164)) (fun _ hk => hk.1.2) (.slice Ao55 t165.length co55)) (fun _ hk => hk.1.2) (.int .i64 t168)) (fun _ hk => hk.1.2) (.int .i64 t169)) (fun _ hk => hk.2) (.slice Ao55 t165.length co55)) (fun _ hk => hk.2) (.int .i64 t168)) (fun _ hk => hk.2) (.int .i64 t169)) (fun _ h_ => h_.1)) (fun _ h_ => h_.1)) (fun _ h_ => h_.1))) (Kd.R_typed (by exact (Kd.R_mono (Kd.R_mono (Kd.R_mono (Kd.R_far (p := ⟨gb161, 2, none⟩) (Kd.R_far (p := ⟨gb161, 1, none⟩) (Kd.R_far (p := ⟨gb161, 0, none⟩) (Kd.R_far (p := ⟨gb172, 2, none⟩) (Kd.R_far (p := ⟨gb172, 1, none⟩) (Kd.R_far (p := ⟨gb172, 0, none⟩) (Kd.R_far (p := ⟨gb171, 1, none⟩) (Kd.R_far (p := ⟨gb171, 0, none⟩) (Kd.R_types (Kd.R_types (Kd.R_mono HO_14.out (fun k_ hk => (⟨hk, hk.2⟩ : _ ∧ k_ ≠ gb171))) BK172.out (by decide)) BK161.out (by decide)) (fun _ hk => hk.1.1.2) (.int .i64 t163)) (fun _ hk => hk.1.1.2) (.int .i64 t164)) (fun _ hk => hk.1.2) (.slice Ao55 t165.length co55)) (fun _ hk => hk.1.2) (.int .i64 t168)) (fun _ hk => hk.1.2) (.int .i64 t169)) (fun _ hk => hk.2) (.slice Ao55 t165.length co55)) (fun _ hk => hk.2) (.int .i64 t168)) (fun _ hk => hk.2) (.int .i64 t169)) (fun _ h_ => h_.1)) (fun _ h_ => h_.1)) (fun _ h_ => h_.1)))) (by decide) hg); have n7_ := Aside0.mk (blk_grown (g := gb171) (o := .cells #[.int .i64 t163, .int .i64 t164] 54 (0, 0)) (by refine blk_far ?_ NB171_161.out _; refine blk_far ?_ NB171_161.out _; refine blk_far ?_ NB171_161.out _; refine blk_far ?_ NB171_172.out _; refine blk_far ?_ NB171_172.out _; refine blk_far ?_ NB171_172.out _; refine blk_put (cs := #[.int .i64 t163, .int .i64 0]) ?_ 1 _ rfl; refine blk_put (cs := #[.int .i64 0, .int .i64 0]) ?_ 0 _ rfl; exact BK171.out) hg (Kd.R_away HO_14.out (fun _ hk => hk.2))); have n8_ := Aside0.mk (blk_grown (g := gb172) (o := .cells #[.slice Ao55 t165.length co55, .int .i64 t168, .int .i64 t169] 55 (0, 0)) (by refine blk_far ?_ NB172_161.out _; refine blk_far ?_ NB172_161.out _; refine blk_far ?_ NB172_161.out _; refine blk_put (cs := #[.slice Ao55 t165.length co55, .int .i64 t168, .int .i64 0]) ?_ 2 _ rfl; refine blk_put (cs := #[.slice Ao55 t165.length co55, .int .i64 0, .int .i64 0]) ?_ 1 _ rfl; refine blk_put (cs := #[.slice none 0 0, .int .i64 0, .int .i64 0]) ?_ 0 _ rfl; refine blk_far ?_ NB172_171.out _; refine blk_far ?_ NB172_171.out _; exact BK172.out) hg (Kd.R_ne HO_14.out BK172.out (by decide))); have n9_ := Aside0.mk (hb); have n10_ := Aside0.mk (ho); clear HO_0; clear HO_162000; clear HO_163000; clear BK158; clear BK161; clear BK162; clear HO167; clear BK171; clear BK172; clear HB; clear HO_14; have HO_0 := n0_; have HO_162000 := n1_; have HO_163000 := n2_; have BK158 := n3_; have BK161 := n4_; have BK162 := n5_; have HO167 := n6_; have BK171 := n7_; have BK172 := n8_; have HB := n9_; have HO176 := n10_; clear n0_ n1_ n2_ n3_ n4_ n5_ n6_ n7_ n8_ n9_ n10_; clear ho hb hg hat))
                                go_meet
                                case rel => exact ⟨_, (([] : List (S54))), (y174), H', ⟨by have := HJ5.out; have := HK2.out; have := HJ25.out; first | omega | exact Nat.le_refl _⟩, ⟨by (with_reducible repeat (first | apply Kd.V_alloc | apply Kd.V_drewN | apply Kd.V_drew)); exact Kd.V_mono HO_0.out (fun _ hk => ⟨hk.1.1, ⟨(by simp [Value.ownBlock]), ⟨hk.2, ⟨hk.1.2.2.1, ⟨hk.1.2.1, ⟨hk.1.2.2.1, ⟨hk.1.2.2.2.1, ⟨hk.1.2.2.2.2.1, ⟨hk.1.2.2.2.2.2.1, ⟨hk.1.2.2.2.2.2.2.1, hk.1.2.2.2.2.2.2.2⟩⟩⟩⟩⟩⟩⟩⟩⟩⟩)⟩, ⟨by first | exact Kd.R_nil _ _ _ _ _ | exact Kd.N_nil _ _ _ _ _ | exact Kd.V_nil _ _ _ _ _ | exact Kd.Q_nil _ _ _ _ _ | exact Kd.S_nil _ _ _ _ _⟩, ⟨by exact Kd.R_mono HO176.out (fun _ hk => ⟨hk.1, ⟨(by simp [Value.ownBlock]), hk.2⟩⟩)⟩, ⟨by exact Kd.R_mono HO167.out (fun _ hk => ⟨hk.1.1, hk.2⟩)⟩, ⟨by exact Kd.R_mono HO_163000.out (fun _ hk => ⟨hk.1, ⟨hk.2, hk.2⟩⟩)⟩, ⟨by exact Kd.R_mono HO167.out (fun _ hk => ⟨hk.1.1, hk.2⟩)⟩, ⟨by exact BK158.out⟩, ⟨by exact BK161.out⟩, ⟨by exact BK162.out⟩, ⟨by exact BK171.out⟩, ⟨by exact BK172.out⟩, ⟨by repeat (first | (with_reducible first | exact HB.out | apply below_alloc | apply pw_below_drewN | apply below_drew1 | refine below_set ?_ GE158.out | refine below_set ?_ GE161.out | refine below_set ?_ GE162.out | refine below_set ?_ GE171.out | refine below_set ?_ GE172.out) | exact HB.out)⟩⟩
                              · rw [if_neg c64] at H
                                exact absurd H (by simp)
                            · rw [if_neg c63] at H
                              have c63b0 : ((rd l2 (ji39)) == 0) = false := beq_eq_false_iff_ne.mpr c63
                              have c63b1 : ((rd l2 (ji39)) != 0) = true := bne_iff_ne.mpr c63
                              (first | rw [c63b0] | (simp only [i64_w, i32_w]; rw [c63b0]) | skip)
                              by_cases c71 : (rd l2 (ji39)) = 2
                              · rw [if_pos c71] at H
                                have c71b0 : ((rd l2 (ji39)) == 2) = true := beq_iff_eq.mpr c71
                                have c71b1 : ((rd l2 (ji39)) != 2) = false := bne_eq_false_iff_eq.mpr c71
                                clear c71
                                by_cases c72 : x14_2.length < 8796093022208
                                · rw [if_pos c72] at H
                                  have LMc72 := Aside0.mk c72
                                  clear c72
                                  obtain ⟨y177, hy177⟩ : ∃ y_ : List (S54), y_ = (x14_2 ++ [(⟨t163, t164⟩ : S54)]) := ⟨_, rfl⟩
                                  replace H : (if y177.length < 8796093022208 then (spec_TalkAll.j3 kj25 l0 a1 l2 l3 a4 ([] : List (S54)) 0 (y177 ++ [(⟨t163, t164⟩ : S54)]) t165 t168 t169 x163000_2 x163001_2 x163002_2 false) else (none)) = some (r1, r2, r3, r4, r5) := by first | (rw [hy177]; with_reducible exact H) | (have H2_ := (Option.bind_some _ _).symm.trans H; rw [hy177]; with_reducible exact H2_) | (have H2_ := (Option.bind_some _ _).symm.trans H; with_reducible exact H2_) | with_reducible exact H | (rw [hy177]; exact H) | exact H
                                  have Ny177 := Aside0.mk hy177
                                  clear hy177
                                  by_cases c73 : y177.length < 8796093022208
                                  · rw [if_pos c73] at H
                                    have LMc73 := Aside0.mk c73
                                    clear c73
                                    obtain ⟨y180, hy180⟩ : ∃ y_ : List (S54), y_ = (y177 ++ [(⟨t163, t164⟩ : S54)]) := ⟨_, rfl⟩
                                    replace H : (spec_TalkAll.j3 kj25 l0 a1 l2 l3 a4 ([] : List (S54)) 0 y180 t165 t168 t169 x163000_2 x163001_2 x163002_2 false) = some (r1, r2, r3, r4, r5) := by first | (rw [hy180]; with_reducible exact H) | (have H2_ := (Option.bind_some _ _).symm.trans H; rw [hy180]; with_reducible exact H2_) | (have H2_ := (Option.bind_some _ _).symm.trans H; with_reducible exact H2_) | with_reducible exact H | (rw [hy180]; exact H) | exact H
                                    have Ny180 := Aside0.mk hy180
                                    clear hy180
                                    have H' := Aside0.mk H
                                    clear H
                                    have hnb74 := NB171_158.out
                                    have hnc74 := NB158_171.out
                                    have hnb75 := NB171_161.out
                                    have hnc75 := NB161_171.out
                                    have hnb76 := NB171_162.out
                                    have hnc76 := NB162_171.out
                                    have hnb77 := NB171_172.out
                                    have hnc77 := NB172_171.out
                                    have hcz78_0 : w49.cell? ⟨gb171, 0, none⟩ = some (.int .i64 0) := (blk_cell BK171.out 0).trans rfl
                                    have hcz78_1 : w49.cell? ⟨gb171, 1, none⟩ = some (.int .i64 0) := (blk_cell BK171.out 1).trans rfl
                                    have hfz78_0 := blk_frozen BK171.out 0
                                    have hfz78_1 := blk_frozen BK171.out 1
                                    go_wp2_with (first | ((with_reducible refine gate_builtin (b := .append) (xs := #[.tmp 91, .tmp 93]) rfl ?_); at_builtin; refine Kd.R_append k54 (w0 := w) w.heap.size rfl (.tmp 91) (.tmp 93) 37 54 (.agg #[(.int .i64 0), (.int .i64 0)]) 16 rfl Try.underlying37 info54 rfl (by decide) (by omega) u14 x14_2 (⟨t163, t164⟩ : S54) [.int .i64 t163, .int .i64 t164] (fun k_ => (w.heap.size ≤ k_) ∧ k_ ≠ gb171) (fun _ => False) rfl (by first | (go_simp; done) | (go_simp; rfl)) ?aP (fun _ hk => hk.elim) ?aF ?aO ?aB ?aS ?aL ?_; (case aP => exact k54_mkM _ _ _ (⟨t163, t164⟩ : S54)); (case aB => exact (by repeat (first | (with_reducible first | exact HB.out | apply below_alloc | apply pw_below_drewN | apply below_drew1 | refine below_set ?_ GE158.out | refine below_set ?_ GE161.out | refine below_set ?_ GE162.out | refine below_set ?_ GE171.out | refine below_set ?_ GE172.out) | exact HB.out))); (case aF => exact (fun k_ hk => ⟨(Nat.le_trans (below_size (by repeat (first | (with_reducible first | exact HB.out | apply below_alloc | apply pw_below_drewN | apply below_drew1 | refine below_set ?_ GE158.out | refine below_set ?_ GE161.out | refine below_set ?_ GE162.out | refine below_set ?_ GE171.out | refine below_set ?_ GE172.out) | exact HB.out))) hk), Kd.freshB (g := gb171) (o := .cells #[.int .i64 t163, .int .i64 t164] 54 (0, 0)) (by refine blk_far ?_ NB171_161.out _; refine blk_far ?_ NB171_161.out _; refine blk_far ?_ NB171_161.out _; refine blk_far ?_ NB171_172.out _; refine blk_far ?_ NB171_172.out _; refine blk_far ?_ NB171_172.out _; refine blk_put (cs := #[.int .i64 t163, .int .i64 0]) ?_ 1 _ rfl; refine blk_put (cs := #[.int .i64 0, .int .i64 0]) ?_ 0 _ rfl; exact BK171.out) k_ hk⟩)); (case aO => exact (by exact Kd.R_mono (Kd.R_far (p := ⟨gb161, 2, none⟩) (Kd.R_far (p := ⟨gb161, 1, none⟩) (Kd.R_far (p := ⟨gb161, 0, none⟩) (Kd.R_far (p := ⟨gb172, 2, none⟩) (Kd.R_far (p := ⟨gb172, 1, none⟩) (Kd.R_far (p := ⟨gb172, 0, none⟩) (Kd.R_far (p := ⟨gb171, 1, none⟩) (Kd.R_far (p := ⟨gb171, 0, none⟩) (Kd.R_types (Kd.R_types (Kd.R_mono HO_14.out (fun k_ hk => (⟨hk, hk.2⟩ : _ ∧ k_ ≠ gb171))) BK172.out (by decide)) BK161.out (by decide)) (fun _ hk => hk.1.1.2) (.int .i64 t163)) (fun _ hk => hk.1.1.2) (.int .i64 t164)) (fun _ hk => hk.1.2) (.slice Ao55 t165.length co55)) (fun _ hk => hk.1.2) (.int .i64 t168)) (fun _ hk => hk.1.2) (.int .i64 t169)) (fun _ hk => hk.2) (.slice Ao55 t165.length co55)) (fun _ hk => hk.2) (.int .i64 t168)) (fun _ hk => hk.2) (.int .i64 t169)) (fun _ hk => ⟨hk.1.1.1.1, hk.1.1.1.2⟩))); (case aS => exact (below_size (by repeat (first | (with_reducible first | exact HB.out | apply below_alloc | apply pw_below_drewN | apply below_drew1 | refine below_set ?_ GE158.out | refine below_set ?_ GE161.out | refine below_set ?_ GE162.out | refine below_set ?_ GE171.out | refine below_set ?_ GE172.out) | exact HB.out)))); (case aL => have := LMc72.out; omega); intro v178 w79 ho hb hg hat; rw [← Ny177.out] at ho; have n0_ := Aside0.mk (Kd.V_afterv (ok := (fun k_ => (P0_ k_ ∨ w.heap.size ≤ k_) ∧ some k_ ≠ (u163000 : Value).ownBlock ∧ some k_ ≠ (.slice Ao55 t165.length co55 : Value).ownBlock ∧ k_ ≠ gb158 ∧ k_ ≠ gb161 ∧ k_ ≠ gb162 ∧ k_ ≠ gb171 ∧ k_ ≠ gb172)) (by (with_reducible repeat (first | apply Kd.V_alloc | apply Kd.V_drewN | apply Kd.V_drew)); exact Kd.V_mono (Kd.V_far (p := ⟨gb161, 2, none⟩) (Kd.V_far (p := ⟨gb161, 1, none⟩) (Kd.V_far (p := ⟨gb161, 0, none⟩) (Kd.V_far (p := ⟨gb172, 2, none⟩) (Kd.V_far (p := ⟨gb172, 1, none⟩) (Kd.V_far (p := ⟨gb172, 0, none⟩) (Kd.V_far (p := ⟨gb171, 1, none⟩) (Kd.V_far (p := ⟨gb171, 0, none⟩) (Kd.V_mono (Kd.V_mono (Kd.V_mono HO_0.out (fun k_ hk => (⟨hk, hk.1.2⟩ : _ ∧ k_ ≠ gb171))) (fun k_ hk => (⟨hk, hk.1.2⟩ : _ ∧ k_ ≠ gb172))) (fun k_ hk => (⟨hk, hk.1.1.1.1.1.2.2.2.2.1⟩ : _ ∧ k_ ≠ gb161))) (fun _ hk => hk.1.1.2) (.int .i64 t163)) (fun _ hk => hk.1.1.2) (.int .i64 t164)) (fun _ hk => hk.1.2) (.slice Ao55 t165.length co55)) (fun _ hk => hk.1.2) (.int .i64 t168)) (fun _ hk => hk.1.2) (.int .i64 t169)) (fun _ hk => hk.2) (.slice Ao55 t165.length co55)) (fun _ hk => hk.2) (.int .i64 t168)) (fun _ hk => hk.2) (.int .i64 t169)) (fun _ hk => ⟨⟨hk.1.1.1.1.1.1.1, ⟨hk.1.1.1.1.1.1.2.2.1, ⟨hk.1.1.1.1.1.2, ⟨hk.1.1.1.1.1.1.2.2.2.1, ⟨hk.1.1.1.1.1.1.2.2.2.2.1, ⟨hk.1.1.1.1.1.1.2.2.2.2.2, ⟨hk.1.1.1.1.2, hk.1.1.1.2⟩⟩⟩⟩⟩⟩⟩, hk.1.1.1.1.1.1.2.1⟩)) hg hat); have n1_ := Aside0.mk (Kd.V_afterv (ok := (fun k_ => (P0_ k_ ∨ w.heap.size ≤ k_) ∧ some k_ ≠ (u163000 : Value).ownBlock ∧ some k_ ≠ (.slice Ao55 t165.length co55 : Value).ownBlock ∧ k_ ≠ gb158 ∧ k_ ≠ gb161 ∧ k_ ≠ gb162 ∧ k_ ≠ gb171 ∧ k_ ≠ gb172)) (by (with_reducible repeat (first | apply Kd.V_alloc | apply Kd.V_drewN | apply Kd.V_drew)); exact Kd.V_mono (Kd.V_far (p := ⟨gb161, 2, none⟩) (Kd.V_far (p := ⟨gb161, 1, none⟩) (Kd.V_far (p := ⟨gb161, 0, none⟩) (Kd.V_far (p := ⟨gb172, 2, none⟩) (Kd.V_far (p := ⟨gb172, 1, none⟩) (Kd.V_far (p := ⟨gb172, 0, none⟩) (Kd.V_far (p := ⟨gb171, 1, none⟩) (Kd.V_far (p := ⟨gb171, 0, none⟩) (Kd.V_mono (Kd.V_mono (Kd.V_mono HO_162000.out (fun k_ hk => (⟨hk, hk.1.2⟩ : _ ∧ k_ ≠ gb171))) (fun k_ hk => (⟨hk, hk.1.2⟩ : _ ∧ k_ ≠ gb172))) (fun k_ hk => (⟨hk, hk.1.1.1.1.1.2.2.2.2.1⟩ : _ ∧ k_ ≠ gb161))) (fun _ hk => hk.1.1.2) (.int .i64 t163)) (fun _ hk => hk.1.1.2) (.int .i64 t164)) (fun _ hk => hk.1.2) (.slice Ao55 t165.length co55)) (fun _ hk => hk.1.2) (.int .i64 t168)) (fun _ hk => hk.1.2) (.int .i64 t169)) (fun _ hk => hk.2) (.slice Ao55 t165.length co55)) (fun _ hk => hk.2) (.int .i64 t168)) (fun _ hk => hk.2) (.int .i64 t169)) (fun _ hk => ⟨⟨hk.1.1.1.1.1.1.1, ⟨hk.1.1.1.1.1.1.2.2.1, ⟨hk.1.1.1.1.1.2, ⟨hk.1.1.1.1.1.1.2.2.2.1, ⟨hk.1.1.1.1.1.1.2.2.2.2.1, ⟨hk.1.1.1.1.1.1.2.2.2.2.2, ⟨hk.1.1.1.1.2, hk.1.1.1.2⟩⟩⟩⟩⟩⟩⟩, hk.1.1.1.1.1.1.2.1⟩)) hg hat); have n2_ := Aside0.mk (Kd.R_over' (by exact (Kd.R_mono (Kd.R_mono (Kd.R_mono (Kd.R_far (p := ⟨gb161, 2, none⟩) (Kd.R_far (p := ⟨gb161, 1, none⟩) (Kd.R_far (p := ⟨gb161, 0, none⟩) (Kd.R_far (p := ⟨gb172, 2, none⟩) (Kd.R_far (p := ⟨gb172, 1, none⟩) (Kd.R_far (p := ⟨gb172, 0, none⟩) (Kd.R_far (p := ⟨gb171, 1, none⟩) (Kd.R_far (p := ⟨gb171, 0, none⟩) (Kd.R_types (Kd.R_types (Kd.R_types HO_163000.out BK171.out (by decide)) BK172.out (by decide)) BK161.out (by decide)) (fun _ hk => hk.1.1.2) (.int .i64 t163)) (fun _ hk => hk.1.1.2) (.int .i64 t164)) (fun _ hk => hk.1.2) (.slice Ao55 t165.length co55)) (fun _ hk => hk.1.2) (.int .i64 t168)) (fun _ hk => hk.1.2) (.int .i64 t169)) (fun _ hk => hk.2) (.slice Ao55 t165.length co55)) (fun _ hk => hk.2) (.int .i64 t168)) (fun _ hk => hk.2) (.int .i64 t169)) (fun _ h_ => h_.1)) (fun _ h_ => h_.1)) (fun _ h_ => h_.1))) (Kd.R_typed (by exact (Kd.R_mono (Kd.R_mono (Kd.R_mono (Kd.R_far (p := ⟨gb161, 2, none⟩) (Kd.R_far (p := ⟨gb161, 1, none⟩) (Kd.R_far (p := ⟨gb161, 0, none⟩) (Kd.R_far (p := ⟨gb172, 2, none⟩) (Kd.R_far (p := ⟨gb172, 1, none⟩) (Kd.R_far (p := ⟨gb172, 0, none⟩) (Kd.R_far (p := ⟨gb171, 1, none⟩) (Kd.R_far (p := ⟨gb171, 0, none⟩) (Kd.R_types (Kd.R_types (Kd.R_mono HO_14.out (fun k_ hk => (⟨hk, hk.2⟩ : _ ∧ k_ ≠ gb171))) BK172.out (by decide)) BK161.out (by decide)) (fun _ hk => hk.1.1.2) (.int .i64 t163)) (fun _ hk => hk.1.1.2) (.int .i64 t164)) (fun _ hk => hk.1.2) (.slice Ao55 t165.length co55)) (fun _ hk => hk.1.2) (.int .i64 t168)) (fun _ hk => hk.1.2) (.int .i64 t169)) (fun _ hk => hk.2) (.slice Ao55 t165.length co55)) (fun _ hk => hk.2) (.int .i64 t168)) (fun _ hk => hk.2) (.int .i64 t169)) (fun _ h_ => h_.1)) (fun _ h_ => h_.1)) (fun _ h_ => h_.1)))) (by decide) hg); have n3_ := Aside0.mk (blk_grown (g := gb158) (o := .cells #[.slice none 0 0, .int .i64 0, .int .i64 0, .bool false] 69 (0, 0)) (by refine blk_far ?_ NB158_161.out _; refine blk_far ?_ NB158_161.out _; refine blk_far ?_ NB158_161.out _; refine blk_far ?_ NB158_172.out _; refine blk_far ?_ NB158_172.out _; refine blk_far ?_ NB158_172.out _; refine blk_far ?_ NB158_171.out _; refine blk_far ?_ NB158_171.out _; exact BK158.out) hg (Kd.R_ne HO_14.out BK158.out (by decide))); have n4_ := Aside0.mk (blk_grown (g := gb161) (o := .cells #[.slice Ao55 t165.length co55, .int .i64 t168, .int .i64 t169] 55 (0, 0)) (by refine blk_put (cs := #[.slice Ao55 t165.length co55, .int .i64 t168, .int .i64 x162002_2]) ?_ 2 _ rfl; refine blk_put (cs := #[.slice Ao55 t165.length co55, .int .i64 x162001_25, .int .i64 x162002_2]) ?_ 1 _ rfl; refine blk_put (cs := #[.slice Ao46 x162000_2.length co46, .int .i64 x162001_25, .int .i64 x162002_2]) ?_ 0 _ rfl; refine blk_far ?_ NB161_172.out _; refine blk_far ?_ NB161_172.out _; refine blk_far ?_ NB161_172.out _; refine blk_far ?_ NB161_171.out _; refine blk_far ?_ NB161_171.out _; exact BK161.out) hg (Kd.R_ne HO_14.out BK161.out (by decide))); have n5_ := Aside0.mk (blk_grown (g := gb162) (o := .cells #[u163000, .int .i64 x163001_2, .int .i64 x163002_2, .bool false] 69 (0, 0)) (by refine blk_far ?_ NB162_161.out _; refine blk_far ?_ NB162_161.out _; refine blk_far ?_ NB162_161.out _; refine blk_far ?_ NB162_172.out _; refine blk_far ?_ NB162_172.out _; refine blk_far ?_ NB162_172.out _; refine blk_far ?_ NB162_171.out _; refine blk_far ?_ NB162_171.out _; exact BK162.out) hg (Kd.R_ne HO_14.out BK162.out (by decide))); have n6_ := Aside0.mk (Kd.R_over' (by exact (Kd.R_mono (Kd.R_mono (Kd.R_mono (Kd.R_far (p := ⟨gb161, 2, none⟩) (Kd.R_far (p := ⟨gb161, 1, none⟩) (Kd.R_far (p := ⟨gb161, 0, none⟩) (Kd.R_far (p := ⟨gb172, 2, none⟩) (Kd.R_far (p := ⟨gb172, 1, none⟩) (Kd.R_far (p := ⟨gb172, 0, none⟩) (Kd.R_far (p := ⟨gb171, 1, none⟩) (Kd.R_far (p := ⟨gb171, 0, none⟩) (Kd.R_types (Kd.R_types (Kd.R_types HO167.out BK171.out (by decide)) BK172.out (by decide)) BK161.out (by decide)) (fun _ hk => hk.1.1.2) (.int .i64 t163)) (fun _ hk => hk.1.1.2) (.int .i64 t164)) (fun _ hk => hk.1.2) (.slice Ao55 t165.length co55)) (fun _ hk => hk.1.2) (.int .i64 t168)) (fun _ hk => hk.1.2) (.int .i64 t169)) (fun _ hk => hk.2) (.slice Ao55 t165.length co55)) (fun _ hk => hk.2) (.int .i64 t168)) (fun _ hk => hk.2) (.int .i64 t169)) (fun _ h_ => h_.1)) (fun _ h_ => h_.1)) (fun _ h_ => h_.1))) (Kd.R_typed (by exact (Kd.R_mono (Kd.R_mono (Kd.R_mono (Kd.R_far (p := ⟨gb161, 2, none⟩) (Kd.R_far (p := ⟨gb161, 1, none⟩) (Kd.R_far (p := ⟨gb161, 0, none⟩) (Kd.R_far (p := ⟨gb172, 2, none⟩) (Kd.R_far (p := ⟨gb172, 1, none⟩) (Kd.R_far (p := ⟨gb172, 0, none⟩) (Kd.R_far (p := ⟨gb171, 1, none⟩) (Kd.R_far (p := ⟨gb171, 0, none⟩) (Kd.R_types (Kd.R_types (Kd.R_mono HO_14.out (fun k_ hk => (⟨hk, hk.2⟩ : _ ∧ k_ ≠ gb171))) BK172.out (by decide)) BK161.out (by decide)) (fun _ hk => hk.1.1.2) (.int .i64 t163)) (fun _ hk => hk.1.1.2) (.int .i64 t164)) (fun _ hk => hk.1.2) (.slice Ao55 t165.length co55)) (fun _ hk => hk.1.2) (.int .i64 t168)) (fun _ hk => hk.1.2) (.int .i64 t169)) (fun _ hk => hk.2) (.slice Ao55 t165.length co55)) (fun _ hk => hk.2) (.int .i64 t168)) (fun _ hk => hk.2) (.int .i64 t169)) (fun _ h_ => h_.1)) (fun _ h_ => h_.1)) (fun _ h_ => h_.1)))) (by decide) hg); have n7_ := Aside0.mk (blk_grown (g := gb171) (o := .cells #[.int .i64 t163, .int .i64 t164] 54 (0, 0)) (by refine blk_far ?_ NB171_161.out _; refine blk_far ?_ NB171_161.out _; refine blk_far ?_ NB171_161.out _; refine blk_far ?_ NB171_172.out _; refine blk_far ?_ NB171_172.out _; refine blk_far ?_ NB171_172.out _; refine blk_put (cs := #[.int .i64 t163, .int .i64 0]) ?_ 1 _ rfl; refine blk_put (cs := #[.int .i64 0, .int .i64 0]) ?_ 0 _ rfl; exact BK171.out) hg (Kd.R_away HO_14.out (fun _ hk => hk.2))); have n8_ := Aside0.mk (blk_grown (g := gb172) (o := .cells #[.slice Ao55 t165.length co55, .int .i64 t168, .int .i64 t169] 55 (0, 0)) (by refine blk_far ?_ NB172_161.out _; refine blk_far ?_ NB172_161.out _; refine blk_far ?_ NB172_161.out _; refine blk_put (cs := #[.slice Ao55 t165.length co55, .int .i64 t168, .int .i64 0]) ?_ 2 _ rfl; refine blk_put (cs := #[.slice Ao55 t165.length co55, .int .i64 0, .int .i64 0]) ?_ 1 _ rfl; refine blk_put (cs := #[.slice none 0 0, .int .i64 0, .int .i64 0]) ?_ 0 _ rfl; refine blk_far ?_ NB172_171.out _; refine blk_far ?_ NB172_171.out _; exact BK172.out) hg (Kd.R_ne HO_14.out BK172.out (by decide))); have n9_ := Aside0.mk (hb); have n10_ := Aside0.mk (ho); clear HO_0; clear HO_162000; clear HO_163000; clear BK158; clear BK161; clear BK162; clear HO167; clear BK171; clear BK172; clear HB; clear HO_14; have HO_0 := n0_; have HO_162000 := n1_; have HO_163000 := n2_; have BK158 := n3_; have BK161 := n4_; have BK162 := n5_; have HO167 := n6_; have BK171 := n7_; have BK172 := n8_; have HB := n9_; have HO179 := n10_; clear n0_ n1_ n2_ n3_ n4_ n5_ n6_ n7_ n8_ n9_ n10_; clear ho hb hg hat; have hcz80_0 : w79.cell? ⟨gb171, 0, none⟩ = some (.int .i64 t163) := (blk_cell BK171.out 0).trans rfl; have hcz80_1 : w79.cell? ⟨gb171, 1, none⟩ = some (.int .i64 t164) := (blk_cell BK171.out 1).trans rfl; have hfz80_0 := blk_frozen BK171.out 0; have hfz80_1 := blk_frozen BK171.out 1) | ((with_reducible refine gate_builtin (b := .append) (xs := #[.tmp 95, .tmp 97]) rfl ?_); at_builtin; refine Kd.R_append k54 (w0 := w) w.heap.size rfl (.tmp 95) (.tmp 97) 37 54 (.agg #[(.int .i64 0), (.int .i64 0)]) 16 rfl Try.underlying37 info54 rfl (by decide) (by omega) v178 y177 (⟨t163, t164⟩ : S54) [.int .i64 t163, .int .i64 t164] (fun k_ => (w.heap.size ≤ k_) ∧ k_ ≠ gb171) (fun _ => False) rfl rfl ?aP (fun _ hk => hk.elim) ?aF ?aO ?aB ?aS ?aL ?_; (case aP => exact k54_mkM _ _ _ (⟨t163, t164⟩ : S54)); (case aB => exact (by repeat (first | (with_reducible first | exact HB.out | apply below_alloc | apply pw_below_drewN | apply below_drew1 | refine below_set ?_ GE158.out | refine below_set ?_ GE161.out | refine below_set ?_ GE162.out | refine below_set ?_ GE171.out | refine below_set ?_ GE172.out) | exact HB.out))); (case aF => exact (fun k_ hk => ⟨(Nat.le_trans (below_size (by repeat (first | (with_reducible first | exact HB.out | apply below_alloc | apply pw_below_drewN | apply below_drew1 | refine below_set ?_ GE158.out | refine below_set ?_ GE161.out | refine below_set ?_ GE162.out | refine below_set ?_ GE171.out | refine below_set ?_ GE172.out) | exact HB.out))) hk), Kd.freshB (g := gb171) (o := .cells #[.int .i64 t163, .int .i64 t164] 54 (0, 0)) BK171.out k_ hk⟩)); (case aO => exact HO179.out); (case aS => exact (below_size (by repeat (first | (with_reducible first | exact HB.out | apply below_alloc | apply pw_below_drewN | apply below_drew1 | refine below_set ?_ GE158.out | refine below_set ?_ GE161.out | refine below_set ?_ GE162.out | refine below_set ?_ GE171.out | refine below_set ?_ GE172.out) | exact HB.out)))); (case aL => have := LMc73.out; omega); intro v181 w81 ho hb hg hat; rw [← Ny180.out] at ho; have n0_ := Aside0.mk (Kd.V_afterv (ok := (fun k_ => (P0_ k_ ∨ w.heap.size ≤ k_) ∧ some k_ ≠ (u163000 : Value).ownBlock ∧ some k_ ≠ (.slice Ao55 t165.length co55 : Value).ownBlock ∧ k_ ≠ gb158 ∧ k_ ≠ gb161 ∧ k_ ≠ gb162 ∧ k_ ≠ gb171 ∧ k_ ≠ gb172)) (by (with_reducible repeat (first | apply Kd.V_alloc | apply Kd.V_drewN | apply Kd.V_drew)); exact HO_0.out) hg hat); have n1_ := Aside0.mk (Kd.V_afterv (ok := (fun k_ => (P0_ k_ ∨ w.heap.size ≤ k_) ∧ some k_ ≠ (u163000 : Value).ownBlock ∧ some k_ ≠ (.slice Ao55 t165.length co55 : Value).ownBlock ∧ k_ ≠ gb158 ∧ k_ ≠ gb161 ∧ k_ ≠ gb162 ∧ k_ ≠ gb171 ∧ k_ ≠ gb172)) (by (with_reducible repeat (first | apply Kd.V_alloc | apply Kd.V_drewN | apply Kd.V_drew)); exact HO_162000.out) hg hat); have n2_ := Aside0.mk (Kd.R_over' HO_163000.out (Kd.R_typed HO179.out) (by decide) hg); have n3_ := Aside0.mk (blk_grown (g := gb158) (o := .cells #[.slice none 0 0, .int .i64 0, .int .i64 0, .bool false] 69 (0, 0)) BK158.out hg (Kd.R_ne HO179.out BK158.out (by decide))); have n4_ := Aside0.mk (blk_grown (g := gb161) (o := .cells #[.slice Ao55 t165.length co55, .int .i64 t168, .int .i64 t169] 55 (0, 0)) BK161.out hg (Kd.R_ne HO179.out BK161.out (by decide))); have n5_ := Aside0.mk (blk_grown (g := gb162) (o := .cells #[u163000, .int .i64 x163001_2, .int .i64 x163002_2, .bool false] 69 (0, 0)) BK162.out hg (Kd.R_ne HO179.out BK162.out (by decide))); have n6_ := Aside0.mk (Kd.R_over' HO167.out (Kd.R_typed HO179.out) (by decide) hg); have n7_ := Aside0.mk (blk_grown (g := gb171) (o := .cells #[.int .i64 t163, .int .i64 t164] 54 (0, 0)) BK171.out hg (Kd.R_away HO179.out (fun _ hk => hk.2))); have n8_ := Aside0.mk (blk_grown (g := gb172) (o := .cells #[.slice Ao55 t165.length co55, .int .i64 t168, .int .i64 t169] 55 (0, 0)) BK172.out hg (Kd.R_ne HO179.out BK172.out (by decide))); have n9_ := Aside0.mk (hb); have n10_ := Aside0.mk (ho); clear HO_0; clear HO_162000; clear HO_163000; clear BK158; clear BK161; clear BK162; clear HO167; clear BK171; clear BK172; clear HB; clear HO179; have HO_0 := n0_; have HO_162000 := n1_; have HO_163000 := n2_; have BK158 := n3_; have BK161 := n4_; have BK162 := n5_; have HO167 := n6_; have BK171 := n7_; have BK172 := n8_; have HB := n9_; have HO182 := n10_; clear n0_ n1_ n2_ n3_ n4_ n5_ n6_ n7_ n8_ n9_ n10_; clear ho hb hg hat))
                                    go_meet
                                    case rel => exact ⟨_, (([] : List (S54))), (y180), H', ⟨by have := HJ5.out; have := HK2.out; have := HJ25.out; first | omega | exact Nat.le_refl _⟩, ⟨by (with_reducible repeat (first | apply Kd.V_alloc | apply Kd.V_drewN | apply Kd.V_drew)); exact Kd.V_mono HO_0.out (fun _ hk => ⟨hk.1.1, ⟨(by simp [Value.ownBlock]), ⟨hk.2, ⟨hk.1.2.2.1, ⟨hk.1.2.1, ⟨hk.1.2.2.1, ⟨hk.1.2.2.2.1, ⟨hk.1.2.2.2.2.1, ⟨hk.1.2.2.2.2.2.1, ⟨hk.1.2.2.2.2.2.2.1, hk.1.2.2.2.2.2.2.2⟩⟩⟩⟩⟩⟩⟩⟩⟩⟩)⟩, ⟨by first | exact Kd.R_nil _ _ _ _ _ | exact Kd.N_nil _ _ _ _ _ | exact Kd.V_nil _ _ _ _ _ | exact Kd.Q_nil _ _ _ _ _ | exact Kd.S_nil _ _ _ _ _⟩, ⟨by exact Kd.R_mono HO182.out (fun _ hk => ⟨hk.1, ⟨(by simp [Value.ownBlock]), hk.2⟩⟩)⟩, ⟨by exact Kd.R_mono HO167.out (fun _ hk => ⟨hk.1.1, hk.2⟩)⟩, ⟨by exact Kd.R_mono HO_163000.out (fun _ hk => ⟨hk.1, ⟨hk.2, hk.2⟩⟩)⟩, ⟨by exact Kd.R_mono HO167.out (fun _ hk => ⟨hk.1.1, hk.2⟩)⟩, ⟨by exact BK158.out⟩, ⟨by exact BK161.out⟩, ⟨by exact BK162.out⟩, ⟨by exact BK171.out⟩, ⟨by exact BK172.out⟩, ⟨by repeat (first | (with_reducible first | exact HB.out | apply below_alloc | apply pw_below_drewN | apply below_drew1 | refine below_set ?_ GE158.out | refine below_set ?_ GE161.out | refine below_set ?_ GE162.out | refine below_set ?_ GE171.out | refine below_set ?_ GE172.out) | exact HB.out)⟩⟩
                                  · rw [if_neg c73] at H
                                    exact absurd H (by simp)
                                · rw [if_neg c72] at H
                                  exact absurd H (by simp)
                              · rw [if_neg c71] at H
                                have c71b0 : ((rd l2 (ji39)) == 2) = false := beq_eq_false_iff_ne.mpr c71
                                have c71b1 : ((rd l2 (ji39)) != 2) = true := bne_iff_ne.mpr c71
                                by_cases c82 : (rd l2 (ji39)) = 3
                                · rw [if_pos c82] at H
                                  have c82b0 : ((rd l2 (ji39)) == 3) = true := beq_iff_eq.mpr c82
                                  have c82b1 : ((rd l2 (ji39)) != 3) = false := bne_eq_false_iff_eq.mpr c82
                                  clear c82
                                  by_cases c83 : ([] : List (S54)).length < 8796093022208
                                  · rw [if_pos c83] at H
                                    have LMc83 := Aside0.mk c83
                                    clear c83
                                    obtain ⟨y183, hy183⟩ : ∃ y_ : List (S54), y_ = (([] : List (S54)) ++ [(⟨t163, t164⟩ : S54)]) := ⟨_, rfl⟩
                                    replace H : (spec_TalkAll.j3 kj25 l0 a1 l2 l3 a4 y183 0 x14_2 t165 t168 t169 x163000_2 x163001_2 x163002_2 false) = some (r1, r2, r3, r4, r5) := by first | (rw [hy183]; with_reducible exact H) | (have H2_ := (Option.bind_some _ _).symm.trans H; rw [hy183]; with_reducible exact H2_) | (have H2_ := (Option.bind_some _ _).symm.trans H; with_reducible exact H2_) | with_reducible exact H | (rw [hy183]; exact H) | exact H
                                    have Ny183 := Aside0.mk hy183
                                    clear hy183
                                    have H' := Aside0.mk H
                                    clear H
                                    have hnb84 := NB171_158.out
                                    have hnc84 := NB158_171.out
                                    have hnb85 := NB171_161.out
                                    have hnc85 := NB161_171.out
                                    have hnb86 := NB171_162.out
                                    have hnc86 := NB162_171.out
                                    have hnb87 := NB171_172.out
                                    have hnc87 := NB172_171.out
                                    have hcz88_0 : w49.cell? ⟨gb171, 0, none⟩ = some (.int .i64 0) := (blk_cell BK171.out 0).trans rfl
                                    have hcz88_1 : w49.cell? ⟨gb171, 1, none⟩ = some (.int .i64 0) := (blk_cell BK171.out 1).trans rfl
                                    have hfz88_0 := blk_frozen BK171.out 0
                                    have hfz88_1 := blk_frozen BK171.out 1
                                    go_wp2_with (first | ((with_reducible refine gate_builtin (b := .append) (xs := #[.tmp 101, .tmp 103]) rfl ?_); at_builtin; refine Kd.R_append k54 (w0 := w) w.heap.size rfl (.tmp 101) (.tmp 103) 37 54 (.agg #[(.int .i64 0), (.int .i64 0)]) 16 rfl Try.underlying37 info54 rfl (by decide) (by omega) (.slice none 0 0) ([] : List (S54)) (⟨t163, t164⟩ : S54) [.int .i64 t163, .int .i64 t164] (fun k_ => (w.heap.size ≤ k_) ∧ some k_ ≠ (u14 : Value).ownBlock ∧ k_ ≠ gb171) (fun _ => False) rfl (by first | (go_simp; done) | (go_simp; rfl)) ?aP (fun _ hk => hk.elim) ?aF ?aO ?aB ?aS ?aL ?_; (case aP => exact k54_mkM _ _ _ (⟨t163, t164⟩ : S54)); (case aB => exact (by repeat (first | (with_reducible first | exact HB.out | apply below_alloc | apply pw_below_drewN | apply below_drew1 | refine below_set ?_ GE158.out | refine below_set ?_ GE161.out | refine below_set ?_ GE162.out | refine below_set ?_ GE171.out | refine below_set ?_ GE172.out) | exact HB.out))); (case aF => exact (fun k_ hk => ⟨(Nat.le_trans (below_size (by repeat (first | (with_reducible first | exact HB.out | apply below_alloc | apply pw_below_drewN | apply below_drew1 | refine below_set ?_ GE158.out | refine below_set ?_ GE161.out | refine below_set ?_ GE162.out | refine below_set ?_ GE171.out | refine below_set ?_ GE172.out) | exact HB.out))) hk), Kd.fresh' (Kd.R_lt (by exact (Kd.R_mono (Kd.R_mono (Kd.R_mono (Kd.R_far (p := ⟨gb161, 2, none⟩) (Kd.R_far (p := ⟨gb161, 1, none⟩) (Kd.R_far (p := ⟨gb161, 0, none⟩) (Kd.R_far (p := ⟨gb172, 2, none⟩) (Kd.R_far (p := ⟨gb172, 1, none⟩) (Kd.R_far (p := ⟨gb172, 0, none⟩) (Kd.R_far (p := ⟨gb171, 1, none⟩) (Kd.R_far (p := ⟨gb171, 0, none⟩) (Kd.R_types (Kd.R_types (Kd.R_mono HO_14.out (fun k_ hk => (⟨hk, hk.2⟩ : _ ∧ k_ ≠ gb171))) BK172.out (by decide)) BK161.out (by decide)) (fun _ hk => hk.1.1.2) (.int .i64 t163)) (fun _ hk => hk.1.1.2) (.int .i64 t164)) (fun _ hk => hk.1.2) (.slice Ao55 t165.length co55)) (fun _ hk => hk.1.2) (.int .i64 t168)) (fun _ hk => hk.1.2) (.int .i64 t169)) (fun _ hk => hk.2) (.slice Ao55 t165.length co55)) (fun _ hk => hk.2) (.int .i64 t168)) (fun _ hk => hk.2) (.int .i64 t169)) (fun _ h_ => h_.1)) (fun _ h_ => h_.1)) (fun _ h_ => h_.1)))) k_ hk, Kd.freshB (g := gb171) (o := .cells #[.int .i64 t163, .int .i64 t164] 54 (0, 0)) (by refine blk_far ?_ NB171_161.out _; refine blk_far ?_ NB171_161.out _; refine blk_far ?_ NB171_161.out _; refine blk_far ?_ NB171_172.out _; refine blk_far ?_ NB171_172.out _; refine blk_far ?_ NB171_172.out _; refine blk_put (cs := #[.int .i64 t163, .int .i64 0]) ?_ 1 _ rfl; refine blk_put (cs := #[.int .i64 0, .int .i64 0]) ?_ 0 _ rfl; exact BK171.out) k_ hk⟩)); (case aO => exact ((Kd.R_nil _ _ _ _ (fun k_ => (w.heap.size ≤ k_) ∧ some k_ ≠ (u14 : Value).ownBlock ∧ k_ ≠ gb171)))); (case aS => exact (below_size (by repeat (first | (with_reducible first | exact HB.out | apply below_alloc | apply pw_below_drewN | apply below_drew1 | refine below_set ?_ GE158.out | refine below_set ?_ GE161.out | refine below_set ?_ GE162.out | refine below_set ?_ GE171.out | refine below_set ?_ GE172.out) | exact HB.out)))); (case aL => have := LMc83.out; omega); intro v184 w89 ho hb hg hat; rw [← Ny183.out] at ho; have n0_ := Aside0.mk (Kd.V_afterv (Kd.V_apart_nil (by (with_reducible repeat (first | apply Kd.V_alloc | apply Kd.V_drewN | apply Kd.V_drew)); exact (Kd.V_mono (Kd.V_mono (Kd.V_mono (Kd.V_far (p := ⟨gb161, 2, none⟩) (Kd.V_far (p := ⟨gb161, 1, none⟩) (Kd.V_far (p := ⟨gb161, 0, none⟩) (Kd.V_far (p := ⟨gb172, 2, none⟩) (Kd.V_far (p := ⟨gb172, 1, none⟩) (Kd.V_far (p := ⟨gb172, 0, none⟩) (Kd.V_far (p := ⟨gb171, 1, none⟩) (Kd.V_far (p := ⟨gb171, 0, none⟩) (Kd.V_mono (Kd.V_mono (Kd.V_mono HO_0.out (fun k_ hk => (⟨hk, hk.1.2⟩ : _ ∧ k_ ≠ gb171))) (fun k_ hk => (⟨hk, hk.1.2⟩ : _ ∧ k_ ≠ gb172))) (fun k_ hk => (⟨hk, hk.1.1.1.1.1.2.2.2.2.1⟩ : _ ∧ k_ ≠ gb161))) (fun _ hk => hk.1.1.2) (.int .i64 t163)) (fun _ hk => hk.1.1.2) (.int .i64 t164)) (fun _ hk => hk.1.2) (.slice Ao55 t165.length co55)) (fun _ hk => hk.1.2) (.int .i64 t168)) (fun _ hk => hk.1.2) (.int .i64 t169)) (fun _ hk => hk.2) (.slice Ao55 t165.length co55)) (fun _ hk => hk.2) (.int .i64 t168)) (fun _ hk => hk.2) (.int .i64 t169)) (fun _ h_ => h_.1)) (fun _ h_ => h_.1)) (fun _ h_ => h_.1)))) hg hat); have n1_ := Aside0.mk (Kd.R_after (Kd.R_apart_nil (by exact (Kd.R_mono (Kd.R_mono (Kd.R_mono (Kd.R_far (p := ⟨gb161, 2, none⟩) (Kd.R_far (p := ⟨gb161, 1, none⟩) (Kd.R_far (p := ⟨gb161, 0, none⟩) (Kd.R_far (p := ⟨gb172, 2, none⟩) (Kd.R_far (p := ⟨gb172, 1, none⟩) (Kd.R_far (p := ⟨gb172, 0, none⟩) (Kd.R_far (p := ⟨gb171, 1, none⟩) (Kd.R_far (p := ⟨gb171, 0, none⟩) (Kd.R_types (Kd.R_types (Kd.R_mono HO_14.out (fun k_ hk => (⟨hk, hk.2⟩ : _ ∧ k_ ≠ gb171))) BK172.out (by decide)) BK161.out (by decide)) (fun _ hk => hk.1.1.2) (.int .i64 t163)) (fun _ hk => hk.1.1.2) (.int .i64 t164)) (fun _ hk => hk.1.2) (.slice Ao55 t165.length co55)) (fun _ hk => hk.1.2) (.int .i64 t168)) (fun _ hk => hk.1.2) (.int .i64 t169)) (fun _ hk => hk.2) (.slice Ao55 t165.length co55)) (fun _ hk => hk.2) (.int .i64 t168)) (fun _ hk => hk.2) (.int .i64 t169)) (fun _ h_ => h_.1)) (fun _ h_ => h_.1)) (fun _ h_ => h_.1)))) hg hat); have n2_ := Aside0.mk (Kd.V_afterv (Kd.V_apart_nil (by (with_reducible repeat (first | apply Kd.V_alloc | apply Kd.V_drewN | apply Kd.V_drew)); exact (Kd.V_mono (Kd.V_mono (Kd.V_mono (Kd.V_far (p := ⟨gb161, 2, none⟩) (Kd.V_far (p := ⟨gb161, 1, none⟩) (Kd.V_far (p := ⟨gb161, 0, none⟩) (Kd.V_far (p := ⟨gb172, 2, none⟩) (Kd.V_far (p := ⟨gb172, 1, none⟩) (Kd.V_far (p := ⟨gb172, 0, none⟩) (Kd.V_far (p := ⟨gb171, 1, none⟩) (Kd.V_far (p := ⟨gb171, 0, none⟩) (Kd.V_mono (Kd.V_mono (Kd.V_mono HO_162000.out (fun k_ hk => (⟨hk, hk.1.2⟩ : _ ∧ k_ ≠ gb171))) (fun k_ hk => (⟨hk, hk.1.2⟩ : _ ∧ k_ ≠ gb172))) (fun k_ hk => (⟨hk, hk.1.1.1.1.1.2.2.2.2.1⟩ : _ ∧ k_ ≠ gb161))) (fun _ hk => hk.1.1.2) (.int .i64 t163)) (fun _ hk => hk.1.1.2) (.int .i64 t164)) (fun _ hk => hk.1.2) (.slice Ao55 t165.length co55)) (fun _ hk => hk.1.2) (.int .i64 t168)) (fun _ hk => hk.1.2) (.int .i64 t169)) (fun _ hk => hk.2) (.slice Ao55 t165.length co55)) (fun _ hk => hk.2) (.int .i64 t168)) (fun _ hk => hk.2) (.int .i64 t169)) (fun _ h_ => h_.1)) (fun _ h_ => h_.1)) (fun _ h_ => h_.1)))) hg hat); have n3_ := Aside0.mk (Kd.R_grown (by exact (Kd.R_mono (Kd.R_mono (Kd.R_mono (Kd.R_far (p := ⟨gb161, 2, none⟩) (Kd.R_far (p := ⟨gb161, 1, none⟩) (Kd.R_far (p := ⟨gb161, 0, none⟩) (Kd.R_far (p := ⟨gb172, 2, none⟩) (Kd.R_far (p := ⟨gb172, 1, none⟩) (Kd.R_far (p := ⟨gb172, 0, none⟩) (Kd.R_far (p := ⟨gb171, 1, none⟩) (Kd.R_far (p := ⟨gb171, 0, none⟩) (Kd.R_types (Kd.R_types (Kd.R_types HO_163000.out BK171.out (by decide)) BK172.out (by decide)) BK161.out (by decide)) (fun _ hk => hk.1.1.2) (.int .i64 t163)) (fun _ hk => hk.1.1.2) (.int .i64 t164)) (fun _ hk => hk.1.2) (.slice Ao55 t165.length co55)) (fun _ hk => hk.1.2) (.int .i64 t168)) (fun _ hk => hk.1.2) (.int .i64 t169)) (fun _ hk => hk.2) (.slice Ao55 t165.length co55)) (fun _ hk => hk.2) (.int .i64 t168)) (fun _ hk => hk.2) (.int .i64 t169)) (fun _ h_ => h_.1)) (fun _ h_ => h_.1)) (fun _ h_ => h_.1))) hg (fun _ _ => by simp [Value.ownBlock])); have n4_ := Aside0.mk (blk_grown (g := gb158) (o := .cells #[.slice none 0 0, .int .i64 0, .int .i64 0, .bool false] 69 (0, 0)) (by refine blk_far ?_ NB158_161.out _; refine blk_far ?_ NB158_161.out _; refine blk_far ?_ NB158_161.out _; refine blk_far ?_ NB158_172.out _; refine blk_far ?_ NB158_172.out _; refine blk_far ?_ NB158_172.out _; refine blk_far ?_ NB158_171.out _; refine blk_far ?_ NB158_171.out _; exact BK158.out) hg (by simp [Value.ownBlock])); have n5_ := Aside0.mk (blk_grown (g := gb161) (o := .cells #[.slice Ao55 t165.length co55, .int .i64 t168, .int .i64 t169] 55 (0, 0)) (by refine blk_put (cs := #[.slice Ao55 t165.length co55, .int .i64 t168, .int .i64 x162002_2]) ?_ 2 _ rfl; refine blk_put (cs := #[.slice Ao55 t165.length co55, .int .i64 x162001_25, .int .i64 x162002_2]) ?_ 1 _ rfl; refine blk_put (cs := #[.slice Ao46 x162000_2.length co46, .int .i64 x162001_25, .int .i64 x162002_2]) ?_ 0 _ rfl; refine blk_far ?_ NB161_172.out _; refine blk_far ?_ NB161_172.out _; refine blk_far ?_ NB161_172.out _; refine blk_far ?_ NB161_171.out _; refine blk_far ?_ NB161_171.out _; exact BK161.out) hg (by simp [Value.ownBlock])); have n6_ := Aside0.mk (blk_grown (g := gb162) (o := .cells #[u163000, .int .i64 x163001_2, .int .i64 x163002_2, .bool false] 69 (0, 0)) (by refine blk_far ?_ NB162_161.out _; refine blk_far ?_ NB162_161.out _; refine blk_far ?_ NB162_161.out _; refine blk_far ?_ NB162_172.out _; refine blk_far ?_ NB162_172.out _; refine blk_far ?_ NB162_172.out _; refine blk_far ?_ NB162_171.out _; refine blk_far ?_ NB162_171.out _; exact BK162.out) hg (by simp [Value.ownBlock])); have n7_ := Aside0.mk (Kd.R_grown (by exact (Kd.R_mono (Kd.R_mono (Kd.R_mono (Kd.R_far (p := ⟨gb161, 2, none⟩) (Kd.R_far (p := ⟨gb161, 1, none⟩) (Kd.R_far (p := ⟨gb161, 0, none⟩) (Kd.R_far (p := ⟨gb172, 2, none⟩) (Kd.R_far (p := ⟨gb172, 1, none⟩) (Kd.R_far (p := ⟨gb172, 0, none⟩) (Kd.R_far (p := ⟨gb171, 1, none⟩) (Kd.R_far (p := ⟨gb171, 0, none⟩) (Kd.R_types (Kd.R_types (Kd.R_types HO167.out BK171.out (by decide)) BK172.out (by decide)) BK161.out (by decide)) (fun _ hk => hk.1.1.2) (.int .i64 t163)) (fun _ hk => hk.1.1.2) (.int .i64 t164)) (fun _ hk => hk.1.2) (.slice Ao55 t165.length co55)) (fun _ hk => hk.1.2) (.int .i64 t168)) (fun _ hk => hk.1.2) (.int .i64 t169)) (fun _ hk => hk.2) (.slice Ao55 t165.length co55)) (fun _ hk => hk.2) (.int .i64 t168)) (fun _ hk => hk.2) (.int .i64 t169)) (fun _ h_ => h_.1)) (fun _ h_ => h_.1)) (fun _ h_ => h_.1))) hg (fun _ _ => by simp [Value.ownBlock])); have n8_ := Aside0.mk (blk_grown (g := gb171) (o := .cells #[.int .i64 t163, .int .i64 t164] 54 (0, 0)) (by refine blk_far ?_ NB171_161.out _; refine blk_far ?_ NB171_161.out _; refine blk_far ?_ NB171_161.out _; refine blk_far ?_ NB171_172.out _; refine blk_far ?_ NB171_172.out _; refine blk_far ?_ NB171_172.out _; refine blk_put (cs := #[.int .i64 t163, .int .i64 0]) ?_ 1 _ rfl; refine blk_put (cs := #[.int .i64 0, .int .i64 0]) ?_ 0 _ rfl; exact BK171.out) hg (by simp [Value.ownBlock])); have n9_ := Aside0.mk (blk_grown (g := gb172) (o := .cells #[.slice Ao55 t165.length co55, .int .i64 t168, .int .i64 t169] 55 (0, 0)) (by refine blk_far ?_ NB172_161.out _; refine blk_far ?_ NB172_161.out _; refine blk_far ?_ NB172_161.out _; refine blk_put (cs := #[.slice Ao55 t165.length co55, .int .i64 t168, .int .i64 0]) ?_ 2 _ rfl; refine blk_put (cs := #[.slice Ao55 t165.length co55, .int .i64 0, .int .i64 0]) ?_ 1 _ rfl; refine blk_put (cs := #[.slice none 0 0, .int .i64 0, .int .i64 0]) ?_ 0 _ rfl; refine blk_far ?_ NB172_171.out _; refine blk_far ?_ NB172_171.out _; exact BK172.out) hg (by simp [Value.ownBlock])); have n10_ := Aside0.mk (hb); have n11_ := Aside0.mk (ho); clear HO_0; clear HO_14; clear HO_162000; clear HO_163000; clear BK158; clear BK161; clear BK162; clear HO167; clear BK171; clear BK172; clear HB; have HO_0 := n0_; have HO_14 := n1_; have HO_162000 := n2_; have HO_163000 := n3_; have BK158 := n4_; have BK161 := n5_; have BK162 := n6_; have HO167 := n7_; have BK171 := n8_; have BK172 := n9_; have HB := n10_; have HO185 := n11_; clear n0_ n1_ n2_ n3_ n4_ n5_ n6_ n7_ n8_ n9_ n10_ n11_; clear ho hb hg hat))
                                    go_meet
                                    case rel => exact ⟨_, (y183), (x14_2), H', ⟨by have := HJ5.out; have := HK2.out; have := HJ25.out; first | omega | exact Nat.le_refl _⟩, ⟨by (with_reducible repeat (first | apply Kd.V_alloc | apply Kd.V_drewN | apply Kd.V_drew)); exact Kd.V_mono HO_0.out (fun _ hk => ⟨hk.1.1.1.1.1, ⟨hk.2, ⟨hk.1.1.1.1.2.1, ⟨hk.1.1.1.2, ⟨hk.1.1.1.1.2.2.1, ⟨hk.1.1.1.2, ⟨hk.1.1.1.1.2.2.2.1, ⟨hk.1.1.1.1.2.2.2.2.1, ⟨hk.1.1.1.1.2.2.2.2.2, ⟨hk.1.1.2, hk.1.2⟩⟩⟩⟩⟩⟩⟩⟩⟩⟩)⟩, ⟨by exact HO185.out⟩, ⟨by exact Kd.R_mono HO_14.out (fun _ hk => ⟨hk.1.1, ⟨hk.2, hk.1.2⟩⟩)⟩, ⟨by exact Kd.R_mono HO167.out (fun _ hk => ⟨hk.1.1, hk.2⟩)⟩, ⟨by exact Kd.R_mono HO_163000.out (fun _ hk => ⟨hk.1, ⟨hk.2, hk.2⟩⟩)⟩, ⟨by exact Kd.R_mono HO167.out (fun _ hk => ⟨hk.1.1, hk.2⟩)⟩, ⟨by exact BK158.out⟩, ⟨by exact BK161.out⟩, ⟨by exact BK162.out⟩, ⟨by exact BK171.out⟩, ⟨by exact BK172.out⟩, ⟨by repeat (first | (with_reducible first | exact HB.out | apply below_alloc | apply pw_below_drewN | apply below_drew1 | refine below_set ?_ GE158.out | refine below_set ?_ GE161.out | refine below_set ?_ GE162.out | refine below_set ?_ GE171.out | refine below_set ?_ GE172.out) | exact HB.out)⟩⟩
                                  · rw [if_neg c83] at H
                                    exact absurd H (by simp)
                                · rw [if_neg c82] at H
                                  have c82b0 : ((rd l2 (ji39)) == 3) = false := beq_eq_false_iff_ne.mpr c82
                                  have c82b1 : ((rd l2 (ji39)) != 3) = true := bne_iff_ne.mpr c82
                                  have H' := Aside0.mk H
                                  clear H
                                  go_wp2
                                  go_meet
                                  case rel => exact ⟨_, (([] : List (S54))), (x14_2), H', ⟨by have := HJ5.out; have := HK2.out; have := HJ25.out; first | omega | exact Nat.le_refl _⟩, ⟨by (with_reducible repeat (first | apply Kd.V_alloc | apply Kd.V_drewN | apply Kd.V_drew)); exact Kd.V_mono (Kd.V_far (p := ⟨gb161, 2, none⟩) (Kd.V_far (p := ⟨gb161, 1, none⟩) (Kd.V_far (p := ⟨gb161, 0, none⟩) (Kd.V_far (p := ⟨gb172, 2, none⟩) (Kd.V_far (p := ⟨gb172, 1, none⟩) (Kd.V_far (p := ⟨gb172, 0, none⟩) (Kd.V_far (p := ⟨gb171, 1, none⟩) (Kd.V_far (p := ⟨gb171, 0, none⟩) (Kd.V_mono (Kd.V_mono (Kd.V_mono HO_0.out (fun k_ hk => (⟨hk, hk.1.2⟩ : _ ∧ k_ ≠ gb171))) (fun k_ hk => (⟨hk, hk.1.2⟩ : _ ∧ k_ ≠ gb172))) (fun k_ hk => (⟨hk, hk.1.1.1.1.1.2.2.2.2.1⟩ : _ ∧ k_ ≠ gb161))) (fun _ hk => hk.1.1.2) (.int .i64 t163)) (fun _ hk => hk.1.1.2) (.int .i64 t164)) (fun _ hk => hk.1.2) (.slice Ao55 t165.length co55)) (fun _ hk => hk.1.2) (.int .i64 t168)) (fun _ hk => hk.1.2) (.int .i64 t169)) (fun _ hk => hk.2) (.slice Ao55 t165.length co55)) (fun _ hk => hk.2) (.int .i64 t168)) (fun _ hk => hk.2) (.int .i64 t169)) (fun _ hk => ⟨hk.1.1.1.1.1.1.1, ⟨(by simp [Value.ownBlock]), ⟨hk.1.1.1.1.1.1.2.1, ⟨hk.1.1.1.1.1.2, ⟨hk.1.1.1.1.1.1.2.2.1, ⟨hk.1.1.1.1.1.2, ⟨hk.1.1.1.1.1.1.2.2.2.1, ⟨hk.1.1.1.1.1.1.2.2.2.2.1, ⟨hk.1.1.1.1.1.1.2.2.2.2.2, ⟨hk.1.1.1.1.2, hk.1.1.1.2⟩⟩⟩⟩⟩⟩⟩⟩⟩⟩)⟩, ⟨by first | exact Kd.R_nil _ _ _ _ _ | exact Kd.N_nil _ _ _ _ _ | exact Kd.V_nil _ _ _ _ _ | exact Kd.Q_nil _ _ _ _ _ | exact Kd.S_nil _ _ _ _ _⟩, ⟨by exact Kd.R_mono (Kd.R_far (p := ⟨gb161, 2, none⟩) (Kd.R_far (p := ⟨gb161, 1, none⟩) (Kd.R_far (p := ⟨gb161, 0, none⟩) (Kd.R_far (p := ⟨gb172, 2, none⟩) (Kd.R_far (p := ⟨gb172, 1, none⟩) (Kd.R_far (p := ⟨gb172, 0, none⟩) (Kd.R_far (p := ⟨gb171, 1, none⟩) (Kd.R_far (p := ⟨gb171, 0, none⟩) (Kd.R_types (Kd.R_types (Kd.R_mono HO_14.out (fun k_ hk => (⟨hk, hk.2⟩ : _ ∧ k_ ≠ gb171))) BK172.out (by decide)) BK161.out (by decide)) (fun _ hk => hk.1.1.2) (.int .i64 t163)) (fun _ hk => hk.1.1.2) (.int .i64 t164)) (fun _ hk => hk.1.2) (.slice Ao55 t165.length co55)) (fun _ hk => hk.1.2) (.int .i64 t168)) (fun _ hk => hk.1.2) (.int .i64 t169)) (fun _ hk => hk.2) (.slice Ao55 t165.length co55)) (fun _ hk => hk.2) (.int .i64 t168)) (fun _ hk => hk.2) (.int .i64 t169)) (fun _ hk => ⟨hk.1.1.1.1, ⟨(by simp [Value.ownBlock]), hk.1.1.1.2⟩⟩)⟩, ⟨by exact Kd.R_mono (Kd.R_far (p := ⟨gb161, 2, none⟩) (Kd.R_far (p := ⟨gb161, 1, none⟩) (Kd.R_far (p := ⟨gb161, 0, none⟩) (Kd.R_far (p := ⟨gb172, 2, none⟩) (Kd.R_far (p := ⟨gb172, 1, none⟩) (Kd.R_far (p := ⟨gb172, 0, none⟩) (Kd.R_far (p := ⟨gb171, 1, none⟩) (Kd.R_far (p := ⟨gb171, 0, none⟩) (Kd.R_types (Kd.R_types (Kd.R_types HO167.out BK171.out (by decide)) BK172.out (by decide)) BK161.out (by decide)) (fun _ hk => hk.1.1.2) (.int .i64 t163)) (fun _ hk => hk.1.1.2) (.int .i64 t164)) (fun _ hk => hk.1.2) (.slice Ao55 t165.length co55)) (fun _ hk => hk.1.2) (.int .i64 t168)) (fun _ hk => hk.1.2) (.int .i64 t169)) (fun _ hk => hk.2) (.slice Ao55 t165.length co55)) (fun _ hk => hk.2) (.int .i64 t168)) (fun _ hk => hk.2) (.int .i64 t169)) (fun _ hk => ⟨hk.1.1.1.1.1, hk.1.1.1.2⟩)⟩, ⟨by exact Kd.R_mono (Kd.R_far (p := ⟨gb161, 2, none⟩) (Kd.R_far (p := ⟨gb161, 1, none⟩) (Kd.R_far (p := ⟨gb161, 0, none⟩) (Kd.R_far (p := ⟨gb172, 2, none⟩) (Kd.R_far (p := ⟨gb172, 1, none⟩) (Kd.R_far (p := ⟨gb172, 0, none⟩) (Kd.R_far (p := ⟨gb171, 1, none⟩) (Kd.R_far (p := ⟨gb171, 0, none⟩) (Kd.R_types (Kd.R_types (Kd.R_types HO_163000.out BK171.out (by decide)) BK172.out (by decide)) BK161.out (by decide)) (fun _ hk => hk.1.1.2) (.int .i64 t163)) (fun _ hk => hk.1.1.2) (.int .i64 t164)) (fun _ hk => hk.1.2) (.slice Ao55 t165.length co55)) (fun _ hk => hk.1.2) (.int .i64 t168)) (fun _ hk => hk.1.2) (.int .i64 t169)) (fun _ hk => hk.2) (.slice Ao55 t165.length co55)) (fun _ hk => hk.2) (.int .i64 t168)) (fun _ hk => hk.2) (.int .i64 t169)) (fun _ hk => ⟨hk.1.1.1.1, ⟨hk.1.1.1.2, hk.1.1.1.2⟩⟩)⟩, ⟨by exact Kd.R_mono (Kd.R_far (p := ⟨gb161, 2, none⟩) (Kd.R_far (p := ⟨gb161, 1, none⟩) (Kd.R_far (p := ⟨gb161, 0, none⟩) (Kd.R_far (p := ⟨gb172, 2, none⟩) (Kd.R_far (p := ⟨gb172, 1, none⟩) (Kd.R_far (p := ⟨gb172, 0, none⟩) (Kd.R_far (p := ⟨gb171, 1, none⟩) (Kd.R_far (p := ⟨gb171, 0, none⟩) (Kd.R_types (Kd.R_types (Kd.R_types HO167.out BK171.out (by decide)) BK172.out (by decide)) BK161.out (by decide)) (fun _ hk => hk.1.1.2) (.int .i64 t163)) (fun _ hk => hk.1.1.2) (.int .i64 t164)) (fun _ hk => hk.1.2) (.slice Ao55 t165.length co55)) (fun _ hk => hk.1.2) (.int .i64 t168)) (fun _ hk => hk.1.2) (.int .i64 t169)) (fun _ hk => hk.2) (.slice Ao55 t165.length co55)) (fun _ hk => hk.2) (.int .i64 t168)) (fun _ hk => hk.2) (.int .i64 t169)) (fun _ hk => ⟨hk.1.1.1.1.1, hk.1.1.1.2⟩)⟩, ⟨by refine blk_far ?_ NB158_161.out _; refine blk_far ?_ NB158_161.out _; refine blk_far ?_ NB158_161.out _; refine blk_far ?_ NB158_172.out _; refine blk_far ?_ NB158_172.out _; refine blk_far ?_ NB158_172.out _; refine blk_far ?_ NB158_171.out _; refine blk_far ?_ NB158_171.out _; exact BK158.out⟩, ⟨by refine blk_put (cs := #[.slice Ao55 t165.length co55, .int .i64 t168, .int .i64 x162002_2]) ?_ 2 _ rfl; refine blk_put (cs := #[.slice Ao55 t165.length co55, .int .i64 x162001_25, .int .i64 x162002_2]) ?_ 1 _ rfl; refine blk_put (cs := #[.slice Ao46 x162000_2.length co46, .int .i64 x162001_25, .int .i64 x162002_2]) ?_ 0 _ rfl; refine blk_far ?_ NB161_172.out _; refine blk_far ?_ NB161_172.out _; refine blk_far ?_ NB161_172.out _; refine blk_far ?_ NB161_171.out _; refine blk_far ?_ NB161_171.out _; exact BK161.out⟩, ⟨by refine blk_far ?_ NB162_161.out _; refine blk_far ?_ NB162_161.out _; refine blk_far ?_ NB162_161.out _; refine blk_far ?_ NB162_172.out _; refine blk_far ?_ NB162_172.out _; refine blk_far ?_ NB162_172.out _; refine blk_far ?_ NB162_171.out _; refine blk_far ?_ NB162_171.out _; exact BK162.out⟩, ⟨by refine blk_far ?_ NB171_161.out _; refine blk_far ?_ NB171_161.out _; refine blk_far ?_ NB171_161.out _; refine blk_far ?_ NB171_172.out _; refine blk_far ?_ NB171_172.out _; refine blk_far ?_ NB171_172.out _; refine blk_put (cs := #[.int .i64 t163, .int .i64 0]) ?_ 1 _ rfl; refine blk_put (cs := #[.int .i64 0, .int .i64 0]) ?_ 0 _ rfl; exact BK171.out⟩, ⟨by refine blk_far ?_ NB172_161.out _; refine blk_far ?_ NB172_161.out _; refine blk_far ?_ NB172_161.out _; refine blk_put (cs := #[.slice Ao55 t165.length co55, .int .i64 t168, .int .i64 0]) ?_ 2 _ rfl; refine blk_put (cs := #[.slice Ao55 t165.length co55, .int .i64 0, .int .i64 0]) ?_ 1 _ rfl; refine blk_put (cs := #[.slice none 0 0, .int .i64 0, .int .i64 0]) ?_ 0 _ rfl; refine blk_far ?_ NB172_171.out _; refine blk_far ?_ NB172_171.out _; exact BK172.out⟩, ⟨by repeat (first | (with_reducible first | exact HB.out | apply below_alloc | apply pw_below_drewN | apply below_drew1 | refine below_set ?_ GE158.out | refine below_set ?_ GE161.out | refine below_set ?_ GE162.out | refine below_set ?_ GE171.out | refine below_set ?_ GE172.out) | exact HB.out)⟩⟩
                          case rest =>
                            clear HC42
                            try clear c1
                            try clear p1
                            try clear q1
                            try clear hx1
                            try clear c2
                            try clear p2
                            try clear c3
                            try clear c4
                            try clear c5
                            try clear c6
                            try clear c7
                            try clear c8
                            try clear c8b0
                            try clear c8b1
                            try clear c9
                            try clear c9b0
                            try clear c10
                            try clear c10b0
                            try clear c12
                            try clear c14
                            try clear c15
                            try clear c15b0
                            try clear c16
                            try clear p17
                            try clear q17
                            try clear hx17
                            try clear c19
                            try clear c22
                            try clear c23
                            try clear c25
                            try clear c25b0
                            try clear c27
                            try clear c28
                            try clear c30
                            try clear c32
                            try clear c32b0
                            try clear c33
                            try clear c34
                            try clear c37
                            try clear c38
                            try clear c38b0
                            try clear c38b1
                            try clear c38b2
                            try clear c40
                            try clear c40b0
                            try clear c41
                            try clear c41b0
                            try clear c42
                            try clear c43
                            try clear c44
                            try clear c50
                            try clear c51
                            try clear c52
                            try clear c53
                            try clear c56
                            try clear c57
                            try clear c58
                            try clear c61
                            try clear c63
                            try clear c63b0
                            try clear c63b1
                            try clear c64
                            try clear c65
                            try clear c66
                            try clear c67
                            try clear c68
                            try clear c71
                            try clear c71b0
                            try clear c71b1
                            try clear c72
                            try clear c73
                            try clear c74
                            try clear c75
                            try clear c76
                            try clear c77
                            try clear c82
                            try clear c82b0
                            try clear c82b1
                            try clear c83
                            try clear c84
                            try clear c85
                            try clear c86
                            try clear c87
                            try clear hcz17_0
                            try clear hcz17_1
                            try clear hcz17_2
                            try clear hcz17_3
                            try clear hcz20_0
                            try clear hcz20_1
                            try clear hcz20_2
                            try clear hcz24_0
                            try clear hcz24_1
                            try clear hcz24_2
                            try clear hcz24_3
                            try clear hcz29_0
                            try clear hcz29_1
                            try clear hcz29_2
                            try clear hcz29_3
                            try clear hcz31_0
                            try clear hcz31_1
                            try clear hcz31_2
                            try clear hcz35_0
                            try clear hcz35_1
                            try clear hcz35_2
                            try clear hcz45_0
                            try clear hcz45_1
                            try clear hcz45_2
                            try clear hcz54_0
                            try clear hcz54_1
                            try clear hcz59_0
                            try clear hcz59_1
                            try clear hcz59_2
                            try clear hcz60_0
                            try clear hcz60_1
                            try clear hcz60_2
                            try clear hcz62_0
                            try clear hcz62_1
                            try clear hcz62_2
                            try clear hcz62_3
                            try clear hcz69_0
                            try clear hcz69_1
                            try clear hcz78_0
                            try clear hcz78_1
                            try clear hcz80_0
                            try clear hcz80_1
                            try clear hcz88_0
                            try clear hcz88_1
                            try clear hfz17_0
                            try clear hfz17_1
                            try clear hfz17_2
                            try clear hfz17_3
                            try clear hfz20_0
                            try clear hfz20_1
                            try clear hfz20_2
                            try clear hfz24_0
                            try clear hfz24_1
                            try clear hfz24_2
                            try clear hfz24_3
                            try clear hfz29_0
                            try clear hfz29_1
                            try clear hfz29_2
                            try clear hfz29_3
                            try clear hfz31_0
                            try clear hfz31_1
                            try clear hfz31_2
                            try clear hfz35_0
                            try clear hfz35_1
                            try clear hfz35_2
                            try clear hfz45_0
                            try clear hfz45_1
                            try clear hfz45_2
                            try clear hfz54_0
                            try clear hfz54_1
                            try clear hfz59_0
                            try clear hfz59_1
                            try clear hfz59_2
                            try clear hfz60_0
                            try clear hfz60_1
                            try clear hfz60_2
                            try clear hfz62_0
                            try clear hfz62_1
                            try clear hfz62_2
                            try clear hfz62_3
                            try clear hfz69_0
                            try clear hfz69_1
                            try clear hfz78_0
                            try clear hfz78_1
                            try clear hfz80_0
                            try clear hfz80_1
                            try clear hfz88_0
                            try clear hfz88_1
                            try clear hx173_0
                            try clear p173
                            try clear p2
                            try clear q173
                            obtain ⟨kq, x14_41, x19_41, HA, HJ41, HO_0, HO_14, HO_19, HO_162000, HO_163000, HO_173000, BK158, BK161, BK162, BK171, BK172, HB⟩ := hcut
                            cases kq with
                            | zero => exact absurd HA.out (by simp [spec_TalkAll.j3])
                            | succ kj41 =>
                              have H := HA.out
                              clear HA
                              simp only [spec_TalkAll.j3] at H
                              replace H := Option.bind_eq_some_iff.mp H
                              obtain ⟨⟨t186, t187⟩, A900, H⟩ := H
                              replace H : (if (l3.length : Int) = 0 then (none) else (if 0 ≤ (Int.tmod x163001_2 (l3.length : Int)) then (if (Int.tmod x163001_2 (l3.length : Int)) < (l3.length : Int) then (if (rd l3 (Int.tmod x163001_2 (l3.length : Int))) = 0 then (spec_TalkAll.j4 kj41 l0 a1 l2 l3 a4 x14_41 0 t187 (rd l3 (Int.tmod x163001_2 (l3.length : Int))) ((rd l3 (Int.tmod x163001_2 (l3.length : Int))) == 0) t165 t168 t169 t186 x163001_2 x163002_2 false) else (spec_TalkAll.j4 kj41 l0 a1 l2 l3 a4 x14_41 0 t187 (rd l3 (Int.tmod x163001_2 (l3.length : Int))) ((rd l3 (Int.tmod x163001_2 (l3.length : Int))) == 2) t165 t168 t169 t186 x163001_2 x163002_2 false)) else (none)) else (none))) = some (r1, r2, r3, r4, r5) := H
                              have A90 := Aside0.mk A900
                              clear A900
                              by_cases c91 : (l3.length : Int) = 0
                              · rw [if_pos c91] at H
                                exact absurd H (by simp)
                              · rw [if_neg c91] at H
                                have c91b0 : ((l3.length : Int) == 0) = false := beq_eq_false_iff_ne.mpr c91
                                have c91b1 : ((l3.length : Int) != 0) = true := bne_iff_ne.mpr c91
                                have c91b2 : ¬ (l3 = []) := fun h_ => c91 (by rw [h_]; rfl)
                                obtain ⟨ji92, hji92⟩ : ∃ j_ : Int, (Int.tmod x163001_2 (l3.length : Int)) = j_ := ⟨_, rfl⟩
                                replace H : (if 0 ≤ (ji92) then (if (ji92) < (l3.length : Int) then (if (rd l3 (ji92)) = 0 then (spec_TalkAll.j4 kj41 l0 a1 l2 l3 a4 x14_41 0 t187 (rd l3 (ji92)) ((rd l3 (ji92)) == 0) t165 t168 t169 t186 x163001_2 x163002_2 false) else (spec_TalkAll.j4 kj41 l0 a1 l2 l3 a4 x14_41 0 t187 (rd l3 (ji92)) ((rd l3 (ji92)) == 2) t165 t168 t169 t186 x163001_2 x163002_2 false)) else (none)) else (none)) = some (r1, r2, r3, r4, r5) := by first | (rw [hji92] at H; exact H) | (simp only [hji92] at H ⊢; exact H)
                                (try rw [hji92] at A90)
                                by_cases c93 : 0 ≤ (ji92)
                                · rw [if_pos c93] at H
                                  have c93b0 : decide (0 ≤ (ji92)) = true := decide_eq_true c93
                                  clear c93
                                  by_cases c94 : (ji92) < (l3.length : Int)
                                  · rw [if_pos c94] at H
                                    have c94b0 : decide ((ji92) < (l3.length : Int)) = true := decide_eq_true c94
                                    clear c94
                                    have HC95 := Aside0.mk H
                                    clear H
                                    have hnb96 := NB162_158.out
                                    have hnc96 := NB158_162.out
                                    have hnb97 := NB162_161.out
                                    have hnc97 := NB161_162.out
                                    have hnb98 := NB162_171.out
                                    have hnc98 := NB171_162.out
                                    have hnb99 := NB162_172.out
                                    have hnc99 := NB172_162.out
                                    have hcz100_0 : wc.cell? ⟨gb162, 0, none⟩ = some (u163000) := (blk_cell BK162.out 0).trans rfl
                                    have hcz100_1 : wc.cell? ⟨gb162, 1, none⟩ = some (.int .i64 x163001_2) := (blk_cell BK162.out 1).trans rfl
                                    have hcz100_2 : wc.cell? ⟨gb162, 2, none⟩ = some (.int .i64 x163002_2) := (blk_cell BK162.out 2).trans rfl
                                    have hcz100_3 : wc.cell? ⟨gb162, 3, none⟩ = some (.bool false) := (blk_cell BK162.out 3).trans rfl
                                    have hfz100_0 := blk_frozen BK162.out 0
                                    have hfz100_1 := blk_frozen BK162.out 1
                                    have hfz100_2 := blk_frozen BK162.out 2
                                    have hfz100_3 := blk_frozen BK162.out 3
                                    obtain ⟨Ao101, co101, eo101⟩ := Kd.R_slice HO_163000.out
                                    subst eo101
                                    obtain ⟨Ao102, co102, eo102⟩ := Kd.R_slice HO_19.out
                                    subst eo102
                                    go_upto_if 121 with (first | ((with_reducible refine gate_callee (f := 20) rfl ?_); refine goesL_ (some 109) rfl rfl Try.func20 (by kernel_rfl) rfl #[.slice Ao101 x163000_2.length co101, .slice Ao102 x19_41.length co102] rfl (by (try simp only [List.map_toArray, List.map_cons, List.map_nil]); first | done | rfl | (simp only [List.length_drop, List.length_take]; rfl)) ?_; (with_reducible refine (spec_TakeParcels.calls kj41 _ _ x163000_2 _ _ x19_41 t186 t187 _ ?side1 ?side2 ?side3 ?side4 A90.out).mono ?_); (case side1 => repeat (first | exact (Kd.R_reads' HO_163000.out).2.2 | (with_reducible refine Kd.C_alloc ?_ _) | (with_reducible refine Kd.C_drewN ?_ _) | (with_reducible refine Kd.C_drew ?_))); (case side2 => exact (Kd.R_reads' HO_163000.out).2.1); (case side3 => repeat (first | exact (Kd.R_reads' HO_19.out).2.2 | (with_reducible refine Kd.C_alloc ?_ _) | (with_reducible refine Kd.C_drewN ?_ _) | (with_reducible refine Kd.C_drew ?_))); (case side4 => exact (Kd.R_reads' HO_19.out).2.1); rintro e w103 ⟨v188, rfl, ho0, hb⟩; refine ⟨_, rfl, ?_⟩; have n0_ := Aside0.mk (Kd.V_elder' (by (with_reducible repeat (first | apply Kd.V_alloc | apply Kd.V_drewN | apply Kd.V_drew)); exact HO_0.out) (Kd.R_base ho0) hb); have n1_ := Aside0.mk (Kd.R_below HO_14.out hb); have n2_ := Aside0.mk (Kd.R_below HO_19.out hb); have n3_ := Aside0.mk (Kd.R_elder' HO_162000.out (Kd.R_base ho0) hb); have n4_ := Aside0.mk (Kd.R_elder' HO_163000.out (Kd.R_base ho0) hb); have n5_ := Aside0.mk (Kd.R_elder' HO_173000.out (Kd.R_base ho0) hb); have n6_ := Aside0.mk (Kd.R_lower (Kd.R_new' (Kd.R_new' (Kd.R_new' (Kd.R_newM (M := fun k_ => (w.heap.size ≤ k_)) ho0 (below_size (by repeat (first | (with_reducible first | exact HB.out | apply below_alloc | apply pw_below_drewN | apply below_drew1 | refine below_set ?_ GE158.out | refine below_set ?_ GE161.out | refine below_set ?_ GE162.out | refine below_set ?_ GE171.out | refine below_set ?_ GE172.out) | exact HB.out))) (fun k_ h_ => h_)) (Kd.R_lt HO_162000.out)) (Kd.R_lt HO_163000.out)) (Kd.R_lt HO_173000.out)) (below_size (by repeat (first | (with_reducible first | exact HB.out | apply below_alloc | apply pw_below_drewN | apply below_drew1 | refine below_set ?_ GE158.out | refine below_set ?_ GE161.out | refine below_set ?_ GE162.out | refine below_set ?_ GE171.out | refine below_set ?_ GE172.out) | exact HB.out)))); have n7_ := Aside0.mk (blk_below (g := gb158) (o := .cells #[.slice none 0 0, .int .i64 0, .int .i64 0, .bool false] 69 (0, 0)) BK158.out hb); have n8_ := Aside0.mk (blk_below (g := gb161) (o := .cells #[.slice Ao55 t165.length co55, .int .i64 t168, .int .i64 t169] 55 (0, 0)) BK161.out hb); have n9_ := Aside0.mk (blk_below (g := gb162) (o := .cells #[.slice Ao101 x163000_2.length co101, .int .i64 x163001_2, .int .i64 x163002_2, .bool false] 69 (0, 0)) BK162.out hb); have n10_ := Aside0.mk (blk_below (g := gb171) (o := .cells #[.int .i64 t163, .int .i64 t164] 54 (0, 0)) BK171.out hb); have n11_ := Aside0.mk (blk_below (g := gb172) (o := .cells #[.slice Ao55 t165.length co55, .int .i64 t168, .int .i64 t169] 55 (0, 0)) BK172.out hb); have n12_ := Aside0.mk (below_step (by repeat (first | (with_reducible first | exact HB.out | apply below_alloc | apply pw_below_drewN | apply below_drew1 | refine below_set ?_ GE158.out | refine below_set ?_ GE161.out | refine below_set ?_ GE162.out | refine below_set ?_ GE171.out | refine below_set ?_ GE172.out) | exact HB.out)) hb); clear HO_0; clear HO_14; clear HO_19; clear HO_162000; clear HO_163000; clear HO_173000; clear BK158; clear BK161; clear BK162; clear BK171; clear BK172; clear HB; have HO_0 := n0_; have HO_14 := n1_; have HO_19 := n2_; have HO_162000 := n3_; have HO_163000 := n4_; have HO_173000 := n5_; have HO189 := n6_; have BK158 := n7_; have BK161 := n8_; have BK162 := n9_; have BK171 := n10_; have BK172 := n11_; have HB := n12_; clear n0_ n1_ n2_ n3_ n4_ n5_ n6_ n7_ n8_ n9_ n10_ n11_ n12_; (try clear hb); (try clear hb2); (try clear hk); (try clear hi); (try clear ho0); obtain ⟨Ao104, co104, eo104⟩ := Kd.R_slice HO189.out; subst eo104; have hcz105_0 : w103.cell? ⟨gb162, 0, none⟩ = some (.slice Ao101 x163000_2.length co101) := (blk_cell BK162.out 0).trans rfl; have hcz105_1 : w103.cell? ⟨gb162, 1, none⟩ = some (.int .i64 x163001_2) := (blk_cell BK162.out 1).trans rfl; have hcz105_2 : w103.cell? ⟨gb162, 2, none⟩ = some (.int .i64 x163002_2) := (blk_cell BK162.out 2).trans rfl; have hcz105_3 : w103.cell? ⟨gb162, 3, none⟩ = some (.bool false) := (blk_cell BK162.out 3).trans rfl; have hfz105_0 := blk_frozen BK162.out 0; have hfz105_1 := blk_frozen BK162.out 1; have hfz105_2 := blk_frozen BK162.out 2; have hfz105_3 := blk_frozen BK162.out 3; have p190 : 0 ≤ ((ji92) : Int) := of_decide_eq_true (by first | (with_reducible assumption) | assumption); have q190 : (ji92) < (l3.length : Int) := of_decide_eq_true (by first | (with_reducible assumption) | assumption); obtain ⟨ad190, e190, hx190_0⟩ := Kd.at_int HR3.out (ji92) p190 q190; cases e190; have hn190_0 : ad190.block ≠ gb162 := Nat.ne_of_lt (Nat.lt_of_lt_of_le (by have := World.block_lt_of_cell? _ _ hx190_0; first | rwa [add_block] at this | exact this) GW162.out); (first | replace hx190_0 := (HB.out.cell (World.block_lt_of_cell? w _ hx190_0)).trans hx190_0 | skip); replace hx190_0 := (cell_far (p := ⟨gb162, 0, none⟩) (by first | (rw [add_block]; exact hn190_0) | (show (Addr.add _ _).block ≠ _; rw [add_block]; exact hn190_0) | exact hn190_0) (.slice Ao104 t186.length co104)).trans hx190_0; clear hn190_0; replace p190 := eq_true p190; replace q190 := eq_true q190))
                                    (try simp only [Act.put, List.setIfInBounds_toArray, List.set_cons_zero, List.set_cons_succ])
                                    go_cut [121] (fun v121 wc => ∃ (kq : Nat) (x121_94 : Bool), v121 = .bool x121_94 ∧ Aside0 (spec_TalkAll.j4 kq l0 a1 l2 l3 a4 x14_41 0 t187 (rd l3 (ji92)) x121_94 t165 t168 t169 t186 x163001_2 x163002_2 false = some (r1, r2, r3, r4, r5)) ∧ Aside0 (kq ≤ kj41) ∧ Aside0 (Kd.V (Kd.int .i64) 3 wc w.heap.size (fun k_ => (P0_ k_ ∨ w.heap.size ≤ k_) ∧ some k_ ≠ (u14 : Value).ownBlock ∧ some k_ ≠ ((.slice Ao55 t165.length co55) : Value).ownBlock ∧ some k_ ≠ ((.slice Ao104 t186.length co104) : Value).ownBlock ∧ some k_ ≠ ((.slice Ao55 t165.length co55) : Value).ownBlock ∧ k_ ≠ gb158 ∧ k_ ≠ gb161 ∧ k_ ≠ gb162 ∧ k_ ≠ gb171 ∧ k_ ≠ gb172) (.slice A0 l0.length c0) l0) ∧ Aside0 (Kd.R k54 54 wc w.heap.size (fun k_ => (w.heap.size ≤ k_) ∧ k_ ≠ gb171) u14 x14_41) ∧ Aside0 (Kd.R (Kd.int .i64) 3 wc w.heap.size (fun k_ => (w.heap.size ≤ k_) ∧ some k_ ≠ ((.slice Ao104 t186.length co104) : Value).ownBlock) (.slice Ao55 t165.length co55) t165) ∧ Aside0 (Kd.R (Kd.int .i64) 3 wc w.heap.size (fun k_ => (w.heap.size ≤ k_) ∧ some k_ ≠ ((.slice Ao55 t165.length co55) : Value).ownBlock ∧ some k_ ≠ ((.slice Ao55 t165.length co55) : Value).ownBlock) (.slice Ao104 t186.length co104) t186) ∧ Aside0 (Kd.R (Kd.int .i64) 3 wc w.heap.size (fun k_ => (w.heap.size ≤ k_) ∧ some k_ ≠ ((.slice Ao104 t186.length co104) : Value).ownBlock) (.slice Ao55 t165.length co55) t165) ∧ Aside0 (wc.heap[gb158]? = some (.cells #[(.slice none 0 0), .int .i64 0, .int .i64 0, .bool false] 69 (0, 0))) ∧ Aside0 (wc.heap[gb161]? = some (.cells #[(.slice Ao55 t165.length co55), .int .i64 t168, .int .i64 t169] 55 (0, 0))) ∧ Aside0 (wc.heap[gb162]? = some (.cells #[(.slice Ao104 t186.length co104), .int .i64 x163001_2, .int .i64 x163002_2, .bool false] 69 (0, 0))) ∧ Aside0 (wc.heap[gb171]? = some (.cells #[.int .i64 t163, .int .i64 t164] 54 (0, 0))) ∧ Aside0 (wc.heap[gb172]? = some (.cells #[(.slice Ao55 t165.length co55), .int .i64 t168, .int .i64 t169] 55 (0, 0))) ∧ Aside0 (Below w.heap.size w wc))
                                    case first =>
                                      have H := HC95.out
                                      clear HC95
                                      by_cases c106 : (rd l3 (ji92)) = 0
                                      · rw [if_pos c106] at H
                                        have c106b0 : ((rd l3 (ji92)) == 0) = true := beq_iff_eq.mpr c106
                                        have c106b1 : ((rd l3 (ji92)) != 0) = false := bne_eq_false_iff_eq.mpr c106
                                        clear c106
                                        (first | rw [c106b0] | (simp only [i64_w, i32_w]; rw [c106b0]) | skip)
                                        have H' := Aside0.mk H
                                        clear H
                                        go_wp2
                                        go_meet
                                        case rel => exact ⟨_, (((rd l3 (ji92)) == 0)), (by first | rfl | (simp; done) | (refine congrArg Value.bool (Eq.symm ?_); assumption) | (simp only [← hji92] <;> (first | rfl | (simp; done))) | (simp [*]; done)), H', ⟨by have := HJ5.out; have := HK2.out; have := HJ25.out; have := HJ41.out; first | omega | exact Nat.le_refl _⟩, ⟨by (with_reducible repeat (first | apply Kd.V_alloc | apply Kd.V_drewN | apply Kd.V_drew)); exact Kd.V_mono (Kd.V_far (p := ⟨gb162, 0, none⟩) (Kd.V_mono HO_0.out (fun k_ hk => (⟨hk, hk.1.2.2.2.2.2.2.2.2.1⟩ : _ ∧ k_ ≠ gb162))) (fun _ hk => hk.2) (.slice Ao104 t186.length co104)) (fun _ hk => ⟨hk.1.1.1, ⟨hk.1.1.2.1, ⟨hk.1.1.2.2.2.1, ⟨hk.1.2, ⟨hk.1.1.2.2.2.2.2.1, ⟨hk.1.1.2.2.2.2.2.2.1, ⟨hk.1.1.2.2.2.2.2.2.2.1, ⟨hk.1.1.2.2.2.2.2.2.2.2.1, ⟨hk.1.1.2.2.2.2.2.2.2.2.2.1, hk.1.1.2.2.2.2.2.2.2.2.2.2⟩⟩⟩⟩⟩⟩⟩⟩⟩)⟩, ⟨by exact Kd.R_mono (Kd.R_far (p := ⟨gb162, 0, none⟩) (Kd.R_types HO_14.out BK162.out (by decide)) (fun _ hk => hk.2) (.slice Ao104 t186.length co104)) (fun _ hk => ⟨hk.1.1, hk.1.2.2⟩)⟩, ⟨by exact Kd.R_mono (Kd.R_far (p := ⟨gb162, 0, none⟩) (Kd.R_types HO_162000.out BK162.out (by decide)) (fun _ hk => hk.2) (.slice Ao104 t186.length co104)) (fun _ hk => ⟨hk.1.1.1, hk.1.2⟩)⟩, ⟨by exact Kd.R_mono (Kd.R_far (p := ⟨gb162, 0, none⟩) (Kd.R_types HO189.out BK162.out (by decide)) (fun _ hk => hk.2) (.slice Ao104 t186.length co104)) (fun _ hk => ⟨hk.1.1.1.1.1, ⟨hk.1.1.1.2, hk.1.2⟩⟩)⟩, ⟨by exact Kd.R_mono (Kd.R_far (p := ⟨gb162, 0, none⟩) (Kd.R_types HO_173000.out BK162.out (by decide)) (fun _ hk => hk.2) (.slice Ao104 t186.length co104)) (fun _ hk => ⟨hk.1.1.1, hk.1.2⟩)⟩, ⟨by refine blk_far ?_ NB158_162.out _; exact BK158.out⟩, ⟨by refine blk_far ?_ NB161_162.out _; exact BK161.out⟩, ⟨by refine blk_put (cs := #[.slice Ao101 x163000_2.length co101, .int .i64 x163001_2, .int .i64 x163002_2, .bool false]) ?_ 0 _ rfl; exact BK162.out⟩, ⟨by refine blk_far ?_ NB171_162.out _; exact BK171.out⟩, ⟨by refine blk_far ?_ NB172_162.out _; exact BK172.out⟩, ⟨by repeat (first | (with_reducible first | exact HB.out | apply below_alloc | apply pw_below_drewN | apply below_drew1 | refine below_set ?_ GE158.out | refine below_set ?_ GE161.out | refine below_set ?_ GE162.out | refine below_set ?_ GE171.out | refine below_set ?_ GE172.out) | exact HB.out)⟩⟩
                                      · rw [if_neg c106] at H
                                        have c106b0 : ((rd l3 (ji92)) == 0) = false := beq_eq_false_iff_ne.mpr c106
                                        have c106b1 : ((rd l3 (ji92)) != 0) = true := bne_iff_ne.mpr c106
                                        (first | rw [c106b0] | (simp only [i64_w, i32_w]; rw [c106b0]) | skip)
                                        have H' := Aside0.mk H
                                        clear H
                                        go_wp2
                                        go_meet
                                        case rel => exact ⟨_, (((rd l3 (ji92)) == 2)), (by first | rfl | (simp; done) | (refine congrArg Value.bool (Eq.symm ?_); assumption) | (simp only [← hji92] <;> (first | rfl | (simp; done))) | (simp [*]; done)), H', ⟨by have := HJ5.out; have := HK2.out; have := HJ25.out; have := HJ41.out; first | omega | exact Nat.le_refl _⟩, ⟨by (with_reducible repeat (first | apply Kd.V_alloc | apply Kd.V_drewN | apply Kd.V_drew)); exact Kd.V_mono (Kd.V_far (p := ⟨gb162, 0, none⟩) (Kd.V_mono HO_0.out (fun k_ hk => (⟨hk, hk.1.2.2.2.2.2.2.2.2.1⟩ : _ ∧ k_ ≠ gb162))) (fun _ hk => hk.2) (.slice Ao104 t186.length co104)) (fun _ hk => ⟨hk.1.1.1, ⟨hk.1.1.2.1, ⟨hk.1.1.2.2.2.1, ⟨hk.1.2, ⟨hk.1.1.2.2.2.2.2.1, ⟨hk.1.1.2.2.2.2.2.2.1, ⟨hk.1.1.2.2.2.2.2.2.2.1, ⟨hk.1.1.2.2.2.2.2.2.2.2.1, ⟨hk.1.1.2.2.2.2.2.2.2.2.2.1, hk.1.1.2.2.2.2.2.2.2.2.2.2⟩⟩⟩⟩⟩⟩⟩⟩⟩)⟩, ⟨by exact Kd.R_mono (Kd.R_far (p := ⟨gb162, 0, none⟩) (Kd.R_types HO_14.out BK162.out (by decide)) (fun _ hk => hk.2) (.slice Ao104 t186.length co104)) (fun _ hk => ⟨hk.1.1, hk.1.2.2⟩)⟩, ⟨by exact Kd.R_mono (Kd.R_far (p := ⟨gb162, 0, none⟩) (Kd.R_types HO_162000.out BK162.out (by decide)) (fun _ hk => hk.2) (.slice Ao104 t186.length co104)) (fun _ hk => ⟨hk.1.1.1, hk.1.2⟩)⟩, ⟨by exact Kd.R_mono (Kd.R_far (p := ⟨gb162, 0, none⟩) (Kd.R_types HO189.out BK162.out (by decide)) (fun _ hk => hk.2) (.slice Ao104 t186.length co104)) (fun _ hk => ⟨hk.1.1.1.1.1, ⟨hk.1.1.1.2, hk.1.2⟩⟩)⟩, ⟨by exact Kd.R_mono (Kd.R_far (p := ⟨gb162, 0, none⟩) (Kd.R_types HO_173000.out BK162.out (by decide)) (fun _ hk => hk.2) (.slice Ao104 t186.length co104)) (fun _ hk => ⟨hk.1.1.1, hk.1.2⟩)⟩, ⟨by refine blk_far ?_ NB158_162.out _; exact BK158.out⟩, ⟨by refine blk_far ?_ NB161_162.out _; exact BK161.out⟩, ⟨by refine blk_put (cs := #[.slice Ao101 x163000_2.length co101, .int .i64 x163001_2, .int .i64 x163002_2, .bool false]) ?_ 0 _ rfl; exact BK162.out⟩, ⟨by refine blk_far ?_ NB171_162.out _; exact BK171.out⟩, ⟨by refine blk_far ?_ NB172_162.out _; exact BK172.out⟩, ⟨by repeat (first | (with_reducible first | exact HB.out | apply below_alloc | apply pw_below_drewN | apply below_drew1 | refine below_set ?_ GE158.out | refine below_set ?_ GE161.out | refine below_set ?_ GE162.out | refine below_set ?_ GE171.out | refine below_set ?_ GE172.out) | exact HB.out)⟩⟩
                                    case rest =>
                                      clear HC95
                                      try clear c1
                                      try clear p1
                                      try clear q1
                                      try clear hx1
                                      try clear c2
                                      try clear p2
                                      try clear c3
                                      try clear c4
                                      try clear c5
                                      try clear c6
                                      try clear c7
                                      try clear c8
                                      try clear c8b0
                                      try clear c8b1
                                      try clear c9
                                      try clear c9b0
                                      try clear c10
                                      try clear c10b0
                                      try clear c12
                                      try clear c14
                                      try clear c15
                                      try clear c15b0
                                      try clear c16
                                      try clear p17
                                      try clear q17
                                      try clear hx17
                                      try clear c19
                                      try clear p19
                                      try clear q19
                                      try clear hx19
                                      try clear c20
                                      try clear c22
                                      try clear c23
                                      try clear c25
                                      try clear c25b0
                                      try clear c27
                                      try clear c28
                                      try clear c30
                                      try clear c32
                                      try clear c32b0
                                      try clear c33
                                      try clear c34
                                      try clear c37
                                      try clear c38
                                      try clear c38b0
                                      try clear c38b1
                                      try clear c38b2
                                      try clear c40
                                      try clear c40b0
                                      try clear c41
                                      try clear c41b0
                                      try clear c42
                                      try clear c43
                                      try clear c44
                                      try clear c50
                                      try clear c51
                                      try clear c52
                                      try clear c53
                                      try clear c56
                                      try clear c57
                                      try clear c58
                                      try clear c61
                                      try clear c63
                                      try clear c63b0
                                      try clear c63b1
                                      try clear c64
                                      try clear c65
                                      try clear c66
                                      try clear c67
                                      try clear c68
                                      try clear c71
                                      try clear c71b0
                                      try clear c71b1
                                      try clear c72
                                      try clear c73
                                      try clear c74
                                      try clear c75
                                      try clear c76
                                      try clear c77
                                      try clear c82
                                      try clear c82b0
                                      try clear c82b1
                                      try clear c83
                                      try clear c84
                                      try clear c85
                                      try clear c86
                                      try clear c87
                                      try clear c91
                                      try clear c91b0
                                      try clear c91b1
                                      try clear c91b2
                                      try clear c93
                                      try clear c93b0
                                      try clear c94
                                      try clear c94b0
                                      try clear c96
                                      try clear c97
                                      try clear c98
                                      try clear c99
                                      try clear c106
                                      try clear c106b0
                                      try clear c106b1
                                      try clear hcz100_0
                                      try clear hcz100_1
                                      try clear hcz100_2
                                      try clear hcz100_3
                                      try clear hcz105_0
                                      try clear hcz105_1
                                      try clear hcz105_2
                                      try clear hcz105_3
                                      try clear hcz17_0
                                      try clear hcz17_1
                                      try clear hcz17_2
                                      try clear hcz17_3
                                      try clear hcz20_0
                                      try clear hcz20_1
                                      try clear hcz20_2
                                      try clear hcz24_0
                                      try clear hcz24_1
                                      try clear hcz24_2
                                      try clear hcz24_3
                                      try clear hcz29_0
                                      try clear hcz29_1
                                      try clear hcz29_2
                                      try clear hcz29_3
                                      try clear hcz31_0
                                      try clear hcz31_1
                                      try clear hcz31_2
                                      try clear hcz35_0
                                      try clear hcz35_1
                                      try clear hcz35_2
                                      try clear hcz45_0
                                      try clear hcz45_1
                                      try clear hcz45_2
                                      try clear hcz54_0
                                      try clear hcz54_1
                                      try clear hcz59_0
                                      try clear hcz59_1
                                      try clear hcz59_2
                                      try clear hcz60_0
                                      try clear hcz60_1
                                      try clear hcz60_2
                                      try clear hcz62_0
                                      try clear hcz62_1
                                      try clear hcz62_2
                                      try clear hcz62_3
                                      try clear hcz69_0
                                      try clear hcz69_1
                                      try clear hcz78_0
                                      try clear hcz78_1
                                      try clear hcz80_0
                                      try clear hcz80_1
                                      try clear hcz88_0
                                      try clear hcz88_1
                                      try clear hfz100_0
                                      try clear hfz100_1
                                      try clear hfz100_2
                                      try clear hfz100_3
                                      try clear hfz105_0
                                      try clear hfz105_1
                                      try clear hfz105_2
                                      try clear hfz105_3
                                      try clear hfz17_0
                                      try clear hfz17_1
                                      try clear hfz17_2
                                      try clear hfz17_3
                                      try clear hfz20_0
                                      try clear hfz20_1
                                      try clear hfz20_2
                                      try clear hfz24_0
                                      try clear hfz24_1
                                      try clear hfz24_2
                                      try clear hfz24_3
                                      try clear hfz29_0
                                      try clear hfz29_1
                                      try clear hfz29_2
                                      try clear hfz29_3
                                      try clear hfz31_0
                                      try clear hfz31_1
                                      try clear hfz31_2
                                      try clear hfz35_0
                                      try clear hfz35_1
                                      try clear hfz35_2
                                      try clear hfz45_0
                                      try clear hfz45_1
                                      try clear hfz45_2
                                      try clear hfz54_0
                                      try clear hfz54_1
                                      try clear hfz59_0
                                      try clear hfz59_1
                                      try clear hfz59_2
                                      try clear hfz60_0
                                      try clear hfz60_1
                                      try clear hfz60_2
                                      try clear hfz62_0
                                      try clear hfz62_1
                                      try clear hfz62_2
                                      try clear hfz62_3
                                      try clear hfz69_0
                                      try clear hfz69_1
                                      try clear hfz78_0
                                      try clear hfz78_1
                                      try clear hfz80_0
                                      try clear hfz80_1
                                      try clear hfz88_0
                                      try clear hfz88_1
                                      try clear hx173_0
                                      try clear hx190_0
                                      try clear p1
                                      try clear p17
                                      try clear p173
                                      try clear p190
                                      try clear p2
                                      try clear q1
                                      try clear q17
                                      try clear q173
                                      try clear q190
                                      obtain ⟨kq, x121_94, rfl, HA, HJ94, HO_0, HO_14, HO_162000, HO_163000, HO_173000, BK158, BK161, BK162, BK171, BK172, HB⟩ := hcut
                                      cases kq with
                                      | zero => exact absurd HA.out (by simp [spec_TalkAll.j4])
                                      | succ kj94 =>
                                        have H := HA.out
                                        clear HA
                                        simp only [spec_TalkAll.j4] at H
                                        by_cases c107 : x121_94 = true
                                        · subst c107
                                          have H1 : (if t187 > t168 then (spec_TalkAll.l0 kj94 l0 a1 l2 l3 a4 x14_41 0 t165 t187 t169 t186 (wrap64 (x163001_2 + 1)) (wrap64 (x163002_2 + 1)) false) else (spec_TalkAll.l0 kj94 l0 a1 l2 l3 a4 x14_41 0 t165 t168 t169 t186 (wrap64 (x163001_2 + 1)) (wrap64 (x163002_2 + 1)) false)) = some (r1, r2, r3, r4, r5) := by rw [if_pos rfl] at H; exact H
                                          clear H
                                          have H := H1
                                          clear H1
                                          by_cases c108 : t187 > t168
                                          · rw [if_pos c108] at H
                                            have c108b0 : decide (t168 < t187) = true := decide_eq_true c108
                                            clear c108
                                            have H' := Aside0.mk H
                                            clear H
                                            have hnb109 := NB161_158.out
                                            have hnc109 := NB158_161.out
                                            have hnb110 := NB161_162.out
                                            have hnc110 := NB162_161.out
                                            have hnb111 := NB161_171.out
                                            have hnc111 := NB171_161.out
                                            have hnb112 := NB161_172.out
                                            have hnc112 := NB172_161.out
                                            have hcz113_0 : wc.cell? ⟨gb161, 0, none⟩ = some (.slice Ao55 t165.length co55) := (blk_cell BK161.out 0).trans rfl
                                            have hcz113_1 : wc.cell? ⟨gb161, 1, none⟩ = some (.int .i64 t168) := (blk_cell BK161.out 1).trans rfl
                                            have hcz113_2 : wc.cell? ⟨gb161, 2, none⟩ = some (.int .i64 t169) := (blk_cell BK161.out 2).trans rfl
                                            have hfz113_0 := blk_frozen BK161.out 0
                                            have hfz113_1 := blk_frozen BK161.out 1
                                            have hfz113_2 := blk_frozen BK161.out 2
                                            have hnb114 := NB162_158.out
                                            have hnc114 := NB158_162.out
                                            have hnb115 := NB162_171.out
                                            have hnc115 := NB171_162.out
                                            have hnb116 := NB162_172.out
                                            have hnc116 := NB172_162.out
                                            have hcz117_0 : wc.cell? ⟨gb162, 0, none⟩ = some (.slice Ao104 t186.length co104) := (blk_cell BK162.out 0).trans rfl
                                            have hcz117_1 : wc.cell? ⟨gb162, 1, none⟩ = some (.int .i64 x163001_2) := (blk_cell BK162.out 1).trans rfl
                                            have hcz117_2 : wc.cell? ⟨gb162, 2, none⟩ = some (.int .i64 x163002_2) := (blk_cell BK162.out 2).trans rfl
                                            have hcz117_3 : wc.cell? ⟨gb162, 3, none⟩ = some (.bool false) := (blk_cell BK162.out 3).trans rfl
                                            have hfz117_0 := blk_frozen BK162.out 0
                                            have hfz117_1 := blk_frozen BK162.out 1
                                            have hfz117_2 := blk_frozen BK162.out 2
                                            have hfz117_3 := blk_frozen BK162.out 3
                                            go_wp2
                                            go_roundg kj94
                                            case measure => have := HJ5.out; have := HK2.out; have := HJ25.out; have := HJ41.out; have := HJ94.out; omega
                                            case rel => exact ⟨(x14_41), (0), (t165), (t187), (t169), (t186), (wrap64 (x163001_2 + 1)), (wrap64 (x163002_2 + 1)), (.slice Ao55 t165.length co55), (.slice Ao104 t186.length co104), (by first | rfl | (simp; done) | (simp [*]; done)), H', ⟨by have := HJ5.out; have := HK2.out; have := HJ25.out; have := HJ41.out; have := HJ94.out; omega⟩, ⟨by (with_reducible repeat (first | apply Kd.V_alloc | apply Kd.V_drewN | apply Kd.V_drew)); exact Kd.V_mono (Kd.V_far (p := ⟨gb162, 2, none⟩) (Kd.V_far (p := ⟨gb162, 1, none⟩) (Kd.V_far (p := ⟨gb161, 1, none⟩) (Kd.V_mono (Kd.V_mono HO_0.out (fun k_ hk => (⟨hk, hk.2.2.2.2.2.2.1⟩ : _ ∧ k_ ≠ gb161))) (fun k_ hk => (⟨hk, hk.1.2.2.2.2.2.2.2.1⟩ : _ ∧ k_ ≠ gb162))) (fun _ hk => hk.1.2) (.int .i64 t187)) (fun _ hk => hk.2) (.int .i64 (wrap64 (x163001_2 + 1)))) (fun _ hk => hk.2) (.int .i64 (wrap64 (x163002_2 + 1)))) (fun _ hk => ⟨hk.1.1.1, ⟨hk.1.1.2.1, ⟨hk.1.1.2.2.2.1, ⟨hk.1.1.2.2.2.2.2.1, ⟨hk.1.1.2.2.2.2.2.2.1, hk.1.1.2.2.2.2.2.2.2.1⟩⟩⟩⟩⟩)⟩, ⟨by exact Kd.R_mono (Kd.R_far (p := ⟨gb162, 2, none⟩) (Kd.R_far (p := ⟨gb162, 1, none⟩) (Kd.R_far (p := ⟨gb161, 1, none⟩) (Kd.R_types (Kd.R_types HO_14.out BK161.out (by decide)) BK162.out (by decide)) (fun _ hk => hk.1.2) (.int .i64 t187)) (fun _ hk => hk.2) (.int .i64 (wrap64 (x163001_2 + 1)))) (fun _ hk => hk.2) (.int .i64 (wrap64 (x163002_2 + 1)))) (fun _ hk => hk.1.1.1)⟩, ⟨by exact Kd.V_mono (Kd.R_V (Kd.R_far (p := ⟨gb162, 2, none⟩) (Kd.R_far (p := ⟨gb162, 1, none⟩) (Kd.R_far (p := ⟨gb161, 1, none⟩) (Kd.R_types (Kd.R_types (Kd.R_types (Kd.R_types (Kd.R_types (Kd.R_apart' HO_162000.out (Kd.R_typed HO_14.out) (by decide)) BK158.out (by decide)) BK161.out (by decide)) BK162.out (by decide)) BK161.out (by decide)) BK162.out (by decide)) (fun _ hk => hk.1.2) (.int .i64 t187)) (fun _ hk => hk.2) (.int .i64 (wrap64 (x163001_2 + 1)))) (fun _ hk => hk.2) (.int .i64 (wrap64 (x163002_2 + 1))))) (fun _ hk => ⟨.inr hk.1.1.1.1.1.1.1, ⟨hk.1.1.1.1.1.2, ⟨hk.1.1.1.1.1.1.2, ⟨hk.1.1.1.1.2, ⟨hk.1.1.1.2, hk.1.1.2⟩⟩⟩⟩⟩)⟩, ⟨by exact Kd.R_mono (Kd.R_far (p := ⟨gb162, 2, none⟩) (Kd.R_far (p := ⟨gb162, 1, none⟩) (Kd.R_far (p := ⟨gb161, 1, none⟩) (Kd.R_types (Kd.R_types HO_163000.out BK161.out (by decide)) BK162.out (by decide)) (fun _ hk => hk.1.2) (.int .i64 t187)) (fun _ hk => hk.2) (.int .i64 (wrap64 (x163001_2 + 1)))) (fun _ hk => hk.2) (.int .i64 (wrap64 (x163002_2 + 1)))) (fun _ hk => hk.1.1.1)⟩, ⟨by refine blk_far ?_ NB158_162.out _; refine blk_far ?_ NB158_162.out _; refine blk_far ?_ NB158_161.out _; exact BK158.out⟩, ⟨by refine blk_far ?_ NB161_162.out _; refine blk_far ?_ NB161_162.out _; refine blk_put (cs := #[.slice Ao55 t165.length co55, .int .i64 t168, .int .i64 t169]) ?_ 1 _ rfl; exact BK161.out⟩, ⟨by refine blk_put (cs := #[.slice Ao104 t186.length co104, .int .i64 (wrap64 (x163001_2 + 1)), .int .i64 x163002_2, .bool false]) ?_ 2 _ rfl; refine blk_put (cs := #[.slice Ao104 t186.length co104, .int .i64 x163001_2, .int .i64 x163002_2, .bool false]) ?_ 1 _ rfl; refine blk_far ?_ NB162_161.out _; exact BK162.out⟩, ⟨by repeat (first | (with_reducible first | exact HB.out | apply below_alloc | apply pw_below_drewN | apply below_drew1 | refine below_set ?_ GE158.out | refine below_set ?_ GE161.out | refine below_set ?_ GE162.out | refine below_set ?_ GE171.out | refine below_set ?_ GE172.out) | exact HB.out)⟩⟩
                                          · rw [if_neg c108] at H
                                            have c108b0 : decide (t168 < t187) = false := decide_eq_false c108
                                            clear c108
                                            have H' := Aside0.mk H
                                            clear H
                                            have hnb118 := NB161_158.out
                                            have hnc118 := NB158_161.out
                                            have hnb119 := NB161_162.out
                                            have hnc119 := NB162_161.out
                                            have hnb120 := NB161_171.out
                                            have hnc120 := NB171_161.out
                                            have hnb121 := NB161_172.out
                                            have hnc121 := NB172_161.out
                                            have hcz122_0 : wc.cell? ⟨gb161, 0, none⟩ = some (.slice Ao55 t165.length co55) := (blk_cell BK161.out 0).trans rfl
                                            have hcz122_1 : wc.cell? ⟨gb161, 1, none⟩ = some (.int .i64 t168) := (blk_cell BK161.out 1).trans rfl
                                            have hcz122_2 : wc.cell? ⟨gb161, 2, none⟩ = some (.int .i64 t169) := (blk_cell BK161.out 2).trans rfl
                                            have hfz122_0 := blk_frozen BK161.out 0
                                            have hfz122_1 := blk_frozen BK161.out 1
                                            have hfz122_2 := blk_frozen BK161.out 2
                                            have hnb123 := NB162_158.out
                                            have hnc123 := NB158_162.out
                                            have hnb124 := NB162_171.out
                                            have hnc124 := NB171_162.out
                                            have hnb125 := NB162_172.out
                                            have hnc125 := NB172_162.out
                                            have hcz126_0 : wc.cell? ⟨gb162, 0, none⟩ = some (.slice Ao104 t186.length co104) := (blk_cell BK162.out 0).trans rfl
                                            have hcz126_1 : wc.cell? ⟨gb162, 1, none⟩ = some (.int .i64 x163001_2) := (blk_cell BK162.out 1).trans rfl
                                            have hcz126_2 : wc.cell? ⟨gb162, 2, none⟩ = some (.int .i64 x163002_2) := (blk_cell BK162.out 2).trans rfl
                                            have hcz126_3 : wc.cell? ⟨gb162, 3, none⟩ = some (.bool false) := (blk_cell BK162.out 3).trans rfl
                                            have hfz126_0 := blk_frozen BK162.out 0
                                            have hfz126_1 := blk_frozen BK162.out 1
                                            have hfz126_2 := blk_frozen BK162.out 2
                                            have hfz126_3 := blk_frozen BK162.out 3
                                            go_wp2
                                            go_roundg kj94
                                            case measure => have := HJ5.out; have := HK2.out; have := HJ25.out; have := HJ41.out; have := HJ94.out; omega
                                            case rel => exact ⟨(x14_41), (0), (t165), (t168), (t169), (t186), (wrap64 (x163001_2 + 1)), (wrap64 (x163002_2 + 1)), (.slice Ao55 t165.length co55), (.slice Ao104 t186.length co104), (by first | rfl | (simp; done) | (simp [*]; done)), H', ⟨by have := HJ5.out; have := HK2.out; have := HJ25.out; have := HJ41.out; have := HJ94.out; omega⟩, ⟨by (with_reducible repeat (first | apply Kd.V_alloc | apply Kd.V_drewN | apply Kd.V_drew)); exact Kd.V_mono (Kd.V_far (p := ⟨gb162, 2, none⟩) (Kd.V_far (p := ⟨gb162, 1, none⟩) (Kd.V_mono HO_0.out (fun k_ hk => (⟨hk, hk.2.2.2.2.2.2.2.1⟩ : _ ∧ k_ ≠ gb162))) (fun _ hk => hk.2) (.int .i64 (wrap64 (x163001_2 + 1)))) (fun _ hk => hk.2) (.int .i64 (wrap64 (x163002_2 + 1)))) (fun _ hk => ⟨hk.1.1, ⟨hk.1.2.1, ⟨hk.1.2.2.2.1, ⟨hk.1.2.2.2.2.2.1, ⟨hk.1.2.2.2.2.2.2.1, hk.1.2.2.2.2.2.2.2.1⟩⟩⟩⟩⟩)⟩, ⟨by exact Kd.R_mono (Kd.R_far (p := ⟨gb162, 2, none⟩) (Kd.R_far (p := ⟨gb162, 1, none⟩) (Kd.R_types HO_14.out BK162.out (by decide)) (fun _ hk => hk.2) (.int .i64 (wrap64 (x163001_2 + 1)))) (fun _ hk => hk.2) (.int .i64 (wrap64 (x163002_2 + 1)))) (fun _ hk => hk.1.1)⟩, ⟨by exact Kd.V_mono (Kd.R_V (Kd.R_far (p := ⟨gb162, 2, none⟩) (Kd.R_far (p := ⟨gb162, 1, none⟩) (Kd.R_types (Kd.R_types (Kd.R_types (Kd.R_types (Kd.R_apart' HO_162000.out (Kd.R_typed HO_14.out) (by decide)) BK158.out (by decide)) BK161.out (by decide)) BK162.out (by decide)) BK162.out (by decide)) (fun _ hk => hk.2) (.int .i64 (wrap64 (x163001_2 + 1)))) (fun _ hk => hk.2) (.int .i64 (wrap64 (x163002_2 + 1))))) (fun _ hk => ⟨.inr hk.1.1.1.1.1.1, ⟨hk.1.1.1.1.2, ⟨hk.1.1.1.1.1.2, ⟨hk.1.1.1.2, ⟨hk.1.1.2, hk.1.2⟩⟩⟩⟩⟩)⟩, ⟨by exact Kd.R_mono (Kd.R_far (p := ⟨gb162, 2, none⟩) (Kd.R_far (p := ⟨gb162, 1, none⟩) (Kd.R_types HO_163000.out BK162.out (by decide)) (fun _ hk => hk.2) (.int .i64 (wrap64 (x163001_2 + 1)))) (fun _ hk => hk.2) (.int .i64 (wrap64 (x163002_2 + 1)))) (fun _ hk => hk.1.1)⟩, ⟨by refine blk_far ?_ NB158_162.out _; refine blk_far ?_ NB158_162.out _; exact BK158.out⟩, ⟨by refine blk_far ?_ NB161_162.out _; refine blk_far ?_ NB161_162.out _; exact BK161.out⟩, ⟨by refine blk_put (cs := #[.slice Ao104 t186.length co104, .int .i64 (wrap64 (x163001_2 + 1)), .int .i64 x163002_2, .bool false]) ?_ 2 _ rfl; refine blk_put (cs := #[.slice Ao104 t186.length co104, .int .i64 x163001_2, .int .i64 x163002_2, .bool false]) ?_ 1 _ rfl; exact BK162.out⟩, ⟨by repeat (first | (with_reducible first | exact HB.out | apply below_alloc | apply pw_below_drewN | apply below_drew1 | refine below_set ?_ GE158.out | refine below_set ?_ GE161.out | refine below_set ?_ GE162.out | refine below_set ?_ GE171.out | refine below_set ?_ GE172.out) | exact HB.out)⟩⟩
                                        · replace c107 := Bool.eq_false_iff.mpr c107
                                          subst c107
                                          have H1 : (if (rd l3 (ji92)) = 3 then (spec_TalkAll.l0 kj94 l0 a1 l2 l3 a4 x14_41 t187 t165 t168 t169 t186 (wrap64 (x163001_2 + 1)) (wrap64 (x163002_2 + 1)) false) else (spec_TalkAll.l0 kj94 l0 a1 l2 l3 a4 x14_41 0 t165 t168 t169 t186 (wrap64 (x163001_2 + 1)) (wrap64 (x163002_2 + 1)) false)) = some (r1, r2, r3, r4, r5) := by rw [if_neg (show ¬ (false = true) by decide)] at H; exact H
                                          clear H
                                          have H := H1
                                          clear H1
                                          by_cases c127 : (rd l3 (ji92)) = 3
                                          · rw [if_pos c127] at H
                                            have c127b0 : ((rd l3 (ji92)) == 3) = true := beq_iff_eq.mpr c127
                                            have c127b1 : ((rd l3 (ji92)) != 3) = false := bne_eq_false_iff_eq.mpr c127
                                            clear c127
                                            have H' := Aside0.mk H
                                            clear H
                                            have hnb128 := NB162_158.out
                                            have hnc128 := NB158_162.out
                                            have hnb129 := NB162_161.out
                                            have hnc129 := NB161_162.out
                                            have hnb130 := NB162_171.out
                                            have hnc130 := NB171_162.out
                                            have hnb131 := NB162_172.out
                                            have hnc131 := NB172_162.out
                                            have hcz132_0 : wc.cell? ⟨gb162, 0, none⟩ = some (.slice Ao104 t186.length co104) := (blk_cell BK162.out 0).trans rfl
                                            have hcz132_1 : wc.cell? ⟨gb162, 1, none⟩ = some (.int .i64 x163001_2) := (blk_cell BK162.out 1).trans rfl
                                            have hcz132_2 : wc.cell? ⟨gb162, 2, none⟩ = some (.int .i64 x163002_2) := (blk_cell BK162.out 2).trans rfl
                                            have hcz132_3 : wc.cell? ⟨gb162, 3, none⟩ = some (.bool false) := (blk_cell BK162.out 3).trans rfl
                                            have hfz132_0 := blk_frozen BK162.out 0
                                            have hfz132_1 := blk_frozen BK162.out 1
                                            have hfz132_2 := blk_frozen BK162.out 2
                                            have hfz132_3 := blk_frozen BK162.out 3
                                            go_wp2
                                            go_roundg kj94
                                            case measure => have := HJ5.out; have := HK2.out; have := HJ25.out; have := HJ41.out; have := HJ94.out; omega
                                            case rel => exact ⟨(x14_41), (t187), (t165), (t168), (t169), (t186), (wrap64 (x163001_2 + 1)), (wrap64 (x163002_2 + 1)), (.slice Ao55 t165.length co55), (.slice Ao104 t186.length co104), (by first | rfl | (simp; done) | (simp [*]; done)), H', ⟨by have := HJ5.out; have := HK2.out; have := HJ25.out; have := HJ41.out; have := HJ94.out; omega⟩, ⟨by (with_reducible repeat (first | apply Kd.V_alloc | apply Kd.V_drewN | apply Kd.V_drew)); exact Kd.V_mono (Kd.V_far (p := ⟨gb162, 2, none⟩) (Kd.V_far (p := ⟨gb162, 1, none⟩) (Kd.V_mono HO_0.out (fun k_ hk => (⟨hk, hk.2.2.2.2.2.2.2.1⟩ : _ ∧ k_ ≠ gb162))) (fun _ hk => hk.2) (.int .i64 (wrap64 (x163001_2 + 1)))) (fun _ hk => hk.2) (.int .i64 (wrap64 (x163002_2 + 1)))) (fun _ hk => ⟨hk.1.1, ⟨hk.1.2.1, ⟨hk.1.2.2.2.1, ⟨hk.1.2.2.2.2.2.1, ⟨hk.1.2.2.2.2.2.2.1, hk.1.2.2.2.2.2.2.2.1⟩⟩⟩⟩⟩)⟩, ⟨by exact Kd.R_mono (Kd.R_far (p := ⟨gb162, 2, none⟩) (Kd.R_far (p := ⟨gb162, 1, none⟩) (Kd.R_types HO_14.out BK162.out (by decide)) (fun _ hk => hk.2) (.int .i64 (wrap64 (x163001_2 + 1)))) (fun _ hk => hk.2) (.int .i64 (wrap64 (x163002_2 + 1)))) (fun _ hk => hk.1.1)⟩, ⟨by exact Kd.V_mono (Kd.R_V (Kd.R_far (p := ⟨gb162, 2, none⟩) (Kd.R_far (p := ⟨gb162, 1, none⟩) (Kd.R_types (Kd.R_types (Kd.R_types (Kd.R_types (Kd.R_apart' HO_162000.out (Kd.R_typed HO_14.out) (by decide)) BK158.out (by decide)) BK161.out (by decide)) BK162.out (by decide)) BK162.out (by decide)) (fun _ hk => hk.2) (.int .i64 (wrap64 (x163001_2 + 1)))) (fun _ hk => hk.2) (.int .i64 (wrap64 (x163002_2 + 1))))) (fun _ hk => ⟨.inr hk.1.1.1.1.1.1, ⟨hk.1.1.1.1.2, ⟨hk.1.1.1.1.1.2, ⟨hk.1.1.1.2, ⟨hk.1.1.2, hk.1.2⟩⟩⟩⟩⟩)⟩, ⟨by exact Kd.R_mono (Kd.R_far (p := ⟨gb162, 2, none⟩) (Kd.R_far (p := ⟨gb162, 1, none⟩) (Kd.R_types HO_163000.out BK162.out (by decide)) (fun _ hk => hk.2) (.int .i64 (wrap64 (x163001_2 + 1)))) (fun _ hk => hk.2) (.int .i64 (wrap64 (x163002_2 + 1)))) (fun _ hk => hk.1.1)⟩, ⟨by refine blk_far ?_ NB158_162.out _; refine blk_far ?_ NB158_162.out _; exact BK158.out⟩, ⟨by refine blk_far ?_ NB161_162.out _; refine blk_far ?_ NB161_162.out _; exact BK161.out⟩, ⟨by refine blk_put (cs := #[.slice Ao104 t186.length co104, .int .i64 (wrap64 (x163001_2 + 1)), .int .i64 x163002_2, .bool false]) ?_ 2 _ rfl; refine blk_put (cs := #[.slice Ao104 t186.length co104, .int .i64 x163001_2, .int .i64 x163002_2, .bool false]) ?_ 1 _ rfl; exact BK162.out⟩, ⟨by repeat (first | (with_reducible first | exact HB.out | apply below_alloc | apply pw_below_drewN | apply below_drew1 | refine below_set ?_ GE158.out | refine below_set ?_ GE161.out | refine below_set ?_ GE162.out | refine below_set ?_ GE171.out | refine below_set ?_ GE172.out) | exact HB.out)⟩⟩
                                          · rw [if_neg c127] at H
                                            have c127b0 : ((rd l3 (ji92)) == 3) = false := beq_eq_false_iff_ne.mpr c127
                                            have c127b1 : ((rd l3 (ji92)) != 3) = true := bne_iff_ne.mpr c127
                                            have H' := Aside0.mk H
                                            clear H
                                            have hnb133 := NB162_158.out
                                            have hnc133 := NB158_162.out
                                            have hnb134 := NB162_161.out
                                            have hnc134 := NB161_162.out
                                            have hnb135 := NB162_171.out
                                            have hnc135 := NB171_162.out
                                            have hnb136 := NB162_172.out
                                            have hnc136 := NB172_162.out
                                            have hcz137_0 : wc.cell? ⟨gb162, 0, none⟩ = some (.slice Ao104 t186.length co104) := (blk_cell BK162.out 0).trans rfl
                                            have hcz137_1 : wc.cell? ⟨gb162, 1, none⟩ = some (.int .i64 x163001_2) := (blk_cell BK162.out 1).trans rfl
                                            have hcz137_2 : wc.cell? ⟨gb162, 2, none⟩ = some (.int .i64 x163002_2) := (blk_cell BK162.out 2).trans rfl
                                            have hcz137_3 : wc.cell? ⟨gb162, 3, none⟩ = some (.bool false) := (blk_cell BK162.out 3).trans rfl
                                            have hfz137_0 := blk_frozen BK162.out 0
                                            have hfz137_1 := blk_frozen BK162.out 1
                                            have hfz137_2 := blk_frozen BK162.out 2
                                            have hfz137_3 := blk_frozen BK162.out 3
                                            go_wp2
                                            go_roundg kj94
                                            case measure => have := HJ5.out; have := HK2.out; have := HJ25.out; have := HJ41.out; have := HJ94.out; omega
                                            case rel => exact ⟨(x14_41), (0), (t165), (t168), (t169), (t186), (wrap64 (x163001_2 + 1)), (wrap64 (x163002_2 + 1)), (.slice Ao55 t165.length co55), (.slice Ao104 t186.length co104), (by first | rfl | (simp; done) | (simp [*]; done)), H', ⟨by have := HJ5.out; have := HK2.out; have := HJ25.out; have := HJ41.out; have := HJ94.out; omega⟩, ⟨by (with_reducible repeat (first | apply Kd.V_alloc | apply Kd.V_drewN | apply Kd.V_drew)); exact Kd.V_mono (Kd.V_far (p := ⟨gb162, 2, none⟩) (Kd.V_far (p := ⟨gb162, 1, none⟩) (Kd.V_mono HO_0.out (fun k_ hk => (⟨hk, hk.2.2.2.2.2.2.2.1⟩ : _ ∧ k_ ≠ gb162))) (fun _ hk => hk.2) (.int .i64 (wrap64 (x163001_2 + 1)))) (fun _ hk => hk.2) (.int .i64 (wrap64 (x163002_2 + 1)))) (fun _ hk => ⟨hk.1.1, ⟨hk.1.2.1, ⟨hk.1.2.2.2.1, ⟨hk.1.2.2.2.2.2.1, ⟨hk.1.2.2.2.2.2.2.1, hk.1.2.2.2.2.2.2.2.1⟩⟩⟩⟩⟩)⟩, ⟨by exact Kd.R_mono (Kd.R_far (p := ⟨gb162, 2, none⟩) (Kd.R_far (p := ⟨gb162, 1, none⟩) (Kd.R_types HO_14.out BK162.out (by decide)) (fun _ hk => hk.2) (.int .i64 (wrap64 (x163001_2 + 1)))) (fun _ hk => hk.2) (.int .i64 (wrap64 (x163002_2 + 1)))) (fun _ hk => hk.1.1)⟩, ⟨by exact Kd.V_mono (Kd.R_V (Kd.R_far (p := ⟨gb162, 2, none⟩) (Kd.R_far (p := ⟨gb162, 1, none⟩) (Kd.R_types (Kd.R_types (Kd.R_types (Kd.R_types (Kd.R_apart' HO_162000.out (Kd.R_typed HO_14.out) (by decide)) BK158.out (by decide)) BK161.out (by decide)) BK162.out (by decide)) BK162.out (by decide)) (fun _ hk => hk.2) (.int .i64 (wrap64 (x163001_2 + 1)))) (fun _ hk => hk.2) (.int .i64 (wrap64 (x163002_2 + 1))))) (fun _ hk => ⟨.inr hk.1.1.1.1.1.1, ⟨hk.1.1.1.1.2, ⟨hk.1.1.1.1.1.2, ⟨hk.1.1.1.2, ⟨hk.1.1.2, hk.1.2⟩⟩⟩⟩⟩)⟩, ⟨by exact Kd.R_mono (Kd.R_far (p := ⟨gb162, 2, none⟩) (Kd.R_far (p := ⟨gb162, 1, none⟩) (Kd.R_types HO_163000.out BK162.out (by decide)) (fun _ hk => hk.2) (.int .i64 (wrap64 (x163001_2 + 1)))) (fun _ hk => hk.2) (.int .i64 (wrap64 (x163002_2 + 1)))) (fun _ hk => hk.1.1)⟩, ⟨by refine blk_far ?_ NB158_162.out _; refine blk_far ?_ NB158_162.out _; exact BK158.out⟩, ⟨by refine blk_far ?_ NB161_162.out _; refine blk_far ?_ NB161_162.out _; exact BK161.out⟩, ⟨by refine blk_put (cs := #[.slice Ao104 t186.length co104, .int .i64 (wrap64 (x163001_2 + 1)), .int .i64 x163002_2, .bool false]) ?_ 2 _ rfl; refine blk_put (cs := #[.slice Ao104 t186.length co104, .int .i64 x163001_2, .int .i64 x163002_2, .bool false]) ?_ 1 _ rfl; exact BK162.out⟩, ⟨by repeat (first | (with_reducible first | exact HB.out | apply below_alloc | apply pw_below_drewN | apply below_drew1 | refine below_set ?_ GE158.out | refine below_set ?_ GE161.out | refine below_set ?_ GE162.out | refine below_set ?_ GE171.out | refine below_set ?_ GE172.out) | exact HB.out)⟩⟩
                                  · rw [if_neg c94] at H
                                    exact absurd H (by simp)
                                · rw [if_neg c93] at H
                                  exact absurd H (by simp)
                        · rw [if_neg c41] at H
                          exact absurd H (by simp)
                      · rw [if_neg c40] at H
                        exact absurd H (by simp)
                  · replace c37 := Bool.eq_false_iff.mpr c37
                    subst c37
                    have H1 : (if 0 > x162001_25 then (some (x163000_2, x163001_2, x163002_2, (0 == (l0.length : Int)), true)) else (some (x163000_2, x163001_2, x163002_2, (x162001_25 == (l0.length : Int)), true))) = some (r1, r2, r3, r4, r5) := by rw [if_neg (show ¬ (false = true) by decide)] at H; exact H
                    clear H
                    have H := H1
                    clear H1
                    by_cases c138 : 0 > x162001_25
                    · rw [if_pos c138] at H
                      have c138b0 : decide (x162001_25 < 0) = true := decide_eq_true c138
                      clear c138
                      simp only [Option.some.injEq, Prod.mk.injEq] at H
                      obtain ⟨rfl, rfl, rfl, rfl, rfl⟩ := H
                      have hnb139 := NB161_158.out
                      have hnc139 := NB158_161.out
                      have hnb140 := NB161_162.out
                      have hnc140 := NB162_161.out
                      have hcz141_0 : wc.cell? ⟨gb161, 0, none⟩ = some (u162000) := (blk_cell BK161.out 0).trans rfl
                      have hcz141_1 : wc.cell? ⟨gb161, 1, none⟩ = some (.int .i64 x162001_25) := (blk_cell BK161.out 1).trans rfl
                      have hcz141_2 : wc.cell? ⟨gb161, 2, none⟩ = some (.int .i64 x162002_2) := (blk_cell BK161.out 2).trans rfl
                      have hfz141_0 := blk_frozen BK161.out 0
                      have hfz141_1 := blk_frozen BK161.out 1
                      have hfz141_2 := blk_frozen BK161.out 2
                      obtain ⟨Ao142, co142, eo142⟩ := Kd.V_slice HO_162000.out
                      subst eo142
                      go_wp2_with (first | ((with_reducible refine gate_callee (f := 30) rfl ?_); refine goesL_ (some 67) rfl rfl Try.func30 (by kernel_rfl) rfl #[.agg #[.slice Ao142 x162000_2.length co142, .int .i64 x162001_25, .int .i64 x162002_2], .int .i64 a1] rfl (by (try simp only [List.map_toArray, List.map_cons, List.map_nil]); first | done | rfl | (simp only [List.length_drop, List.length_take]; rfl)) ?_; (with_reducible refine (spec_SendNext.calls kj25 _ _ x162000_2 x162001_25 x162002_2 a1 t163 t164 t165 t168 t169 false _ ?side1 ?side2 A36.out).mono ?_); (case side1 => repeat (first | exact (Kd.V_reads' HO_162000.out).2.2 | (with_reducible refine Kd.C_alloc ?_ _) | (with_reducible refine Kd.C_drewN ?_ _) | (with_reducible refine Kd.C_drew ?_))); (case side2 => exact (Kd.V_reads' HO_162000.out).2.1); rintro e w143 ⟨v166, rfl, ho0, hb⟩; refine ⟨_, rfl, ?_⟩; have n0_ := Aside0.mk (Kd.V_elder' (by (with_reducible repeat (first | apply Kd.V_alloc | apply Kd.V_drewN | apply Kd.V_drew)); exact HO_0.out) (Kd.R_base ho0) hb); have n1_ := Aside0.mk (Kd.R_below HO_14.out hb); have n2_ := Aside0.mk (Kd.V_elder' (by (with_reducible repeat (first | apply Kd.V_alloc | apply Kd.V_drewN | apply Kd.V_drew)); exact HO_162000.out) (Kd.R_base ho0) hb); have n3_ := Aside0.mk (Kd.R_elder' HO_163000.out (Kd.R_base ho0) hb); have n4_ := Aside0.mk (Kd.R_lower (Kd.R_new' (Kd.R_newM (M := fun k_ => (w.heap.size ≤ k_)) ho0 (below_size (by repeat (first | (with_reducible first | exact HB.out | apply below_alloc | apply pw_below_drewN | apply below_drew1 | refine below_set ?_ GE158.out | refine below_set ?_ GE161.out | refine below_set ?_ GE162.out) | exact HB.out))) (fun k_ h_ => h_)) (Kd.R_lt HO_163000.out)) (below_size (by repeat (first | (with_reducible first | exact HB.out | apply below_alloc | apply pw_below_drewN | apply below_drew1 | refine below_set ?_ GE158.out | refine below_set ?_ GE161.out | refine below_set ?_ GE162.out) | exact HB.out)))); have n5_ := Aside0.mk (blk_below (g := gb158) (o := .cells #[.slice none 0 0, .int .i64 0, .int .i64 0, .bool false] 69 (0, 0)) BK158.out hb); have n6_ := Aside0.mk (blk_below (g := gb161) (o := .cells #[.slice Ao142 x162000_2.length co142, .int .i64 x162001_25, .int .i64 x162002_2] 55 (0, 0)) BK161.out hb); have n7_ := Aside0.mk (blk_below (g := gb162) (o := .cells #[u163000, .int .i64 x163001_2, .int .i64 x163002_2, .bool false] 69 (0, 0)) BK162.out hb); have n8_ := Aside0.mk (below_step (by repeat (first | (with_reducible first | exact HB.out | apply below_alloc | apply pw_below_drewN | apply below_drew1 | refine below_set ?_ GE158.out | refine below_set ?_ GE161.out | refine below_set ?_ GE162.out) | exact HB.out)) hb); clear HO_0; clear HO_14; clear HO_162000; clear HO_163000; clear BK158; clear BK161; clear BK162; clear HB; have HO_0 := n0_; have HO_14 := n1_; have HO_162000 := n2_; have HO_163000 := n3_; have HO167 := n4_; have BK158 := n5_; have BK161 := n6_; have BK162 := n7_; have HB := n8_; clear n0_ n1_ n2_ n3_ n4_ n5_ n6_ n7_ n8_; (try clear hb); (try clear hb2); (try clear hk); (try clear hi); (try clear ho0)) | ((with_reducible refine gate_dst (N := 16) rfl ?_); refine box_event ?hg (N := 16) ?hd (cs := #[.int .i64 0, .int .i64 0]) (t := 54) ?hr ?_; (case hd => rfl); (case hg => rfl); (case hr => first | (go_simp; done) | (go_simp; rfl)); intro gb171 hg w144 hbox hb; have n0_ := Aside0.mk (Kd.V_below (Kd.V_elderB (by (with_reducible repeat (first | apply Kd.V_alloc | apply Kd.V_drewN | apply Kd.V_drew)); exact HO_0.out) gb171 (Nat.le_of_eq hg.symm)) hb); have n1_ := Aside0.mk (Kd.R_below (Kd.R_elderB HO_14.out gb171 (Nat.le_of_eq hg.symm)) hb); have n2_ := Aside0.mk (Kd.V_below (Kd.V_elderB (by (with_reducible repeat (first | apply Kd.V_alloc | apply Kd.V_drewN | apply Kd.V_drew)); exact HO_162000.out) gb171 (Nat.le_of_eq hg.symm)) hb); have n3_ := Aside0.mk (Kd.R_below HO_163000.out hb); have n4_ := Aside0.mk (Kd.R_below HO167.out hb); have n5_ := Aside0.mk (blk_below (g := gb158) (o := .cells #[.slice none 0 0, .int .i64 0, .int .i64 0, .bool false] 69 (0, 0)) BK158.out hb); have n6_ := Aside0.mk (blk_below (g := gb161) (o := .cells #[.slice Ao142 x162000_2.length co142, .int .i64 x162001_25, .int .i64 x162002_2] 55 (0, 0)) BK161.out hb); have n7_ := Aside0.mk (blk_below (g := gb162) (o := .cells #[u163000, .int .i64 x163001_2, .int .i64 x163002_2, .bool false] 69 (0, 0)) BK162.out hb); have n8_ := Aside0.mk (below_step (by repeat (first | (with_reducible first | exact HB.out | apply below_alloc | apply pw_below_drewN | apply below_drew1 | refine below_set ?_ GE158.out | refine below_set ?_ GE161.out | refine below_set ?_ GE162.out) | exact HB.out)) hb); have n9_ := Aside0.mk (hbox); have n10_ := Aside0.mk ((by rw [hg]; exact (below_size (by repeat (first | (with_reducible first | exact HB.out | apply below_alloc | apply pw_below_drewN | apply below_drew1 | refine below_set ?_ GE158.out | refine below_set ?_ GE161.out | refine below_set ?_ GE162.out) | exact HB.out))) : w.heap.size ≤ gb171)); have n11_ := Aside0.mk ((by rw [hg]; exact (below_size (by repeat (first | (with_reducible first | exact HB.out | apply below_alloc | apply pw_below_drewN | apply below_drew1 | refine below_set ?_ GE158.out | refine below_set ?_ GE161.out | refine below_set ?_ GE162.out) | exact HB.out))) : w.heap.size ≤ gb171)); have n12_ := Aside0.mk ((by rw [hg]; exact Nat.ne_of_lt (blk_lt (g := gb158) (o := .cells #[.slice none 0 0, .int .i64 0, .int .i64 0, .bool false] 69 (0, 0)) BK158.out) : gb158 ≠ gb171)); have n13_ := Aside0.mk ((by rw [hg]; exact Nat.ne_of_gt (blk_lt (g := gb158) (o := .cells #[.slice none 0 0, .int .i64 0, .int .i64 0, .bool false] 69 (0, 0)) BK158.out) : gb171 ≠ gb158)); have n14_ := Aside0.mk ((by rw [hg]; exact Nat.ne_of_lt (blk_lt (g := gb161) (o := .cells #[.slice Ao142 x162000_2.length co142, .int .i64 x162001_25, .int .i64 x162002_2] 55 (0, 0)) BK161.out) : gb161 ≠ gb171)); have n15_ := Aside0.mk ((by rw [hg]; exact Nat.ne_of_gt (blk_lt (g := gb161) (o := .cells #[.slice Ao142 x162000_2.length co142, .int .i64 x162001_25, .int .i64 x162002_2] 55 (0, 0)) BK161.out) : gb171 ≠ gb161)); have n16_ := Aside0.mk ((by rw [hg]; exact Nat.ne_of_lt (blk_lt (g := gb162) (o := .cells #[u163000, .int .i64 x163001_2, .int .i64 x163002_2, .bool false] 69 (0, 0)) BK162.out) : gb162 ≠ gb171)); have n17_ := Aside0.mk ((by rw [hg]; exact Nat.ne_of_gt (blk_lt (g := gb162) (o := .cells #[u163000, .int .i64 x163001_2, .int .i64 x163002_2, .bool false] 69 (0, 0)) BK162.out) : gb171 ≠ gb162)); clear HO_0; clear HO_14; clear HO_162000; clear HO_163000; clear HO167; clear BK158; clear BK161; clear BK162; clear HB; have HO_0 := n0_; have HO_14 := n1_; have HO_162000 := n2_; have HO_163000 := n3_; have HO167 := n4_; have BK158 := n5_; have BK161 := n6_; have BK162 := n7_; have HB := n8_; have BK171 := n9_; have GW171 := n10_; have GE171 := n11_; have NB158_171 := n12_; have NB171_158 := n13_; have NB161_171 := n14_; have NB171_161 := n15_; have NB162_171 := n16_; have NB171_162 := n17_; clear n0_ n1_ n2_ n3_ n4_ n5_ n6_ n7_ n8_ n9_ n10_ n11_ n12_ n13_ n14_ n15_ n16_ n17_; clear hb hbox hg) | ((with_reducible refine gate_dst (N := 17) rfl ?_); refine box_event ?hg (N := 17) ?hd (cs := #[.slice none 0 0, .int .i64 0, .int .i64 0]) (t := 55) ?hr ?_; (case hd => rfl); (case hg => rfl); (case hr => first | (go_simp; done) | (go_simp; rfl)); intro gb172 hg w145 hbox hb; have n0_ := Aside0.mk (Kd.V_below (Kd.V_elderB (by (with_reducible repeat (first | apply Kd.V_alloc | apply Kd.V_drewN | apply Kd.V_drew)); exact HO_0.out) gb172 (Nat.le_of_eq hg.symm)) hb); have n1_ := Aside0.mk (Kd.R_below HO_14.out hb); have n2_ := Aside0.mk (Kd.V_below (Kd.V_elderB (by (with_reducible repeat (first | apply Kd.V_alloc | apply Kd.V_drewN | apply Kd.V_drew)); exact HO_162000.out) gb172 (Nat.le_of_eq hg.symm)) hb); have n3_ := Aside0.mk (Kd.R_below HO_163000.out hb); have n4_ := Aside0.mk (Kd.R_below HO167.out hb); have n5_ := Aside0.mk (blk_below (g := gb158) (o := .cells #[.slice none 0 0, .int .i64 0, .int .i64 0, .bool false] 69 (0, 0)) BK158.out hb); have n6_ := Aside0.mk (blk_below (g := gb161) (o := .cells #[.slice Ao142 x162000_2.length co142, .int .i64 x162001_25, .int .i64 x162002_2] 55 (0, 0)) BK161.out hb); have n7_ := Aside0.mk (blk_below (g := gb162) (o := .cells #[u163000, .int .i64 x163001_2, .int .i64 x163002_2, .bool false] 69 (0, 0)) BK162.out hb); have n8_ := Aside0.mk (blk_below (g := gb171) (o := .cells #[.int .i64 0, .int .i64 0] 54 (0, 0)) BK171.out hb); have n9_ := Aside0.mk (below_step (by repeat (first | (with_reducible first | exact HB.out | apply below_alloc | apply pw_below_drewN | apply below_drew1 | refine below_set ?_ GE158.out | refine below_set ?_ GE161.out | refine below_set ?_ GE162.out | refine below_set ?_ GE171.out) | exact HB.out)) hb); have n10_ := Aside0.mk (hbox); have n11_ := Aside0.mk ((by rw [hg]; exact (below_size (by repeat (first | (with_reducible first | exact HB.out | apply below_alloc | apply pw_below_drewN | apply below_drew1 | refine below_set ?_ GE158.out | refine below_set ?_ GE161.out | refine below_set ?_ GE162.out | refine below_set ?_ GE171.out) | exact HB.out))) : w.heap.size ≤ gb172)); have n12_ := Aside0.mk ((by rw [hg]; exact (below_size (by repeat (first | (with_reducible first | exact HB.out | apply below_alloc | apply pw_below_drewN | apply below_drew1 | refine below_set ?_ GE158.out | refine below_set ?_ GE161.out | refine below_set ?_ GE162.out | refine below_set ?_ GE171.out) | exact HB.out))) : w.heap.size ≤ gb172)); have n13_ := Aside0.mk ((by rw [hg]; exact Nat.ne_of_lt (blk_lt (g := gb158) (o := .cells #[.slice none 0 0, .int .i64 0, .int .i64 0, .bool false] 69 (0, 0)) BK158.out) : gb158 ≠ gb172)); have n14_ := Aside0.mk ((by rw [hg]; exact Nat.ne_of_gt (blk_lt (g := gb158) (o := .cells #[.slice none 0 0, .int .i64 0, .int .i64 0, .bool false] 69 (0, 0)) BK158.out) : gb172 ≠ gb158)); have n15_ := Aside0.mk ((by rw [hg]; exact Nat.ne_of_lt (blk_lt (g := gb161) (o := .cells #[.slice Ao142 x162000_2.length co142, .int .i64 x162001_25, .int .i64 x162002_2] 55 (0, 0)) BK161.out) : gb161 ≠ gb172)); have n16_ := Aside0.mk ((by rw [hg]; exact Nat.ne_of_gt (blk_lt (g := gb161) (o := .cells #[.slice Ao142 x162000_2.length co142, .int .i64 x162001_25, .int .i64 x162002_2] 55 (0, 0)) BK161.out) : gb172 ≠ gb161)); have n17_ := Aside0.mk ((by rw [hg]; exact Nat.ne_of_lt (blk_lt (g := gb162) (o := .cells #[u163000, .int .i64 x163001_2, .int .i64 x163002_2, .bool false] 69 (0, 0)) BK162.out) : gb162 ≠ gb172)); have n18_ := Aside0.mk ((by rw [hg]; exact Nat.ne_of_gt (blk_lt (g := gb162) (o := .cells #[u163000, .int .i64 x163001_2, .int .i64 x163002_2, .bool false] 69 (0, 0)) BK162.out) : gb172 ≠ gb162)); have n19_ := Aside0.mk ((by rw [hg]; exact Nat.ne_of_lt (blk_lt (g := gb171) (o := .cells #[.int .i64 0, .int .i64 0] 54 (0, 0)) BK171.out) : gb171 ≠ gb172)); have n20_ := Aside0.mk ((by rw [hg]; exact Nat.ne_of_gt (blk_lt (g := gb171) (o := .cells #[.int .i64 0, .int .i64 0] 54 (0, 0)) BK171.out) : gb172 ≠ gb171)); clear HO_0; clear HO_14; clear HO_162000; clear HO_163000; clear HO167; clear BK158; clear BK161; clear BK162; clear BK171; clear HB; have HO_0 := n0_; have HO_14 := n1_; have HO_162000 := n2_; have HO_163000 := n3_; have HO167 := n4_; have BK158 := n5_; have BK161 := n6_; have BK162 := n7_; have BK171 := n8_; have HB := n9_; have BK172 := n10_; have GW172 := n11_; have GE172 := n12_; have NB158_172 := n13_; have NB172_158 := n14_; have NB161_172 := n15_; have NB172_161 := n16_; have NB162_172 := n17_; have NB172_162 := n18_; have NB171_172 := n19_; have NB172_171 := n20_; clear n0_ n1_ n2_ n3_ n4_ n5_ n6_ n7_ n8_ n9_ n10_ n11_ n12_ n13_ n14_ n15_ n16_ n17_ n18_ n19_ n20_; clear hb hbox hg; have hnb146 := NB171_158.out; have hnc146 := NB158_171.out; have hnb147 := NB171_161.out; have hnc147 := NB161_171.out; have hnb148 := NB171_162.out; have hnc148 := NB162_171.out; have hnb149 := NB171_172.out; have hnc149 := NB172_171.out; have hcz150_0 : w145.cell? ⟨gb171, 0, none⟩ = some (.int .i64 0) := (blk_cell BK171.out 0).trans rfl; have hcz150_1 : w145.cell? ⟨gb171, 1, none⟩ = some (.int .i64 0) := (blk_cell BK171.out 1).trans rfl; have hfz150_0 := blk_frozen BK171.out 0; have hfz150_1 := blk_frozen BK171.out 1; obtain ⟨Ao151, co151, eo151⟩ := Kd.R_slice HO167.out; subst eo151; have hnb152 := NB172_158.out; have hnc152 := NB158_172.out; have hnb153 := NB172_161.out; have hnc153 := NB161_172.out; have hnb154 := NB172_162.out; have hnc154 := NB162_172.out; have hcz155_0 : w145.cell? ⟨gb172, 0, none⟩ = some (.slice none 0 0) := (blk_cell BK172.out 0).trans rfl; have hcz155_1 : w145.cell? ⟨gb172, 1, none⟩ = some (.int .i64 0) := (blk_cell BK172.out 1).trans rfl; have hcz155_2 : w145.cell? ⟨gb172, 2, none⟩ = some (.int .i64 0) := (blk_cell BK172.out 2).trans rfl; have hfz155_0 := blk_frozen BK172.out 0; have hfz155_1 := blk_frozen BK172.out 1; have hfz155_2 := blk_frozen BK172.out 2; have hcz156_0 : w145.cell? ⟨gb161, 0, none⟩ = some (.slice Ao142 x162000_2.length co142) := (blk_cell BK161.out 0).trans rfl; have hcz156_1 : w145.cell? ⟨gb161, 1, none⟩ = some (.int .i64 x162001_25) := (blk_cell BK161.out 1).trans rfl; have hcz156_2 : w145.cell? ⟨gb161, 2, none⟩ = some (.int .i64 x162002_2) := (blk_cell BK161.out 2).trans rfl; have hfz156_0 := blk_frozen BK161.out 0; have hfz156_1 := blk_frozen BK161.out 1; have hfz156_2 := blk_frozen BK161.out 2; have hnb157 := NB162_158.out; have hnc157 := NB158_162.out; have hcz158_0 : w145.cell? ⟨gb162, 0, none⟩ = some (u163000) := (blk_cell BK162.out 0).trans rfl; have hcz158_1 : w145.cell? ⟨gb162, 1, none⟩ = some (.int .i64 x163001_2) := (blk_cell BK162.out 1).trans rfl; have hcz158_2 : w145.cell? ⟨gb162, 2, none⟩ = some (.int .i64 x163002_2) := (blk_cell BK162.out 2).trans rfl; have hcz158_3 : w145.cell? ⟨gb162, 3, none⟩ = some (.bool false) := (blk_cell BK162.out 3).trans rfl; have hfz158_0 := blk_frozen BK162.out 0; have hfz158_1 := blk_frozen BK162.out 1; have hfz158_2 := blk_frozen BK162.out 2; have hfz158_3 := blk_frozen BK162.out 3; obtain ⟨Ao159, co159, eo159⟩ := Kd.R_slice HO_163000.out; subst eo159; have hcz160_0 : w145.cell? ⟨gb158, 0, none⟩ = some (.slice none 0 0) := (blk_cell BK158.out 0).trans rfl; have hcz160_1 : w145.cell? ⟨gb158, 1, none⟩ = some (.int .i64 0) := (blk_cell BK158.out 1).trans rfl; have hcz160_2 : w145.cell? ⟨gb158, 2, none⟩ = some (.int .i64 0) := (blk_cell BK158.out 2).trans rfl; have hcz160_3 : w145.cell? ⟨gb158, 3, none⟩ = some (.bool false) := (blk_cell BK158.out 3).trans rfl; have hfz160_0 := blk_frozen BK158.out 0; have hfz160_1 := blk_frozen BK158.out 1; have hfz160_2 := blk_frozen BK158.out 2; have hfz160_3 := blk_frozen BK158.out 3))
                      refine bodyPost_ret (results_ct rfl _ _ gb158 69 #[.slice Ao159 x163000_2.length co159, .int .i64 x163001_2, .int .i64 x163002_2, .bool (0 == (l0.length : Int))] (0, 0) _ rfl (by refine blk_put (cs := #[.slice Ao159 x163000_2.length co159, .int .i64 x163001_2, .int .i64 x163002_2, .bool false]) ?_ 3 _ rfl; refine blk_put (cs := #[.slice Ao159 x163000_2.length co159, .int .i64 x163001_2, .int .i64 0, .bool false]) ?_ 2 _ rfl; refine blk_put (cs := #[.slice Ao159 x163000_2.length co159, .int .i64 0, .int .i64 0, .bool false]) ?_ 1 _ rfl; refine blk_put (cs := #[.slice none 0 0, .int .i64 0, .int .i64 0, .bool false]) ?_ 0 _ rfl; refine blk_far ?_ NB158_162.out _; refine blk_far ?_ NB158_161.out _; refine blk_far ?_ NB158_172.out _; refine blk_far ?_ NB158_172.out _; refine blk_far ?_ NB158_172.out _; refine blk_far ?_ NB158_171.out _; refine blk_far ?_ NB158_171.out _; exact BK158.out) Try.underlying69 rfl (by kernel_rfl)) rfl ?_
                      exact ⟨_, by first | rfl | (simp [errW_none, errW_some] <;> rfl) | (simp [*, errW_none, errW_some] <;> rfl), by exact Kd.R_mono (Kd.R_far (p := ⟨gb158, 3, none⟩) (Kd.R_far (p := ⟨gb158, 2, none⟩) (Kd.R_far (p := ⟨gb158, 1, none⟩) (Kd.R_far (p := ⟨gb158, 0, none⟩) (Kd.R_far (p := ⟨gb162, 3, none⟩) (Kd.R_far (p := ⟨gb161, 1, none⟩) (Kd.R_far (p := ⟨gb172, 2, none⟩) (Kd.R_far (p := ⟨gb172, 1, none⟩) (Kd.R_far (p := ⟨gb172, 0, none⟩) (Kd.R_far (p := ⟨gb171, 1, none⟩) (Kd.R_far (p := ⟨gb171, 0, none⟩) (Kd.R_types (Kd.R_types (Kd.R_types (Kd.R_types (Kd.R_types HO_163000.out BK171.out (by decide)) BK172.out (by decide)) BK161.out (by decide)) BK162.out (by decide)) BK158.out (by decide)) (fun _ hk => hk.1.1.1.1.2) (.int .i64 t163)) (fun _ hk => hk.1.1.1.1.2) (.int .i64 t164)) (fun _ hk => hk.1.1.1.2) (.slice Ao151 t165.length co151)) (fun _ hk => hk.1.1.1.2) (.int .i64 t168)) (fun _ hk => hk.1.1.1.2) (.int .i64 t169)) (fun _ hk => hk.1.1.2) (.int .i64 0)) (fun _ hk => hk.1.2) (.bool (0 == (l0.length : Int)))) (fun _ hk => hk.2) (.slice Ao159 x163000_2.length co159)) (fun _ hk => hk.2) (.int .i64 x163001_2)) (fun _ hk => hk.2) (.int .i64 x163002_2)) (fun _ hk => hk.2) (.bool (0 == (l0.length : Int)))) (fun _ hk => hk.1.1.1.1.1.1), by repeat (first | (with_reducible first | exact HB.out | apply below_alloc | apply pw_below_drewN | apply below_drew1 | refine below_set ?_ GE158.out | refine below_set ?_ GE161.out | refine below_set ?_ GE162.out | refine below_set ?_ GE171.out | refine below_set ?_ GE172.out) | exact HB.out)⟩
                    · rw [if_neg c138] at H
                      have c138b0 : decide (x162001_25 < 0) = false := decide_eq_false c138
                      clear c138
                      simp only [Option.some.injEq, Prod.mk.injEq] at H
                      obtain ⟨rfl, rfl, rfl, rfl, rfl⟩ := H
                      have hnb161 := NB161_158.out
                      have hnc161 := NB158_161.out
                      have hnb162 := NB161_162.out
                      have hnc162 := NB162_161.out
                      have hcz163_0 : wc.cell? ⟨gb161, 0, none⟩ = some (u162000) := (blk_cell BK161.out 0).trans rfl
                      have hcz163_1 : wc.cell? ⟨gb161, 1, none⟩ = some (.int .i64 x162001_25) := (blk_cell BK161.out 1).trans rfl
                      have hcz163_2 : wc.cell? ⟨gb161, 2, none⟩ = some (.int .i64 x162002_2) := (blk_cell BK161.out 2).trans rfl
                      have hfz163_0 := blk_frozen BK161.out 0
                      have hfz163_1 := blk_frozen BK161.out 1
                      have hfz163_2 := blk_frozen BK161.out 2
                      obtain ⟨Ao164, co164, eo164⟩ := Kd.V_slice HO_162000.out
                      subst eo164
                      go_wp2_with (first | ((with_reducible refine gate_callee (f := 30) rfl ?_); refine goesL_ (some 67) rfl rfl Try.func30 (by kernel_rfl) rfl #[.agg #[.slice Ao164 x162000_2.length co164, .int .i64 x162001_25, .int .i64 x162002_2], .int .i64 a1] rfl (by (try simp only [List.map_toArray, List.map_cons, List.map_nil]); first | done | rfl | (simp only [List.length_drop, List.length_take]; rfl)) ?_; (with_reducible refine (spec_SendNext.calls kj25 _ _ x162000_2 x162001_25 x162002_2 a1 t163 t164 t165 t168 t169 false _ ?side1 ?side2 A36.out).mono ?_); (case side1 => repeat (first | exact (Kd.V_reads' HO_162000.out).2.2 | (with_reducible refine Kd.C_alloc ?_ _) | (with_reducible refine Kd.C_drewN ?_ _) | (with_reducible refine Kd.C_drew ?_))); (case side2 => exact (Kd.V_reads' HO_162000.out).2.1); rintro e w165 ⟨v166, rfl, ho0, hb⟩; refine ⟨_, rfl, ?_⟩; have n0_ := Aside0.mk (Kd.V_elder' (by (with_reducible repeat (first | apply Kd.V_alloc | apply Kd.V_drewN | apply Kd.V_drew)); exact HO_0.out) (Kd.R_base ho0) hb); have n1_ := Aside0.mk (Kd.R_below HO_14.out hb); have n2_ := Aside0.mk (Kd.V_elder' (by (with_reducible repeat (first | apply Kd.V_alloc | apply Kd.V_drewN | apply Kd.V_drew)); exact HO_162000.out) (Kd.R_base ho0) hb); have n3_ := Aside0.mk (Kd.R_elder' HO_163000.out (Kd.R_base ho0) hb); have n4_ := Aside0.mk (Kd.R_lower (Kd.R_new' (Kd.R_newM (M := fun k_ => (w.heap.size ≤ k_)) ho0 (below_size (by repeat (first | (with_reducible first | exact HB.out | apply below_alloc | apply pw_below_drewN | apply below_drew1 | refine below_set ?_ GE158.out | refine below_set ?_ GE161.out | refine below_set ?_ GE162.out) | exact HB.out))) (fun k_ h_ => h_)) (Kd.R_lt HO_163000.out)) (below_size (by repeat (first | (with_reducible first | exact HB.out | apply below_alloc | apply pw_below_drewN | apply below_drew1 | refine below_set ?_ GE158.out | refine below_set ?_ GE161.out | refine below_set ?_ GE162.out) | exact HB.out)))); have n5_ := Aside0.mk (blk_below (g := gb158) (o := .cells #[.slice none 0 0, .int .i64 0, .int .i64 0, .bool false] 69 (0, 0)) BK158.out hb); have n6_ := Aside0.mk (blk_below (g := gb161) (o := .cells #[.slice Ao164 x162000_2.length co164, .int .i64 x162001_25, .int .i64 x162002_2] 55 (0, 0)) BK161.out hb); have n7_ := Aside0.mk (blk_below (g := gb162) (o := .cells #[u163000, .int .i64 x163001_2, .int .i64 x163002_2, .bool false] 69 (0, 0)) BK162.out hb); have n8_ := Aside0.mk (below_step (by repeat (first | (with_reducible first | exact HB.out | apply below_alloc | apply pw_below_drewN | apply below_drew1 | refine below_set ?_ GE158.out | refine below_set ?_ GE161.out | refine below_set ?_ GE162.out) | exact HB.out)) hb); clear HO_0; clear HO_14; clear HO_162000; clear HO_163000; clear BK158; clear BK161; clear BK162; clear HB; have HO_0 := n0_; have HO_14 := n1_; have HO_162000 := n2_; have HO_163000 := n3_; have HO167 := n4_; have BK158 := n5_; have BK161 := n6_; have BK162 := n7_; have HB := n8_; clear n0_ n1_ n2_ n3_ n4_ n5_ n6_ n7_ n8_; (try clear hb); (try clear hb2); (try clear hk); (try clear hi); (try clear ho0)) | ((with_reducible refine gate_dst (N := 16) rfl ?_); refine box_event ?hg (N := 16) ?hd (cs := #[.int .i64 0, .int .i64 0]) (t := 54) ?hr ?_; (case hd => rfl); (case hg => rfl); (case hr => first | (go_simp; done) | (go_simp; rfl)); intro gb171 hg w166 hbox hb; have n0_ := Aside0.mk (Kd.V_below (Kd.V_elderB (by (with_reducible repeat (first | apply Kd.V_alloc | apply Kd.V_drewN | apply Kd.V_drew)); exact HO_0.out) gb171 (Nat.le_of_eq hg.symm)) hb); have n1_ := Aside0.mk (Kd.R_below (Kd.R_elderB HO_14.out gb171 (Nat.le_of_eq hg.symm)) hb); have n2_ := Aside0.mk (Kd.V_below (Kd.V_elderB (by (with_reducible repeat (first | apply Kd.V_alloc | apply Kd.V_drewN | apply Kd.V_drew)); exact HO_162000.out) gb171 (Nat.le_of_eq hg.symm)) hb); have n3_ := Aside0.mk (Kd.R_below HO_163000.out hb); have n4_ := Aside0.mk (Kd.R_below HO167.out hb); have n5_ := Aside0.mk (blk_below (g := gb158) (o := .cells #[.slice none 0 0, .int .i64 0, .int .i64 0, .bool false] 69 (0, 0)) BK158.out hb); have n6_ := Aside0.mk (blk_below (g := gb161) (o := .cells #[.slice Ao164 x162000_2.length co164, .int .i64 x162001_25, .int .i64 x162002_2] 55 (0, 0)) BK161.out hb); have n7_ := Aside0.mk (blk_below (g := gb162) (o := .cells #[u163000, .int .i64 x163001_2, .int .i64 x163002_2, .bool false] 69 (0, 0)) BK162.out hb); have n8_ := Aside0.mk (below_step (by repeat (first | (with_reducible first | exact HB.out | apply below_alloc | apply pw_below_drewN | apply below_drew1 | refine below_set ?_ GE158.out | refine below_set ?_ GE161.out | refine below_set ?_ GE162.out) | exact HB.out)) hb); have n9_ := Aside0.mk (hbox); have n10_ := Aside0.mk ((by rw [hg]; exact (below_size (by repeat (first | (with_reducible first | exact HB.out | apply below_alloc | apply pw_below_drewN | apply below_drew1 | refine below_set ?_ GE158.out | refine below_set ?_ GE161.out | refine below_set ?_ GE162.out) | exact HB.out))) : w.heap.size ≤ gb171)); have n11_ := Aside0.mk ((by rw [hg]; exact (below_size (by repeat (first | (with_reducible first | exact HB.out | apply below_alloc | apply pw_below_drewN | apply below_drew1 | refine below_set ?_ GE158.out | refine below_set ?_ GE161.out | refine below_set ?_ GE162.out) | exact HB.out))) : w.heap.size ≤ gb171)); have n12_ := Aside0.mk ((by rw [hg]; exact Nat.ne_of_lt (blk_lt (g := gb158) (o := .cells #[.slice none 0 0, .int .i64 0, .int .i64 0, .bool false] 69 (0, 0)) BK158.out) : gb158 ≠ gb171)); have n13_ := Aside0.mk ((by rw [hg]; exact Nat.ne_of_gt (blk_lt (g := gb158) (o := .cells #[.slice none 0 0, .int .i64 0, .int .i64 0, .bool false] 69 (0, 0)) BK158.out) : gb171 ≠ gb158)); have n14_ := Aside0.mk ((by rw [hg]; exact Nat.ne_of_lt (blk_lt (g := gb161) (o := .cells #[.slice Ao164 x162000_2.length co164, .int .i64 x162001_25, .int .i64 x162002_2] 55 (0, 0)) BK161.out) : gb161 ≠ gb171)); have n15_ := Aside0.mk ((by rw [hg]; exact Nat.ne_of_gt (blk_lt (g := gb161) (o := .cells #[.slice Ao164 x162000_2.length co164, .int .i64 x162001_25, .int .i64 x162002_2] 55 (0, 0)) BK161.out) : gb171 ≠ gb161)); have n16_ := Aside0.mk ((by rw [hg]; exact Nat.ne_of_lt (blk_lt (g := gb162) (o := .cells #[u163000, .int .i64 x163001_2, .int .i64 x163002_2, .bool false] 69 (0, 0)) BK162.out) : gb162 ≠ gb171)); have n17_ := Aside0.mk ((by rw [hg]; exact Nat.ne_of_gt (blk_lt (g := gb162) (o := .cells #[u163000, .int .i64 x163001_2, .int .i64 x163002_2, .bool false] 69 (0, 0)) BK162.out) : gb171 ≠ gb162)); clear HO_0; clear HO_14; clear HO_162000; clear HO_163000; clear HO167; clear BK158; clear BK161; clear BK162; clear HB; have HO_0 := n0_; have HO_14 := n1_; have HO_162000 := n2_; have HO_163000 := n3_; have HO167 := n4_; have BK158 := n5_; have BK161 := n6_; have BK162 := n7_; have HB := n8_; have BK171 := n9_; have GW171 := n10_; have GE171 := n11_; have NB158_171 := n12_; have NB171_158 := n13_; have NB161_171 := n14_; have NB171_161 := n15_; have NB162_171 := n16_; have NB171_162 := n17_; clear n0_ n1_ n2_ n3_ n4_ n5_ n6_ n7_ n8_ n9_ n10_ n11_ n12_ n13_ n14_ n15_ n16_ n17_; clear hb hbox hg) | ((with_reducible refine gate_dst (N := 17) rfl ?_); refine box_event ?hg (N := 17) ?hd (cs := #[.slice none 0 0, .int .i64 0, .int .i64 0]) (t := 55) ?hr ?_; (case hd => rfl); (case hg => rfl); (case hr => first | (go_simp; done) | (go_simp; rfl)); intro gb172 hg w167 hbox hb; have n0_ := Aside0.mk (Kd.V_below (Kd.V_elderB (by (with_reducible repeat (first | apply Kd.V_alloc | apply Kd.V_drewN | apply Kd.V_drew)); exact HO_0.out) gb172 (Nat.le_of_eq hg.symm)) hb); have n1_ := Aside0.mk (Kd.R_below HO_14.out hb); have n2_ := Aside0.mk (Kd.V_below (Kd.V_elderB (by (with_reducible repeat (first | apply Kd.V_alloc | apply Kd.V_drewN | apply Kd.V_drew)); exact HO_162000.out) gb172 (Nat.le_of_eq hg.symm)) hb); have n3_ := Aside0.mk (Kd.R_below HO_163000.out hb); have n4_ := Aside0.mk (Kd.R_below HO167.out hb); have n5_ := Aside0.mk (blk_below (g := gb158) (o := .cells #[.slice none 0 0, .int .i64 0, .int .i64 0, .bool false] 69 (0, 0)) BK158.out hb); have n6_ := Aside0.mk (blk_below (g := gb161) (o := .cells #[.slice Ao164 x162000_2.length co164, .int .i64 x162001_25, .int .i64 x162002_2] 55 (0, 0)) BK161.out hb); have n7_ := Aside0.mk (blk_below (g := gb162) (o := .cells #[u163000, .int .i64 x163001_2, .int .i64 x163002_2, .bool false] 69 (0, 0)) BK162.out hb); have n8_ := Aside0.mk (blk_below (g := gb171) (o := .cells #[.int .i64 0, .int .i64 0] 54 (0, 0)) BK171.out hb); have n9_ := Aside0.mk (below_step (by repeat (first | (with_reducible first | exact HB.out | apply below_alloc | apply pw_below_drewN | apply below_drew1 | refine below_set ?_ GE158.out | refine below_set ?_ GE161.out | refine below_set ?_ GE162.out | refine below_set ?_ GE171.out) | exact HB.out)) hb); have n10_ := Aside0.mk (hbox); have n11_ := Aside0.mk ((by rw [hg]; exact (below_size (by repeat (first | (with_reducible first | exact HB.out | apply below_alloc | apply pw_below_drewN | apply below_drew1 | refine below_set ?_ GE158.out | refine below_set ?_ GE161.out | refine below_set ?_ GE162.out | refine below_set ?_ GE171.out) | exact HB.out))) : w.heap.size ≤ gb172)); have n12_ := Aside0.mk ((by rw [hg]; exact (below_size (by repeat (first | (with_reducible first | exact HB.out | apply below_alloc | apply pw_below_drewN | apply below_drew1 | refine below_set ?_ GE158.out | refine below_set ?_ GE161.out | refine below_set ?_ GE162.out | refine below_set ?_ GE171.out) | exact HB.out))) : w.heap.size ≤ gb172)); have n13_ := Aside0.mk ((by rw [hg]; exact Nat.ne_of_lt (blk_lt (g := gb158) (o := .cells #[.slice none 0 0, .int .i64 0, .int .i64 0, .bool false] 69 (0, 0)) BK158.out) : gb158 ≠ gb172)); have n14_ := Aside0.mk ((by rw [hg]; exact Nat.ne_of_gt (blk_lt (g := gb158) (o := .cells #[.slice none 0 0, .int .i64 0, .int .i64 0, .bool false] 69 (0, 0)) BK158.out) : gb172 ≠ gb158)); have n15_ := Aside0.mk ((by rw [hg]; exact Nat.ne_of_lt (blk_lt (g := gb161) (o := .cells #[.slice Ao164 x162000_2.length co164, .int .i64 x162001_25, .int .i64 x162002_2] 55 (0, 0)) BK161.out) : gb161 ≠ gb172)); have n16_ := Aside0.mk ((by rw [hg]; exact Nat.ne_of_gt (blk_lt (g := gb161) (o := .cells #[.slice Ao164 x162000_2.length co164, .int .i64 x162001_25, .int .i64 x162002_2] 55 (0, 0)) BK161.out) : gb172 ≠ gb161)); have n17_ := Aside0.mk ((by rw [hg]; exact Nat.ne_of_lt (blk_lt (g := gb162) (o := .cells #[u163000, .int .i64 x163001_2, .int .i64 x163002_2, .bool false] 69 (0, 0)) BK162.out) : gb162 ≠ gb172)); have n18_ := Aside0.mk ((by rw [hg]; exact Nat.ne_of_gt (blk_lt (g := gb162) (o := .cells #[u163000, .int .i64 x163001_2, .int .i64 x163002_2, .bool false] 69 (0, 0)) BK162.out) : gb172 ≠ gb162)); have n19_ := Aside0.mk ((by rw [hg]; exact Nat.ne_of_lt (blk_lt (g := gb171) (o := .cells #[.int .i64 0, .int .i64 0] 54 (0, 0)) BK171.out) : gb171 ≠ gb172)); have n20_ := Aside0.mk ((by rw [hg]; exact Nat.ne_of_gt (blk_lt (g := gb171) (o := .cells #[.int .i64 0, .int .i64 0] 54 (0, 0)) BK171.out) : gb172 ≠ gb171)); clear HO_0; clear HO_14; clear HO_162000; clear HO_163000; clear HO167; clear BK158; clear BK161; clear BK162; clear BK171; clear HB; have HO_0 := n0_; have HO_14 := n1_; have HO_162000 := n2_; have HO_163000 := n3_; have HO167 := n4_; have BK158 := n5_; have BK161 := n6_; have BK162 := n7_; have BK171 := n8_; have HB := n9_; have BK172 := n10_; have GW172 := n11_; have GE172 := n12_; have NB158_172 := n13_; have NB172_158 := n14_; have NB161_172 := n15_; have NB172_161 := n16_; have NB162_172 := n17_; have NB172_162 := n18_; have NB171_172 := n19_; have NB172_171 := n20_; clear n0_ n1_ n2_ n3_ n4_ n5_ n6_ n7_ n8_ n9_ n10_ n11_ n12_ n13_ n14_ n15_ n16_ n17_ n18_ n19_ n20_; clear hb hbox hg; have hnb168 := NB171_158.out; have hnc168 := NB158_171.out; have hnb169 := NB171_161.out; have hnc169 := NB161_171.out; have hnb170 := NB171_162.out; have hnc170 := NB162_171.out; have hnb171 := NB171_172.out; have hnc171 := NB172_171.out; have hcz172_0 : w167.cell? ⟨gb171, 0, none⟩ = some (.int .i64 0) := (blk_cell BK171.out 0).trans rfl; have hcz172_1 : w167.cell? ⟨gb171, 1, none⟩ = some (.int .i64 0) := (blk_cell BK171.out 1).trans rfl; have hfz172_0 := blk_frozen BK171.out 0; have hfz172_1 := blk_frozen BK171.out 1; obtain ⟨Ao173, co173, eo173⟩ := Kd.R_slice HO167.out; subst eo173; have hnb174 := NB172_158.out; have hnc174 := NB158_172.out; have hnb175 := NB172_161.out; have hnc175 := NB161_172.out; have hnb176 := NB172_162.out; have hnc176 := NB162_172.out; have hcz177_0 : w167.cell? ⟨gb172, 0, none⟩ = some (.slice none 0 0) := (blk_cell BK172.out 0).trans rfl; have hcz177_1 : w167.cell? ⟨gb172, 1, none⟩ = some (.int .i64 0) := (blk_cell BK172.out 1).trans rfl; have hcz177_2 : w167.cell? ⟨gb172, 2, none⟩ = some (.int .i64 0) := (blk_cell BK172.out 2).trans rfl; have hfz177_0 := blk_frozen BK172.out 0; have hfz177_1 := blk_frozen BK172.out 1; have hfz177_2 := blk_frozen BK172.out 2; have hcz178_0 : w167.cell? ⟨gb161, 0, none⟩ = some (.slice Ao164 x162000_2.length co164) := (blk_cell BK161.out 0).trans rfl; have hcz178_1 : w167.cell? ⟨gb161, 1, none⟩ = some (.int .i64 x162001_25) := (blk_cell BK161.out 1).trans rfl; have hcz178_2 : w167.cell? ⟨gb161, 2, none⟩ = some (.int .i64 x162002_2) := (blk_cell BK161.out 2).trans rfl; have hfz178_0 := blk_frozen BK161.out 0; have hfz178_1 := blk_frozen BK161.out 1; have hfz178_2 := blk_frozen BK161.out 2; have hnb179 := NB162_158.out; have hnc179 := NB158_162.out; have hcz180_0 : w167.cell? ⟨gb162, 0, none⟩ = some (u163000) := (blk_cell BK162.out 0).trans rfl; have hcz180_1 : w167.cell? ⟨gb162, 1, none⟩ = some (.int .i64 x163001_2) := (blk_cell BK162.out 1).trans rfl; have hcz180_2 : w167.cell? ⟨gb162, 2, none⟩ = some (.int .i64 x163002_2) := (blk_cell BK162.out 2).trans rfl; have hcz180_3 : w167.cell? ⟨gb162, 3, none⟩ = some (.bool false) := (blk_cell BK162.out 3).trans rfl; have hfz180_0 := blk_frozen BK162.out 0; have hfz180_1 := blk_frozen BK162.out 1; have hfz180_2 := blk_frozen BK162.out 2; have hfz180_3 := blk_frozen BK162.out 3; obtain ⟨Ao181, co181, eo181⟩ := Kd.R_slice HO_163000.out; subst eo181; have hcz182_0 : w167.cell? ⟨gb158, 0, none⟩ = some (.slice none 0 0) := (blk_cell BK158.out 0).trans rfl; have hcz182_1 : w167.cell? ⟨gb158, 1, none⟩ = some (.int .i64 0) := (blk_cell BK158.out 1).trans rfl; have hcz182_2 : w167.cell? ⟨gb158, 2, none⟩ = some (.int .i64 0) := (blk_cell BK158.out 2).trans rfl; have hcz182_3 : w167.cell? ⟨gb158, 3, none⟩ = some (.bool false) := (blk_cell BK158.out 3).trans rfl; have hfz182_0 := blk_frozen BK158.out 0; have hfz182_1 := blk_frozen BK158.out 1; have hfz182_2 := blk_frozen BK158.out 2; have hfz182_3 := blk_frozen BK158.out 3))
                      refine bodyPost_ret (results_ct rfl _ _ gb158 69 #[.slice Ao181 x163000_2.length co181, .int .i64 x163001_2, .int .i64 x163002_2, .bool (x162001_25 == (l0.length : Int))] (0, 0) _ rfl (by refine blk_put (cs := #[.slice Ao181 x163000_2.length co181, .int .i64 x163001_2, .int .i64 x163002_2, .bool false]) ?_ 3 _ rfl; refine blk_put (cs := #[.slice Ao181 x163000_2.length co181, .int .i64 x163001_2, .int .i64 0, .bool false]) ?_ 2 _ rfl; refine blk_put (cs := #[.slice Ao181 x163000_2.length co181, .int .i64 0, .int .i64 0, .bool false]) ?_ 1 _ rfl; refine blk_put (cs := #[.slice none 0 0, .int .i64 0, .int .i64 0, .bool false]) ?_ 0 _ rfl; refine blk_far ?_ NB158_162.out _; refine blk_far ?_ NB158_172.out _; refine blk_far ?_ NB158_172.out _; refine blk_far ?_ NB158_172.out _; refine blk_far ?_ NB158_171.out _; refine blk_far ?_ NB158_171.out _; exact BK158.out) Try.underlying69 rfl (by kernel_rfl)) rfl ?_
                      exact ⟨_, by first | rfl | (simp [errW_none, errW_some] <;> rfl) | (simp [*, errW_none, errW_some] <;> rfl), by exact Kd.R_mono (Kd.R_far (p := ⟨gb158, 3, none⟩) (Kd.R_far (p := ⟨gb158, 2, none⟩) (Kd.R_far (p := ⟨gb158, 1, none⟩) (Kd.R_far (p := ⟨gb158, 0, none⟩) (Kd.R_far (p := ⟨gb162, 3, none⟩) (Kd.R_far (p := ⟨gb172, 2, none⟩) (Kd.R_far (p := ⟨gb172, 1, none⟩) (Kd.R_far (p := ⟨gb172, 0, none⟩) (Kd.R_far (p := ⟨gb171, 1, none⟩) (Kd.R_far (p := ⟨gb171, 0, none⟩) (Kd.R_types (Kd.R_types (Kd.R_types (Kd.R_types HO_163000.out BK171.out (by decide)) BK172.out (by decide)) BK162.out (by decide)) BK158.out (by decide)) (fun _ hk => hk.1.1.1.2) (.int .i64 t163)) (fun _ hk => hk.1.1.1.2) (.int .i64 t164)) (fun _ hk => hk.1.1.2) (.slice Ao173 t165.length co173)) (fun _ hk => hk.1.1.2) (.int .i64 t168)) (fun _ hk => hk.1.1.2) (.int .i64 t169)) (fun _ hk => hk.1.2) (.bool (x162001_25 == (l0.length : Int)))) (fun _ hk => hk.2) (.slice Ao181 x163000_2.length co181)) (fun _ hk => hk.2) (.int .i64 x163001_2)) (fun _ hk => hk.2) (.int .i64 x163002_2)) (fun _ hk => hk.2) (.bool (x162001_25 == (l0.length : Int)))) (fun _ hk => hk.1.1.1.1.1), by repeat (first | (with_reducible first | exact HB.out | apply below_alloc | apply pw_below_drewN | apply below_drew1 | refine below_set ?_ GE158.out | refine below_set ?_ GE161.out | refine below_set ?_ GE162.out | refine below_set ?_ GE171.out | refine below_set ?_ GE172.out) | exact HB.out)⟩
            · rw [if_neg c25] at H
              have c25b0 : decide (x163002_2 < a4) = false := decide_eq_false c25
              clear c25
              by_cases c183 : x15_2 > x162001_2
              · rw [if_pos c183] at H
                have c183b0 : decide (x162001_2 < x15_2) = true := decide_eq_true c183
                clear c183
                simp only [Option.some.injEq, Prod.mk.injEq] at H
                obtain ⟨rfl, rfl, rfl, rfl, rfl⟩ := H
                have hnb184 := NB162_158.out
                have hnc184 := NB158_162.out
                have hnb185 := NB162_161.out
                have hnc185 := NB161_162.out
                have hcz186_0 : wr.cell? ⟨gb162, 0, none⟩ = some (u163000) := (blk_cell BK162.out 0).trans rfl
                have hcz186_1 : wr.cell? ⟨gb162, 1, none⟩ = some (.int .i64 x163001_2) := (blk_cell BK162.out 1).trans rfl
                have hcz186_2 : wr.cell? ⟨gb162, 2, none⟩ = some (.int .i64 x163002_2) := (blk_cell BK162.out 2).trans rfl
                have hcz186_3 : wr.cell? ⟨gb162, 3, none⟩ = some (.bool false) := (blk_cell BK162.out 3).trans rfl
                have hfz186_0 := blk_frozen BK162.out 0
                have hfz186_1 := blk_frozen BK162.out 1
                have hfz186_2 := blk_frozen BK162.out 2
                have hfz186_3 := blk_frozen BK162.out 3
                have hnb187 := NB161_158.out
                have hnc187 := NB158_161.out
                have hcz188_0 : wr.cell? ⟨gb161, 0, none⟩ = some (u162000) := (blk_cell BK161.out 0).trans rfl
                have hcz188_1 : wr.cell? ⟨gb161, 1, none⟩ = some (.int .i64 x162001_2) := (blk_cell BK161.out 1).trans rfl
                have hcz188_2 : wr.cell? ⟨gb161, 2, none⟩ = some (.int .i64 x162002_2) := (blk_cell BK161.out 2).trans rfl
                have hfz188_0 := blk_frozen BK161.out 0
                have hfz188_1 := blk_frozen BK161.out 1
                have hfz188_2 := blk_frozen BK161.out 2
                obtain ⟨Ao189, co189, eo189⟩ := Kd.R_slice HO_163000.out
                subst eo189
                have hcz190_0 : wr.cell? ⟨gb158, 0, none⟩ = some (.slice none 0 0) := (blk_cell BK158.out 0).trans rfl
                have hcz190_1 : wr.cell? ⟨gb158, 1, none⟩ = some (.int .i64 0) := (blk_cell BK158.out 1).trans rfl
                have hcz190_2 : wr.cell? ⟨gb158, 2, none⟩ = some (.int .i64 0) := (blk_cell BK158.out 2).trans rfl
                have hcz190_3 : wr.cell? ⟨gb158, 3, none⟩ = some (.bool false) := (blk_cell BK158.out 3).trans rfl
                have hfz190_0 := blk_frozen BK158.out 0
                have hfz190_1 := blk_frozen BK158.out 1
                have hfz190_2 := blk_frozen BK158.out 2
                have hfz190_3 := blk_frozen BK158.out 3
                go_wp2
                refine bodyPost_ret (results_ct rfl _ _ gb158 69 #[.slice Ao189 x163000_2.length co189, .int .i64 x163001_2, .int .i64 x163002_2, .bool (x15_2 == (l0.length : Int))] (0, 0) _ rfl (by refine blk_put (cs := #[.slice Ao189 x163000_2.length co189, .int .i64 x163001_2, .int .i64 x163002_2, .bool false]) ?_ 3 _ rfl; refine blk_put (cs := #[.slice Ao189 x163000_2.length co189, .int .i64 x163001_2, .int .i64 0, .bool false]) ?_ 2 _ rfl; refine blk_put (cs := #[.slice Ao189 x163000_2.length co189, .int .i64 0, .int .i64 0, .bool false]) ?_ 1 _ rfl; refine blk_put (cs := #[.slice none 0 0, .int .i64 0, .int .i64 0, .bool false]) ?_ 0 _ rfl; refine blk_far ?_ NB158_162.out _; refine blk_far ?_ NB158_161.out _; exact BK158.out) Try.underlying69 rfl (by kernel_rfl)) rfl ?_
                exact ⟨_, by first | rfl | (simp [errW_none, errW_some] <;> rfl) | (simp [*, errW_none, errW_some] <;> rfl), by exact Kd.R_mono (Kd.R_far (p := ⟨gb158, 3, none⟩) (Kd.R_far (p := ⟨gb158, 2, none⟩) (Kd.R_far (p := ⟨gb158, 1, none⟩) (Kd.R_far (p := ⟨gb158, 0, none⟩) (Kd.R_far (p := ⟨gb162, 3, none⟩) (Kd.R_far (p := ⟨gb161, 1, none⟩) (Kd.R_types (Kd.R_types (Kd.R_types HO_163000.out BK161.out (by decide)) BK162.out (by decide)) BK158.out (by decide)) (fun _ hk => hk.1.1.2) (.int .i64 x15_2)) (fun _ hk => hk.1.2) (.bool (x15_2 == (l0.length : Int)))) (fun _ hk => hk.2) (.slice Ao189 x163000_2.length co189)) (fun _ hk => hk.2) (.int .i64 x163001_2)) (fun _ hk => hk.2) (.int .i64 x163002_2)) (fun _ hk => hk.2) (.bool (x15_2 == (l0.length : Int)))) (fun _ hk => hk.1.1.1), by repeat (first | (with_reducible first | exact HB.out | apply below_alloc | apply pw_below_drewN | apply below_drew1 | refine below_set ?_ GE158.out | refine below_set ?_ GE161.out | refine below_set ?_ GE162.out) | exact HB.out)⟩
              · rw [if_neg c183] at H
                have c183b0 : decide (x162001_2 < x15_2) = false := decide_eq_false c183
                clear c183
                simp only [Option.some.injEq, Prod.mk.injEq] at H
                obtain ⟨rfl, rfl, rfl, rfl, rfl⟩ := H
                have hnb191 := NB162_158.out
                have hnc191 := NB158_162.out
                have hnb192 := NB162_161.out
                have hnc192 := NB161_162.out
                have hcz193_0 : wr.cell? ⟨gb162, 0, none⟩ = some (u163000) := (blk_cell BK162.out 0).trans rfl
                have hcz193_1 : wr.cell? ⟨gb162, 1, none⟩ = some (.int .i64 x163001_2) := (blk_cell BK162.out 1).trans rfl
                have hcz193_2 : wr.cell? ⟨gb162, 2, none⟩ = some (.int .i64 x163002_2) := (blk_cell BK162.out 2).trans rfl
                have hcz193_3 : wr.cell? ⟨gb162, 3, none⟩ = some (.bool false) := (blk_cell BK162.out 3).trans rfl
                have hfz193_0 := blk_frozen BK162.out 0
                have hfz193_1 := blk_frozen BK162.out 1
                have hfz193_2 := blk_frozen BK162.out 2
                have hfz193_3 := blk_frozen BK162.out 3
                have hnb194 := NB161_158.out
                have hnc194 := NB158_161.out
                have hcz195_0 : wr.cell? ⟨gb161, 0, none⟩ = some (u162000) := (blk_cell BK161.out 0).trans rfl
                have hcz195_1 : wr.cell? ⟨gb161, 1, none⟩ = some (.int .i64 x162001_2) := (blk_cell BK161.out 1).trans rfl
                have hcz195_2 : wr.cell? ⟨gb161, 2, none⟩ = some (.int .i64 x162002_2) := (blk_cell BK161.out 2).trans rfl
                have hfz195_0 := blk_frozen BK161.out 0
                have hfz195_1 := blk_frozen BK161.out 1
                have hfz195_2 := blk_frozen BK161.out 2
                obtain ⟨Ao196, co196, eo196⟩ := Kd.R_slice HO_163000.out
                subst eo196
                have hcz197_0 : wr.cell? ⟨gb158, 0, none⟩ = some (.slice none 0 0) := (blk_cell BK158.out 0).trans rfl
                have hcz197_1 : wr.cell? ⟨gb158, 1, none⟩ = some (.int .i64 0) := (blk_cell BK158.out 1).trans rfl
                have hcz197_2 : wr.cell? ⟨gb158, 2, none⟩ = some (.int .i64 0) := (blk_cell BK158.out 2).trans rfl
                have hcz197_3 : wr.cell? ⟨gb158, 3, none⟩ = some (.bool false) := (blk_cell BK158.out 3).trans rfl
                have hfz197_0 := blk_frozen BK158.out 0
                have hfz197_1 := blk_frozen BK158.out 1
                have hfz197_2 := blk_frozen BK158.out 2
                have hfz197_3 := blk_frozen BK158.out 3
                go_wp2
                refine bodyPost_ret (results_ct rfl _ _ gb158 69 #[.slice Ao196 x163000_2.length co196, .int .i64 x163001_2, .int .i64 x163002_2, .bool (x162001_2 == (l0.length : Int))] (0, 0) _ rfl (by refine blk_put (cs := #[.slice Ao196 x163000_2.length co196, .int .i64 x163001_2, .int .i64 x163002_2, .bool false]) ?_ 3 _ rfl; refine blk_put (cs := #[.slice Ao196 x163000_2.length co196, .int .i64 x163001_2, .int .i64 0, .bool false]) ?_ 2 _ rfl; refine blk_put (cs := #[.slice Ao196 x163000_2.length co196, .int .i64 0, .int .i64 0, .bool false]) ?_ 1 _ rfl; refine blk_put (cs := #[.slice none 0 0, .int .i64 0, .int .i64 0, .bool false]) ?_ 0 _ rfl; refine blk_far ?_ NB158_162.out _; exact BK158.out) Try.underlying69 rfl (by kernel_rfl)) rfl ?_
                exact ⟨_, by first | rfl | (simp [errW_none, errW_some] <;> rfl) | (simp [*, errW_none, errW_some] <;> rfl), by exact Kd.R_mono (Kd.R_far (p := ⟨gb158, 3, none⟩) (Kd.R_far (p := ⟨gb158, 2, none⟩) (Kd.R_far (p := ⟨gb158, 1, none⟩) (Kd.R_far (p := ⟨gb158, 0, none⟩) (Kd.R_far (p := ⟨gb162, 3, none⟩) (Kd.R_types (Kd.R_types HO_163000.out BK162.out (by decide)) BK158.out (by decide)) (fun _ hk => hk.1.2) (.bool (x162001_2 == (l0.length : Int)))) (fun _ hk => hk.2) (.slice Ao196 x163000_2.length co196)) (fun _ hk => hk.2) (.int .i64 x163001_2)) (fun _ hk => hk.2) (.int .i64 x163002_2)) (fun _ hk => hk.2) (.bool (x162001_2 == (l0.length : Int)))) (fun _ hk => hk.1.1), by repeat (first | (with_reducible first | exact HB.out | apply below_alloc | apply pw_below_drewN | apply below_drew1 | refine below_set ?_ GE158.out | refine below_set ?_ GE161.out | refine below_set ?_ GE162.out) | exact HB.out)⟩

end Go.Proofs.Ytmlejakajcmbdaa.PFnExactTalkAll
