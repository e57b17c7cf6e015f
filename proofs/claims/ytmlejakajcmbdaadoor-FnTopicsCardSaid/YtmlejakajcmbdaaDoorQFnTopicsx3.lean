-- Written by this session's own program for the law FnTopics; it began as the print's text.
import Derived.Test.YtmlejakajcmbdaaDoorQFnTopicsx0
import Derived.Test.YtmlejakajcmbdaaDoorQFnTopicsx2
namespace Go.Proofs.YtmlejakajcmbdaaDoor.PFnTopics
open Go.RowKit Go.Proofs.YtmlejakajcmbdaaDoorW.PrintWords Go.Proofs.YtmlejakajcmbdaaDoorW.PrintLast Go.Proofs.YtmlejakajcmbdaaDoorW.PrintMore
attribute [local go_sem] max2_int min2_int max_two min_two max_three min_three max_four min_four   -- for this text's walks alone
set_option linter.unusedVariables false
set_option linter.unusedSimpArgs false

/-! ### spec_ResolveTopic: function 9 -/
mutual
def spec_ResolveTopic.j0 : Nat → ByteArray → ByteArray → Bool → Option (ByteArray)
  | 0, _, _, _ => none
  | k + 1, x0, x1, x18 => if x18 = true then (some (⟨#[]⟩ : ByteArray)) else (if (x1.size : Int) ≥ 2 then (if 0 < (x1.size : Int) then (if (bt x1 0) = 126 then (if 1 < (x1.size : Int) then (spec_ResolveTopic.j1 k x0 x1 x1 ((bt x1 1) == 47)) else (none)) else (spec_ResolveTopic.j1 k x0 x1 x1 false)) else (none)) else (spec_ResolveTopic.j1 k x0 x1 x1 false))
def spec_ResolveTopic.j1 : Nat → ByteArray → ByteArray → ByteArray → Bool → Option (ByteArray)
  | 0, _, _, _, _ => none
  | k + 1, x0, x1, x5, x32 => if x32 = true then (if 1 ≤ (x1.size : Int) then (if x0.size + (x1.extract 1 x1.size).size ≤ 9223372036854775807 then ((spec_GoodTopic.f k (x0 ++ (x1.extract 1 x1.size))).bind fun t126 => (if t126 = true then (some (x0 ++ (x1.extract 1 x1.size))) else (some (⟨#[]⟩ : ByteArray)))) else (none)) else (none)) else (if (x1.size : Int) = 0 then (spec_ResolveTopic.j2 k x0 x1 x5 true) else (if 0 < (x1.size : Int) then (spec_ResolveTopic.j2 k x0 x1 x5 ((bt x1 0) != 47)) else (none)))
def spec_ResolveTopic.j2 : Nat → ByteArray → ByteArray → ByteArray → Bool → Option (ByteArray)
  | 0, _, _, _, _ => none
  | k + 1, x0, x1, x5, x44 => if x44 = true then (spec_ResolveTopic.l0 k x0 x1 (x0.size : Int)) else ((spec_GoodTopic.f k x5).bind fun t129 => (if t129 = true then (some x5) else (some (⟨#[]⟩ : ByteArray))))
def spec_ResolveTopic.j4 : Nat → ByteArray → ByteArray → Int → Option (ByteArray)
  | 0, _, _, _ => none
  | k + 1, x0, x1, x6 => if x6 > 0 then (if 0 ≤ (wrap64 (x6 - 1)) then (if (wrap64 (x6 - 1)) ≤ (x0.size : Int) then (if (x0.extract 0 ((wrap64 (x6 - 1)) : Int).toNat).size + 1 ≤ 9223372036854775807 then (if ((x0.extract 0 ((wrap64 (x6 - 1)) : Int).toNat) ++ (⟨#[47]⟩ : ByteArray)).size + x1.size ≤ 9223372036854775807 then ((spec_GoodTopic.f k (((x0.extract 0 ((wrap64 (x6 - 1)) : Int).toNat) ++ (⟨#[47]⟩ : ByteArray)) ++ x1)).bind fun t127 => (if t127 = true then (some (((x0.extract 0 ((wrap64 (x6 - 1)) : Int).toNat) ++ (⟨#[47]⟩ : ByteArray)) ++ x1)) else (some (⟨#[]⟩ : ByteArray)))) else (none)) else (none)) else (none)) else (none)) else (if 0 ≤ x6 then (if x6 ≤ (x0.size : Int) then (if (x0.extract 0 (x6 : Int).toNat).size + 1 ≤ 9223372036854775807 then (if ((x0.extract 0 (x6 : Int).toNat) ++ (⟨#[47]⟩ : ByteArray)).size + x1.size ≤ 9223372036854775807 then ((spec_GoodTopic.f k (((x0.extract 0 (x6 : Int).toNat) ++ (⟨#[47]⟩ : ByteArray)) ++ x1)).bind fun t128 => (if t128 = true then (some (((x0.extract 0 (x6 : Int).toNat) ++ (⟨#[47]⟩ : ByteArray)) ++ x1)) else (some (⟨#[]⟩ : ByteArray)))) else (none)) else (none)) else (none)) else (none))
def spec_ResolveTopic.l0 : Nat → ByteArray → ByteArray → Int → Option (ByteArray)
  | 0, _, _, _ => none
  | k + 1, x0, x1, x6 => if x6 > 0 then (if 0 ≤ (wrap64 (x6 - 1)) then (if (wrap64 (x6 - 1)) < (x0.size : Int) then (if (bt x0 (wrap64 (x6 - 1))) = 47 then (spec_ResolveTopic.j4 k x0 x1 x6) else (spec_ResolveTopic.l0 k x0 x1 (wrap64 (x6 - 1)))) else (none)) else (none)) else (spec_ResolveTopic.j4 k x0 x1 x6)
end
def spec_ResolveTopic.f (k : Nat) (a0 : ByteArray) (a1 : ByteArray) : Option (ByteArray) := if a0.toList = ([] : List UInt8) then (spec_ResolveTopic.j0 k a0 a1 (decide ((a1.size : Int) > 60))) else ((spec_GoodTopic.f k a0).bind fun t125 => (if t125 = true then (spec_ResolveTopic.j0 k a0 a1 (decide ((a1.size : Int) > 60))) else (spec_ResolveTopic.j0 k a0 a1 true)))
theorem spec_ResolveTopic.mono_l : ∀ k, (∀ y0 y1 y2, LeO (spec_ResolveTopic.j0 k y0 y1 y2) (spec_ResolveTopic.j0 (k + 1) y0 y1 y2)) ∧ (∀ y0 y1 y2 y3, LeO (spec_ResolveTopic.j1 k y0 y1 y2 y3) (spec_ResolveTopic.j1 (k + 1) y0 y1 y2 y3)) ∧ (∀ y0 y1 y2 y3, LeO (spec_ResolveTopic.j2 k y0 y1 y2 y3) (spec_ResolveTopic.j2 (k + 1) y0 y1 y2 y3)) ∧ (∀ y0 y1 y2, LeO (spec_ResolveTopic.j4 k y0 y1 y2) (spec_ResolveTopic.j4 (k + 1) y0 y1 y2)) ∧ (∀ y0 y1 y2, LeO (spec_ResolveTopic.l0 k y0 y1 y2) (spec_ResolveTopic.l0 (k + 1) y0 y1 y2))
  | 0 => ⟨fun _ _ _ r h => by simp [spec_ResolveTopic.j0] at h, fun _ _ _ _ r h => by simp [spec_ResolveTopic.j1] at h, fun _ _ _ _ r h => by simp [spec_ResolveTopic.j2] at h, fun _ _ _ r h => by simp [spec_ResolveTopic.j4] at h, fun _ _ _ r h => by simp [spec_ResolveTopic.l0] at h⟩
  | k + 1 => by
    obtain ⟨ih0, ih1, ih2, ih3, ih4⟩ := spec_ResolveTopic.mono_l k
    refine ⟨?_, ?_, ?_, ?_, ?_⟩
    · intro y0 y1 y2
      unfold spec_ResolveTopic.j0
      repeat' first
      | (with_reducible exact ih0 _ _ _)
      | (with_reducible exact ih1 _ _ _ _)
      | (with_reducible exact ih2 _ _ _ _)
      | (with_reducible exact ih3 _ _ _)
      | (with_reducible exact ih4 _ _ _)
      | (with_reducible exact spec_GoodTopic.mono _ _)
      | (with_reducible exact LeO.refl _)
      | (with_reducible exact LeO.none _)
      | (with_reducible refine LeO.ite ?_ ?_)
      | (with_reducible refine LeO.bind ?_ (fun _ => ?_))
      | exact ih0 _ _ _
      | exact ih1 _ _ _ _
      | exact ih2 _ _ _ _
      | exact ih3 _ _ _
      | exact ih4 _ _ _
      | exact spec_GoodTopic.mono _ _
      | exact LeO.none _
      | refine LeO.ite ?_ ?_
      | refine LeO.bind ?_ (fun _ => ?_)
    · intro y0 y1 y2 y3
      unfold spec_ResolveTopic.j1
      repeat' first
      | (with_reducible exact ih0 _ _ _)
      | (with_reducible exact ih1 _ _ _ _)
      | (with_reducible exact ih2 _ _ _ _)
      | (with_reducible exact ih3 _ _ _)
      | (with_reducible exact ih4 _ _ _)
      | (with_reducible exact spec_GoodTopic.mono _ _)
      | (with_reducible exact LeO.refl _)
      | (with_reducible exact LeO.none _)
      | (with_reducible refine LeO.ite ?_ ?_)
      | (with_reducible refine LeO.bind ?_ (fun _ => ?_))
      | exact ih0 _ _ _
      | exact ih1 _ _ _ _
      | exact ih2 _ _ _ _
      | exact ih3 _ _ _
      | exact ih4 _ _ _
      | exact spec_GoodTopic.mono _ _
      | exact LeO.none _
      | refine LeO.ite ?_ ?_
      | refine LeO.bind ?_ (fun _ => ?_)
    · intro y0 y1 y2 y3
      unfold spec_ResolveTopic.j2
      repeat' first
      | (with_reducible exact ih0 _ _ _)
      | (with_reducible exact ih1 _ _ _ _)
      | (with_reducible exact ih2 _ _ _ _)
      | (with_reducible exact ih3 _ _ _)
      | (with_reducible exact ih4 _ _ _)
      | (with_reducible exact spec_GoodTopic.mono _ _)
      | (with_reducible exact LeO.refl _)
      | (with_reducible exact LeO.none _)
      | (with_reducible refine LeO.ite ?_ ?_)
      | (with_reducible refine LeO.bind ?_ (fun _ => ?_))
      | exact ih0 _ _ _
      | exact ih1 _ _ _ _
      | exact ih2 _ _ _ _
      | exact ih3 _ _ _
      | exact ih4 _ _ _
      | exact spec_GoodTopic.mono _ _
      | exact LeO.none _
      | refine LeO.ite ?_ ?_
      | refine LeO.bind ?_ (fun _ => ?_)
    · intro y0 y1 y2
      unfold spec_ResolveTopic.j4
      repeat' first
      | (with_reducible exact ih0 _ _ _)
      | (with_reducible exact ih1 _ _ _ _)
      | (with_reducible exact ih2 _ _ _ _)
      | (with_reducible exact ih3 _ _ _)
      | (with_reducible exact ih4 _ _ _)
      | (with_reducible exact spec_GoodTopic.mono _ _)
      | (with_reducible exact LeO.refl _)
      | (with_reducible exact LeO.none _)
      | (with_reducible refine LeO.ite ?_ ?_)
      | (with_reducible refine LeO.bind ?_ (fun _ => ?_))
      | exact ih0 _ _ _
      | exact ih1 _ _ _ _
      | exact ih2 _ _ _ _
      | exact ih3 _ _ _
      | exact ih4 _ _ _
      | exact spec_GoodTopic.mono _ _
      | exact LeO.none _
      | refine LeO.ite ?_ ?_
      | refine LeO.bind ?_ (fun _ => ?_)
    · intro y0 y1 y2
      unfold spec_ResolveTopic.l0
      repeat' first
      | (with_reducible exact ih0 _ _ _)
      | (with_reducible exact ih1 _ _ _ _)
      | (with_reducible exact ih2 _ _ _ _)
      | (with_reducible exact ih3 _ _ _)
      | (with_reducible exact ih4 _ _ _)
      | (with_reducible exact spec_GoodTopic.mono _ _)
      | (with_reducible exact LeO.refl _)
      | (with_reducible exact LeO.none _)
      | (with_reducible refine LeO.ite ?_ ?_)
      | (with_reducible refine LeO.bind ?_ (fun _ => ?_))
      | exact ih0 _ _ _
      | exact ih1 _ _ _ _
      | exact ih2 _ _ _ _
      | exact ih3 _ _ _
      | exact ih4 _ _ _
      | exact spec_GoodTopic.mono _ _
      | exact LeO.none _
      | refine LeO.ite ?_ ?_
      | refine LeO.bind ?_ (fun _ => ?_)
theorem spec_ResolveTopic.mono : ∀ a0 a1 k, LeO (spec_ResolveTopic.f k a0 a1) (spec_ResolveTopic.f (k + 1) a0 a1) := by
  intro a0 a1 k
  obtain ⟨ih0, ih1, ih2, ih3, ih4⟩ := spec_ResolveTopic.mono_l k
  unfold spec_ResolveTopic.f
  repeat' first
      | (with_reducible exact ih0 _ _ _)
      | (with_reducible exact ih1 _ _ _ _)
      | (with_reducible exact ih2 _ _ _ _)
      | (with_reducible exact ih3 _ _ _)
      | (with_reducible exact ih4 _ _ _)
      | (with_reducible exact spec_GoodTopic.mono _ _)
      | (with_reducible exact LeO.refl _)
      | (with_reducible exact LeO.none _)
      | (with_reducible refine LeO.ite ?_ ?_)
      | (with_reducible refine LeO.bind ?_ (fun _ => ?_))
      | exact ih0 _ _ _
      | exact ih1 _ _ _ _
      | exact ih2 _ _ _ _
      | exact ih3 _ _ _
      | exact ih4 _ _ _
      | exact spec_GoodTopic.mono _ _
      | exact LeO.none _
      | refine LeO.ite ?_ ?_
      | refine LeO.bind ?_ (fun _ => ?_)
set_option maxHeartbeats 8000000 in
set_option maxRecDepth 100000 in
theorem spec_ResolveTopic.calls (k : Nat) (a0 : ByteArray) (a1 : ByteArray) (r : ByteArray) (w : World) (h : spec_ResolveTopic.f k a0 a1 = some r) :
    Calls Tryd.prog 9 #[.string a0, .string a1] w fun e w' => e = .returned (.string r) ∧ Below w.heap.size w w' := by
  (have HB := Aside0.mk (Below.refl w.heap.size w)); (have H : (if a0.toList = ([] : List UInt8) then (spec_ResolveTopic.j0 k a0 a1 (decide ((a1.size : Int) > 60))) else ((spec_GoodTopic.f k a0).bind fun t125 => (if t125 = true then (spec_ResolveTopic.j0 k a0 a1 (decide ((a1.size : Int) > 60))) else (spec_ResolveTopic.j0 k a0 a1 true)))) = some r := h); clear h; (have HC3 := Aside0.mk H); clear H
  go_enter Tryd.func9, Tryd.ntmps9
  go_upto_region 1 with (fail)
  go_cut [18] (fun v18 wc => ∃ (kq : Nat) (x18_2 : Bool), v18 = .bool x18_2 ∧ Aside0 (spec_ResolveTopic.j0 kq a0 a1 x18_2 = some r) ∧ Aside0 (kq ≤ k) ∧ Aside0 (Below w.heap.size w wc))
  case first =>
    have H := HC3.out; clear HC3
    by_cases c4 : a0.toList = ([] : List UInt8)
    · rw [if_pos c4] at H
      (have c4b0 : (a0.toList == ([] : List UInt8)) = true := beq_iff_eq.mpr c4); (have c4b1 : (a0.toList != ([] : List UInt8)) = false := bne_eq_false_iff_eq.mpr c4); clear c4
      (first | rw [c4b0] | (simp only [i64_w, i32_w]; rw [c4b0]) | skip)
      (have H' := Aside0.mk H); clear H
      go_wp2
      go_meet
      case rel => exact ⟨_, (decide ((a1.size : Int) > 60)), (by first | rfl | (simp; done) | (simp [*]; done)), H', ⟨by first | omega | exact Nat.le_refl _⟩, ⟨by repeat (first | (with_reducible first | exact HB.out | apply below_alloc | apply pw_below_drewN | apply below_drew1) | exact HB.out)⟩⟩
    · rw [if_neg c4] at H
      (have c4b0 : (a0.toList == ([] : List UInt8)) = false := beq_eq_false_iff_ne.mpr c4); (have c4b1 : (a0.toList != ([] : List UInt8)) = true := bne_iff_ne.mpr c4)
      (first | rw [c4b0] | (simp only [i64_w, i32_w]; rw [c4b0]) | skip)
      (replace H := Option.bind_eq_some_iff.mp H); (obtain ⟨t125, A50, H⟩ := H); (replace H : (if t125 = true then (spec_ResolveTopic.j0 k a0 a1 (decide ((a1.size : Int) > 60))) else (spec_ResolveTopic.j0 k a0 a1 true)) = some r := H); (have A5 := Aside0.mk A50); clear A50
      by_cases c6 : t125 = true
      · subst c6
        (have H1 : (spec_ResolveTopic.j0 k a0 a1 (decide ((a1.size : Int) > 60))) = some r := by rw [if_pos rfl] at H; exact H); clear H; have H := H1; clear H1; (have H' := Aside0.mk H); clear H
        go_wp2_with (first | (go_at_call 7; (with_reducible refine (spec_GoodTopic.calls k a0 true _ A5.out).mono ?_); rintro e w7 ⟨rfl, hb⟩; have n0_ := Aside0.mk (below_step (by repeat (first | (with_reducible first | exact HB.out | apply below_alloc | apply pw_below_drewN | apply below_drew1) | exact HB.out)) hb); clear HB; have HB := n0_; clear n0_; (try clear hb); (try clear hb2); (try clear hk); (try clear hi)))
        go_meet
        case rel => exact ⟨_, (decide ((a1.size : Int) > 60)), (by first | rfl | (simp; done) | (simp [*]; done)), H', ⟨by first | omega | exact Nat.le_refl _⟩, ⟨by repeat (first | (with_reducible first | exact HB.out | apply below_alloc | apply pw_below_drewN | apply below_drew1) | exact HB.out)⟩⟩
      · replace c6 := Bool.eq_false_iff.mpr c6
        subst c6; (have H1 : (spec_ResolveTopic.j0 k a0 a1 true) = some r := by rw [if_neg (show ¬ (false = true) by decide)] at H; exact H); clear H; have H := H1; clear H1; (have H' := Aside0.mk H); clear H
        go_wp2_with (first | (go_at_call 7; (with_reducible refine (spec_GoodTopic.calls k a0 false _ A5.out).mono ?_); rintro e w8 ⟨rfl, hb⟩; have n0_ := Aside0.mk (below_step (by repeat (first | (with_reducible first | exact HB.out | apply below_alloc | apply pw_below_drewN | apply below_drew1) | exact HB.out)) hb); clear HB; have HB := n0_; clear n0_; (try clear hb); (try clear hb2); (try clear hk); (try clear hi)))
        go_meet
        case rel => exact ⟨_, (true), (by first | rfl | (simp; done) | (simp [*]; done)), H', ⟨by first | omega | exact Nat.le_refl _⟩, ⟨by repeat (first | (with_reducible first | exact HB.out | apply below_alloc | apply pw_below_drewN | apply below_drew1) | exact HB.out)⟩⟩
  case rest =>
    clear HC3; (try clear p2); (try clear c4); (try clear c4b0); (try clear c4b1); (try clear c6); (obtain ⟨kq, x18_2, rfl, HA, HJ2, HB⟩ := hcut)
    cases kq with
    | zero => exact absurd HA.out (by simp [spec_ResolveTopic.j0])
    | succ kj2 =>
      have H := HA.out; clear HA; (simp only [spec_ResolveTopic.j0] at H)
      by_cases c9 : x18_2 = true
      · subst c9
        (have H1 : (some (⟨#[]⟩ : ByteArray)) = some r := by rw [if_pos rfl] at H; exact H); clear H; have H := H1; clear H1; (obtain rfl := Option.some.inj H)
        go_wp2
        go_ret
        exact ⟨by first | rfl | (simp [errW_none, errW_some] <;> rfl) | (simp [*, errW_none, errW_some] <;> rfl), by repeat (first | (with_reducible first | exact HB.out | apply below_alloc | apply pw_below_drewN | apply below_drew1) | exact HB.out)⟩
      · replace c9 := Bool.eq_false_iff.mpr c9
        subst c9; (have H1 : (if (a1.size : Int) ≥ 2 then (if 0 < (a1.size : Int) then (if (bt a1 0) = 126 then (if 1 < (a1.size : Int) then (spec_ResolveTopic.j1 kj2 a0 a1 a1 ((bt a1 1) == 47)) else (none)) else (spec_ResolveTopic.j1 kj2 a0 a1 a1 false)) else (none)) else (spec_ResolveTopic.j1 kj2 a0 a1 a1 false)) = some r := by rw [if_neg (show ¬ (false = true) by decide)] at H; exact H); clear H; have H := H1; clear H1; (have HC10 := Aside0.mk H); clear H
        go_upto_region 4 with (fail)
        go_cut [32] (fun v32 wc => ∃ (kq : Nat) (x32_9 : Bool), v32 = .bool x32_9 ∧ Aside0 (spec_ResolveTopic.j1 kq a0 a1 a1 x32_9 = some r) ∧ Aside0 (kq ≤ kj2) ∧ Aside0 (Below w.heap.size w wc))
        case first =>
          have H := HC10.out; clear HC10
          by_cases c11 : (a1.size : Int) ≥ 2
          · rw [if_pos c11] at H
            (have c11b0 : decide (2 ≤ (a1.size : Int)) = true := decide_eq_true c11); (have c11b1 : decide (2 ≤ a1.size) = true := decide_eq_true (by omega)); clear c11
            (first | rw [c11b0] | (simp only [i64_w, i32_w]; rw [c11b0]) | skip)
            by_cases c12 : 0 < (a1.size : Int)
            · rw [if_pos c12] at H
              (have c12b0 : decide (0 < (a1.size : Int)) = true := decide_eq_true c12); (have c12b1 : decide (0 < a1.size) = true := decide_eq_true (by omega)); clear c12
              by_cases c14 : (bt a1 0) = 126
              · rw [if_pos c14] at H
                (have c14b0 : ((bt a1 0) == 126) = true := beq_iff_eq.mpr c14); (have c14b1 : ((bt a1 0) != 126) = false := bne_eq_false_iff_eq.mpr c14); clear c14
                by_cases c15 : 1 < (a1.size : Int)
                · rw [if_pos c15] at H
                  (have c15b0 : decide (1 < (a1.size : Int)) = true := decide_eq_true c15); (have c15b1 : decide (1 < a1.size) = true := decide_eq_true (by omega)); clear c15; (have H' := Aside0.mk H); clear H; (have p13 : 0 ≤ (0 : Int) := (by omega)); (have q13 : 0 < a1.size := (by have : (0 : Int) < (a1.size : Int) := of_decide_eq_true (by first | (with_reducible assumption) | assumption); omega)); (have hx13 : ∀ h : 0 < a1.size, ((a1[0]'h).toNat : Int) = bt a1 0 := bt_at a1 0); clear p13; (have qi13 : (0 < (a1.size : Int)) = True := eq_true (of_decide_eq_true (by first | (with_reducible assumption) | assumption))); (replace q13 := eq_true q13); (have p16 : 0 ≤ (1 : Int) := (by omega)); (have q16 : 1 < a1.size := (by have : (1 : Int) < (a1.size : Int) := of_decide_eq_true (by first | (with_reducible assumption) | assumption); omega)); (have hx16 : ∀ h : 1 < a1.size, ((a1[1]'h).toNat : Int) = bt a1 1 := bt_at a1 1); clear p16; (have qi16 : (1 < (a1.size : Int)) = True := eq_true (of_decide_eq_true (by first | (with_reducible assumption) | assumption))); (replace q16 := eq_true q16)
                  go_wp2
                  go_meet
                  case rel => exact ⟨_, (((bt a1 1) == 47)), (by first | rfl | (simp; done) | (simp [*]; done)), H', ⟨by have := HJ2.out; first | omega | exact Nat.le_refl _⟩, ⟨by repeat (first | (with_reducible first | exact HB.out | apply below_alloc | apply pw_below_drewN | apply below_drew1) | exact HB.out)⟩⟩
                · rw [if_neg c15] at H
                  exact absurd H (by simp)
              · rw [if_neg c14] at H
                (have c14b0 : ((bt a1 0) == 126) = false := beq_eq_false_iff_ne.mpr c14); (have c14b1 : ((bt a1 0) != 126) = true := bne_iff_ne.mpr c14); (have H' := Aside0.mk H); clear H; (have p13 : 0 ≤ (0 : Int) := (by omega)); (have q13 : 0 < a1.size := (by have : (0 : Int) < (a1.size : Int) := of_decide_eq_true (by first | (with_reducible assumption) | assumption); omega)); (have hx13 : ∀ h : 0 < a1.size, ((a1[0]'h).toNat : Int) = bt a1 0 := bt_at a1 0); clear p13; (have qi13 : (0 < (a1.size : Int)) = True := eq_true (of_decide_eq_true (by first | (with_reducible assumption) | assumption))); (replace q13 := eq_true q13)
                go_wp2
                go_meet
                case rel => exact ⟨_, (false), (by first | rfl | (simp; done) | (simp [*]; done)), H', ⟨by have := HJ2.out; first | omega | exact Nat.le_refl _⟩, ⟨by repeat (first | (with_reducible first | exact HB.out | apply below_alloc | apply pw_below_drewN | apply below_drew1) | exact HB.out)⟩⟩
            · rw [if_neg c12] at H
              exact absurd H (by simp)
          · rw [if_neg c11] at H
            (have c11b0 : decide (2 ≤ (a1.size : Int)) = false := decide_eq_false c11); (have c11b1 : decide (2 ≤ a1.size) = false := decide_eq_false (by omega)); clear c11
            (first | rw [c11b0] | (simp only [i64_w, i32_w]; rw [c11b0]) | skip)
            (have H' := Aside0.mk H); clear H
            go_wp2
            go_meet
            case rel => exact ⟨_, (false), (by first | rfl | (simp; done) | (simp [*]; done)), H', ⟨by have := HJ2.out; first | omega | exact Nat.le_refl _⟩, ⟨by repeat (first | (with_reducible first | exact HB.out | apply below_alloc | apply pw_below_drewN | apply below_drew1) | exact HB.out)⟩⟩
        case rest =>
          clear HC10; (try clear c1); (try clear p1); (try clear q1); (try clear hx1); (try clear qi1); (try clear p2); (try clear c4); (try clear c4b0); (try clear c4b1); (try clear c6); (try clear c9); (try clear c11); (try clear c11b0); (try clear c11b1); (try clear c12); (try clear c12b0); (try clear c12b1); (try clear p13); (try clear q13); (try clear hx13); (try clear qi13); (try clear c14); (try clear c14b0); (try clear c14b1); (try clear c15); (try clear c15b0); (try clear c15b1); (try clear p16); (try clear q16); (try clear hx16); (try clear qi16); (try clear p13); (try clear p16); (try clear p2); (try clear q13); (try clear q16); (obtain ⟨kq, x32_9, rfl, HA, HJ9, HB⟩ := hcut)
          cases kq with
          | zero => exact absurd HA.out (by simp [spec_ResolveTopic.j1])
          | succ kj9 =>
            have H := HA.out; clear HA; (simp only [spec_ResolveTopic.j1] at H)
            by_cases c17 : x32_9 = true
            · subst c17
              (have H1 : (if 1 ≤ (a1.size : Int) then (if a0.size + (a1.extract 1 a1.size).size ≤ 9223372036854775807 then ((spec_GoodTopic.f kj9 (a0 ++ (a1.extract 1 a1.size))).bind fun t126 => (if t126 = true then (some (a0 ++ (a1.extract 1 a1.size))) else (some (⟨#[]⟩ : ByteArray)))) else (none)) else (none)) = some r := by rw [if_pos rfl] at H; exact H); clear H; have H := H1; clear H1
              by_cases c18 : 1 ≤ (a1.size : Int)
              · rw [if_pos c18] at H
                (have c18b0 := eq_true c18); (have c18b1 : decide (1 ≤ (a1.size : Int)) = true := decide_eq_true c18); clear c18
                by_cases c19 : a0.size + (a1.extract 1 a1.size).size ≤ 9223372036854775807
                · rw [if_pos c19] at H
                  (have c19b0 := eq_true c19); (have c19b1 : decide (a0.size + (a1.extract 1 a1.size).size ≤ 9223372036854775807) = true := decide_eq_true c19)
                  try have c19b2 : (9223372036854775807 < a0.size + (a1.extract 1 a1.size).size) = False := eq_false (Nat.not_lt.2 c19)
                  (replace H := Option.bind_eq_some_iff.mp H); (obtain ⟨t126, A200, H⟩ := H); (replace H : (if t126 = true then (some (a0 ++ (a1.extract 1 a1.size))) else (some (⟨#[]⟩ : ByteArray))) = some r := H); (have A20 := Aside0.mk A200); clear A200
                  by_cases c21 : t126 = true
                  · subst c21
                    (have H1 : (some (a0 ++ (a1.extract 1 a1.size))) = some r := by rw [if_pos rfl] at H; exact H); clear H; have H := H1; clear H1; (obtain rfl := Option.some.inj H)
                    go_wp2_with (first | ((with_reducible refine gate_callee (f := 7) rfl ?_); refine goesL_ (some 69) rfl rfl Tryd.func7 (by kernel_rfl) rfl #[.string (a0 ++ (a1.extract 1 a1.size))] rfl (by (try simp only [List.map_toArray, List.map_cons, List.map_nil]); first | done | rfl | (simp only [List.length_drop, List.length_take]; rfl)) ?_; (with_reducible refine (spec_GoodTopic.calls kj9 (a0 ++ (a1.extract 1 a1.size)) true _ A20.out).mono ?_); rintro e w22 ⟨rfl, hb⟩; refine ⟨_, rfl, ?_⟩; have n0_ := Aside0.mk (below_step (by repeat (first | (with_reducible first | exact HB.out | apply below_alloc | apply pw_below_drewN | apply below_drew1) | exact HB.out)) hb); clear HB; have HB := n0_; clear n0_; (try clear hb); (try clear hb2); (try clear hk); (try clear hi)))
                    go_ret
                    exact ⟨by first | rfl | (simp [errW_none, errW_some] <;> rfl) | (simp [*, errW_none, errW_some] <;> rfl), by repeat (first | (with_reducible first | exact HB.out | apply below_alloc | apply pw_below_drewN | apply below_drew1) | exact HB.out)⟩
                  · replace c21 := Bool.eq_false_iff.mpr c21
                    subst c21; (have H1 : (some (⟨#[]⟩ : ByteArray)) = some r := by rw [if_neg (show ¬ (false = true) by decide)] at H; exact H); clear H; have H := H1; clear H1; (obtain rfl := Option.some.inj H)
                    go_wp2_with (first | ((with_reducible refine gate_callee (f := 7) rfl ?_); refine goesL_ (some 69) rfl rfl Tryd.func7 (by kernel_rfl) rfl #[.string (a0 ++ (a1.extract 1 a1.size))] rfl (by (try simp only [List.map_toArray, List.map_cons, List.map_nil]); first | done | rfl | (simp only [List.length_drop, List.length_take]; rfl)) ?_; (with_reducible refine (spec_GoodTopic.calls kj9 (a0 ++ (a1.extract 1 a1.size)) false _ A20.out).mono ?_); rintro e w23 ⟨rfl, hb⟩; refine ⟨_, rfl, ?_⟩; have n0_ := Aside0.mk (below_step (by repeat (first | (with_reducible first | exact HB.out | apply below_alloc | apply pw_below_drewN | apply below_drew1) | exact HB.out)) hb); clear HB; have HB := n0_; clear n0_; (try clear hb); (try clear hb2); (try clear hk); (try clear hi)))
                    go_ret
                    exact ⟨by first | rfl | (simp [errW_none, errW_some] <;> rfl) | (simp [*, errW_none, errW_some] <;> rfl), by repeat (first | (with_reducible first | exact HB.out | apply below_alloc | apply pw_below_drewN | apply below_drew1) | exact HB.out)⟩
                · rw [if_neg c19] at H
                  exact absurd H (by simp)
              · rw [if_neg c18] at H
                exact absurd H (by simp)
            · replace c17 := Bool.eq_false_iff.mpr c17
              subst c17; (have H1 : (if (a1.size : Int) = 0 then (spec_ResolveTopic.j2 kj9 a0 a1 a1 true) else (if 0 < (a1.size : Int) then (spec_ResolveTopic.j2 kj9 a0 a1 a1 ((bt a1 0) != 47)) else (none))) = some r := by rw [if_neg (show ¬ (false = true) by decide)] at H; exact H); clear H; have H := H1; clear H1; (have HC24 := Aside0.mk H); clear H
              go_upto_region 6 with (fail)
              go_cut [44] (fun v44 wc => ∃ (kq : Nat) (x44_23 : Bool), v44 = .bool x44_23 ∧ Aside0 (spec_ResolveTopic.j2 kq a0 a1 a1 x44_23 = some r) ∧ Aside0 (kq ≤ kj9) ∧ Aside0 (Below w.heap.size w wc))
              case first =>
                have H := HC24.out; clear HC24
                by_cases c25 : (a1.size : Int) = 0
                · rw [if_pos c25] at H
                  (have c25b0 : ((a1.size : Int) == 0) = true := beq_iff_eq.mpr c25); (have c25b1 : ((a1.size : Int) != 0) = false := bne_eq_false_iff_eq.mpr c25); clear c25
                  (first | rw [c25b0] | (simp only [i64_w, i32_w]; rw [c25b0]) | skip)
                  (have H' := Aside0.mk H); clear H
                  go_wp2
                  go_meet
                  case rel => exact ⟨_, (true), (by first | rfl | (simp; done) | (simp [*]; done)), H', ⟨by have := HJ2.out; have := HJ9.out; first | omega | exact Nat.le_refl _⟩, ⟨by repeat (first | (with_reducible first | exact HB.out | apply below_alloc | apply pw_below_drewN | apply below_drew1) | exact HB.out)⟩⟩
                · rw [if_neg c25] at H
                  (have c25b0 : ((a1.size : Int) == 0) = false := beq_eq_false_iff_ne.mpr c25); (have c25b1 : ((a1.size : Int) != 0) = true := bne_iff_ne.mpr c25)
                  (first | rw [c25b0] | (simp only [i64_w, i32_w]; rw [c25b0]) | skip)
                  by_cases c26 : 0 < (a1.size : Int)
                  · rw [if_pos c26] at H
                    (have c26b0 : decide (0 < (a1.size : Int)) = true := decide_eq_true c26); (have c26b1 : decide (0 < a1.size) = true := decide_eq_true (by omega)); clear c26; (have H' := Aside0.mk H); clear H; (have p27 : 0 ≤ (0 : Int) := (by omega)); (have q27 : 0 < a1.size := (by have : (0 : Int) < (a1.size : Int) := of_decide_eq_true (by first | (with_reducible assumption) | assumption); omega)); (have hx27 : ∀ h : 0 < a1.size, ((a1[0]'h).toNat : Int) = bt a1 0 := bt_at a1 0); clear p27; (have qi27 : (0 < (a1.size : Int)) = True := eq_true (of_decide_eq_true (by first | (with_reducible assumption) | assumption))); (replace q27 := eq_true q27)
                    go_wp2
                    go_meet
                    case rel => exact ⟨_, (((bt a1 0) != 47)), (by first | rfl | (simp; done) | (simp [*]; done)), H', ⟨by have := HJ2.out; have := HJ9.out; first | omega | exact Nat.le_refl _⟩, ⟨by repeat (first | (with_reducible first | exact HB.out | apply below_alloc | apply pw_below_drewN | apply below_drew1) | exact HB.out)⟩⟩
                  · rw [if_neg c26] at H
                    exact absurd H (by simp)
              case rest =>
                clear HC24; (try clear c1); (try clear p1); (try clear q1); (try clear hx1); (try clear qi1); (try clear c2); (try clear p2); (try clear q2); (try clear hx2); (try clear qi2); (try clear c4); (try clear c4b0); (try clear c4b1); (try clear c6); (try clear c7); (try clear c9); (try clear c11); (try clear c11b0); (try clear c11b1); (try clear c12); (try clear c12b0); (try clear c12b1); (try clear p13); (try clear q13); (try clear hx13); (try clear qi13); (try clear c14); (try clear c14b0); (try clear c14b1); (try clear c15); (try clear c15b0); (try clear c15b1); (try clear p16); (try clear q16); (try clear hx16); (try clear qi16); (try clear c17); (try clear c18); (try clear c18b0); (try clear c18b1); (try clear c19); (try clear c19b0); (try clear c19b1); (try clear c19b2); (try clear c21); (try clear c25); (try clear c25b0); (try clear c25b1); (try clear c26); (try clear c26b0); (try clear c26b1); (try clear p27); (try clear q27); (try clear hx27); (try clear qi27); (try clear p1); (try clear p13); (try clear p16); (try clear p2); (try clear p27); (try clear q1); (try clear q13); (try clear q16); (try clear q27); (obtain ⟨kq, x44_23, rfl, HA, HJ23, HB⟩ := hcut)
                cases kq with
                | zero => exact absurd HA.out (by simp [spec_ResolveTopic.j2])
                | succ kj23 =>
                  have H := HA.out; clear HA; (simp only [spec_ResolveTopic.j2] at H)
                  by_cases c28 : x44_23 = true
                  · subst c28
                    (have H1 : (spec_ResolveTopic.l0 kj23 a0 a1 (a0.size : Int)) = some r := by rw [if_pos rfl] at H; exact H); clear H; have H := H1; clear H1; (have HC29 := Aside0.mk H); clear H
                    go_upto_block 0 with (fail)
                    go_cut [6] (fun v6 wc => ∃ (kq : Nat) (x6_28 : Int), v6 = .int .i64 x6_28 ∧ Aside0 (spec_ResolveTopic.j4 kq a0 a1 x6_28 = some r) ∧ Aside0 (kq ≤ kj23) ∧ Aside0 (Below w.heap.size w wc))
                    case first =>
                      have H := HC29.out; clear HC29; (have H' := Aside0.mk H); clear H
                      go_wp2
                      go_loopg [6] kj23 (fun kq v6 w' => ∃ (x6_4 : Int), v6 = .int .i64 x6_4 ∧ Aside0 (spec_ResolveTopic.l0 kq a0 a1 x6_4 = some r) ∧ Aside0 (kq ≤ kj23) ∧ Aside0 (Below w.heap.size w w'))
                      case atStart => exact ⟨((a0.size : Int)), (by first | rfl | (simp; done) | (simp [*]; done)), H', ⟨Nat.le_refl _⟩, ⟨by repeat (first | (with_reducible first | exact HB.out | apply below_alloc | apply pw_below_drewN | apply below_drew1) | exact HB.out)⟩⟩
                      case round =>
                        clear H'; (try clear c1); (try clear p1); (try clear q1); (try clear hx1); (try clear qi1); (try clear c2); (try clear p2); (try clear q2); (try clear hx2); (try clear qi2); (try clear c4); (try clear c4b0); (try clear c4b1); (try clear c6); (try clear c7); (try clear c9); (try clear c11); (try clear c11b0); (try clear c11b1); (try clear c12); (try clear c12b0); (try clear c12b1); (try clear p13); (try clear q13); (try clear hx13); (try clear qi13); (try clear c14); (try clear c14b0); (try clear c14b1); (try clear c15); (try clear c15b0); (try clear c15b1); (try clear p16); (try clear q16); (try clear hx16); (try clear qi16); (try clear c17); (try clear c18); (try clear c18b0); (try clear c18b1); (try clear c19); (try clear c19b0); (try clear c19b1); (try clear c19b2); (try clear c21); (try clear c25); (try clear c25b0); (try clear c25b1); (try clear c26); (try clear c26b0); (try clear c26b1); (try clear p27); (try clear q27); (try clear hx27); (try clear qi27); (try clear c28); (try clear p1); (try clear p13); (try clear p16); (try clear p2); (try clear p27); (try clear q1); (try clear q13); (try clear q16); (try clear q2); (try clear q27); (obtain ⟨x6_4, rfl, HA, HK4, HB⟩ := hrel)
                        cases gk with
                        | zero => exact absurd HA.out (by simp [spec_ResolveTopic.l0])
                        | succ k4 =>
                          have H := HA.out; clear HA; (simp only [spec_ResolveTopic.l0] at H)
                          by_cases c30 : x6_4 > 0
                          · rw [if_pos c30] at H
                            (have c30b0 : decide (0 < x6_4) = true := decide_eq_true c30); clear c30
                            (first | rw [c30b0] | (simp only [i64_w, i32_w]; rw [c30b0]) | skip)
                            (obtain ⟨ji31, hji31⟩ : ∃ j_ : Int, (wrap64 (x6_4 - 1)) = j_ := ⟨_, rfl⟩); (replace H : (if 0 ≤ (ji31) then (if (ji31) < (a0.size : Int) then (if (bt a0 (ji31)) = 47 then (spec_ResolveTopic.j4 k4 a0 a1 x6_4) else (spec_ResolveTopic.l0 k4 a0 a1 ji31)) else (none)) else (none)) = some r := by first | (rw [hji31] at H; exact H) | (simp only [hji31] at H ⊢; exact H)); (have hji31w : (IntKind.i64.wrap (x6_4 - 1)) = ji31 := (i64_w _).trans hji31)
                            by_cases c32 : 0 ≤ (ji31)
                            · rw [if_pos c32] at H
                              (have c32b0 : decide (0 ≤ (ji31)) = true := decide_eq_true c32); clear c32
                              by_cases c33 : (ji31) < (a0.size : Int)
                              · rw [if_pos c33] at H
                                (have c33b0 : decide ((ji31) < (a0.size : Int)) = true := decide_eq_true c33); clear c33
                                by_cases c35 : (bt a0 (ji31)) = 47
                                · rw [if_pos c35] at H
                                  (have c35b0 : ((bt a0 (ji31)) == 47) = true := beq_iff_eq.mpr c35); (have c35b1 : ((bt a0 (ji31)) != 47) = false := bne_eq_false_iff_eq.mpr c35); clear c35; (have H' := Aside0.mk H); clear H; (have p34 : 0 ≤ ((ji31) : Int) := of_decide_eq_true (by first | (with_reducible assumption) | assumption)); (have q34 : (ji31) < (a0.size : Int) := of_decide_eq_true (by first | (with_reducible assumption) | assumption)); (have hx34 := bt_at a0 (ji31)); (replace p34 := eq_true p34); (replace q34 := eq_true q34)
                                  go_wp2
                                  go_meet
                                  case rel => exact ⟨_, (x6_4), (by first | rfl | (simp; done) | (simp [*]; done)), H', ⟨by have := HJ2.out; have := HJ9.out; have := HJ23.out; have := HK4.out; first | omega | exact Nat.le_refl _⟩, ⟨by repeat (first | (with_reducible first | exact HB.out | apply below_alloc | apply pw_below_drewN | apply below_drew1) | exact HB.out)⟩⟩
                                · rw [if_neg c35] at H
                                  (have c35b0 : ((bt a0 (ji31)) == 47) = false := beq_eq_false_iff_ne.mpr c35); (have c35b1 : ((bt a0 (ji31)) != 47) = true := bne_iff_ne.mpr c35); (have H' := Aside0.mk H); clear H; (have p34 : 0 ≤ ((ji31) : Int) := of_decide_eq_true (by first | (with_reducible assumption) | assumption)); (have q34 : (ji31) < (a0.size : Int) := of_decide_eq_true (by first | (with_reducible assumption) | assumption)); (have hx34 := bt_at a0 (ji31)); (replace p34 := eq_true p34); (replace q34 := eq_true q34)
                                  go_wp2
                                  go_roundg k4
                                  case measure => have := HJ2.out; have := HJ9.out; have := HJ23.out; have := HK4.out; omega
                                  case rel => exact ⟨(ji31), (by first | rfl | (simp; done) | (refine congrArg Value.bool (Eq.symm ?_); assumption) | (simp only [← hji31] <;> (first | rfl | (simp; done))) | (simp [*]; done)), H', ⟨by have := HJ2.out; have := HJ9.out; have := HJ23.out; have := HK4.out; omega⟩, ⟨by repeat (first | (with_reducible first | exact HB.out | apply below_alloc | apply pw_below_drewN | apply below_drew1) | exact HB.out)⟩⟩
                              · rw [if_neg c33] at H
                                exact absurd H (by simp)
                            · rw [if_neg c32] at H
                              exact absurd H (by simp)
                          · rw [if_neg c30] at H
                            (have c30b0 : decide (0 < x6_4) = false := decide_eq_false c30); clear c30
                            (first | rw [c30b0] | (simp only [i64_w, i32_w]; rw [c30b0]) | skip)
                            (have H' := Aside0.mk H); clear H
                            go_wp2
                            go_meet
                            case rel => exact ⟨_, (x6_4), (by first | rfl | (simp; done) | (simp [*]; done)), H', ⟨by have := HJ2.out; have := HJ9.out; have := HJ23.out; have := HK4.out; first | omega | exact Nat.le_refl _⟩, ⟨by repeat (first | (with_reducible first | exact HB.out | apply below_alloc | apply pw_below_drewN | apply below_drew1) | exact HB.out)⟩⟩
                    case rest =>
                      clear HC29; (try clear c1); (try clear p1); (try clear q1); (try clear hx1); (try clear qi1); (try clear c2); (try clear p2); (try clear q2); (try clear hx2); (try clear qi2); (try clear c3); (try clear p3); (try clear q3); (try clear hx3); (try clear c4); (try clear c4b0); (try clear c4b1); (try clear c6); (try clear p6); (try clear c7); (try clear c9); (try clear c11); (try clear c11b0); (try clear c11b1); (try clear c12); (try clear c12b0); (try clear c12b1); (try clear p13); (try clear q13); (try clear hx13); (try clear qi13); (try clear c14); (try clear c14b0); (try clear c14b1); (try clear c15); (try clear c15b0); (try clear c15b1); (try clear p16); (try clear q16); (try clear hx16); (try clear qi16); (try clear c17); (try clear c18); (try clear c18b0); (try clear c18b1); (try clear c19); (try clear c19b0); (try clear c19b1); (try clear c19b2); (try clear c21); (try clear c25); (try clear c25b0); (try clear c25b1); (try clear c26); (try clear c26b0); (try clear c26b1); (try clear p27); (try clear q27); (try clear hx27); (try clear qi27); (try clear c28); (try clear c30); (try clear c30b0); (try clear c32); (try clear c32b0); (try clear c33); (try clear c33b0); (try clear p34); (try clear q34); (try clear hx34); (try clear c35); (try clear c35b0); (try clear c35b1); (try clear p1); (try clear p13); (try clear p16); (try clear p2); (try clear p27); (try clear p34); (try clear q1); (try clear q13); (try clear q16); (try clear q2); (try clear q27); (try clear q34)
                      (obtain ⟨kq, x6_28, rfl, HA, HJ28, HB⟩ := hcut)
                      cases kq with
                      | zero => exact absurd HA.out (by simp [spec_ResolveTopic.j4])
                      | succ kj28 =>
                        have H := HA.out; clear HA; (simp only [spec_ResolveTopic.j4] at H)
                        by_cases c36 : x6_28 > 0
                        · rw [if_pos c36] at H
                          (have c36b0 : decide (0 < x6_28) = true := decide_eq_true c36); clear c36; (obtain ⟨ji37, hji37⟩ : ∃ j_ : Int, (wrap64 (x6_28 - 1)) = j_ := ⟨_, rfl⟩); (replace H : (if 0 ≤ (ji37) then (if (ji37) ≤ (a0.size : Int) then (if (a0.extract 0 ((ji37) : Int).toNat).size + 1 ≤ 9223372036854775807 then (if ((a0.extract 0 ((ji37) : Int).toNat) ++ (⟨#[47]⟩ : ByteArray)).size + a1.size ≤ 9223372036854775807 then ((spec_GoodTopic.f kj28 (((a0.extract 0 ((ji37) : Int).toNat) ++ (⟨#[47]⟩ : ByteArray)) ++ a1)).bind fun t127 => (if t127 = true then (some (((a0.extract 0 ((ji37) : Int).toNat) ++ (⟨#[47]⟩ : ByteArray)) ++ a1)) else (some (⟨#[]⟩ : ByteArray)))) else (none)) else (none)) else (none)) else (none)) = some r := by first | (rw [hji37] at H; exact H) | (simp only [hji37] at H ⊢; exact H)); (have hji37w : (IntKind.i64.wrap (x6_28 - 1)) = ji37 := (i64_w _).trans hji37)
                          by_cases c38 : 0 ≤ (ji37)
                          · rw [if_pos c38] at H
                            (have c38b0 := eq_true c38); (have c38b1 : decide (0 ≤ (ji37)) = true := decide_eq_true c38); clear c38
                            by_cases c39 : (ji37) ≤ (a0.size : Int)
                            · rw [if_pos c39] at H
                              (have c39b0 := eq_true c39); (have c39b1 : decide ((ji37) ≤ (a0.size : Int)) = true := decide_eq_true c39); clear c39
                              by_cases c40 : (a0.extract 0 ((ji37) : Int).toNat).size + 1 ≤ 9223372036854775807
                              · rw [if_pos c40] at H
                                (have c40b0 := eq_true c40); (have c40b1 : decide ((a0.extract 0 ((ji37) : Int).toNat).size + 1 ≤ 9223372036854775807) = true := decide_eq_true c40)
                                try have c40b2 : (9223372036854775807 < (a0.extract 0 ((ji37) : Int).toNat).size + 1) = False := eq_false (Nat.not_lt.2 c40)
                                by_cases c41 : ((a0.extract 0 ((ji37) : Int).toNat) ++ (⟨#[47]⟩ : ByteArray)).size + a1.size ≤ 9223372036854775807
                                · rw [if_pos c41] at H
                                  (have c41b0 := eq_true c41); (have c41b1 : decide (((a0.extract 0 ((ji37) : Int).toNat) ++ (⟨#[47]⟩ : ByteArray)).size + a1.size ≤ 9223372036854775807) = true := decide_eq_true c41)
                                  try have c41b2 : (9223372036854775807 < ((a0.extract 0 ((ji37) : Int).toNat) ++ (⟨#[47]⟩ : ByteArray)).size + a1.size) = False := eq_false (Nat.not_lt.2 c41)
                                  (replace H := Option.bind_eq_some_iff.mp H); (obtain ⟨t127, A420, H⟩ := H); (replace H : (if t127 = true then (some (((a0.extract 0 ((ji37) : Int).toNat) ++ (⟨#[47]⟩ : ByteArray)) ++ a1)) else (some (⟨#[]⟩ : ByteArray))) = some r := H); (have A42 := Aside0.mk A420); clear A420
                                  by_cases c43 : t127 = true
                                  · subst c43
                                    (have H1 : (some (((a0.extract 0 ((ji37) : Int).toNat) ++ (⟨#[47]⟩ : ByteArray)) ++ a1)) = some r := by rw [if_pos rfl] at H; exact H); clear H; have H := H1; clear H1; (obtain rfl := Option.some.inj H); (have cx_ : (9223372036854775807 < (ji37 : Int).toNat + 1) = False := eq_false (by have h1_ := of_decide_eq_true c39b1; have h2_ := c40; rw [ByteArray.size_extract] at h2_; omega))
                                    go_wp2_with (first | ((with_reducible refine gate_callee (f := 7) rfl ?_); refine goesL_ (some 69) rfl rfl Tryd.func7 (by kernel_rfl) rfl #[.string (((a0.extract 0 ((ji37) : Int).toNat) ++ (⟨#[47]⟩ : ByteArray)) ++ a1)] rfl (by (try simp only [List.map_toArray, List.map_cons, List.map_nil]); first | done | (simp only [hji37]; rfl) | rfl | (simp only [List.length_drop, List.length_take]; rfl)) ?_; (with_reducible refine (spec_GoodTopic.calls kj28 (((a0.extract 0 ((ji37) : Int).toNat) ++ (⟨#[47]⟩ : ByteArray)) ++ a1) true _ A42.out).mono ?_); rintro e w44 ⟨rfl, hb⟩; refine ⟨_, rfl, ?_⟩; have n0_ := Aside0.mk (below_step (by repeat (first | (with_reducible first | exact HB.out | apply below_alloc | apply pw_below_drewN | apply below_drew1) | exact HB.out)) hb); clear HB; have HB := n0_; clear n0_; (try clear hb); (try clear hb2); (try clear hk); (try clear hi)))
                                    go_ret
                                    exact ⟨by first | rfl | (simp [errW_none, errW_some] <;> rfl) | (simp only [← hji37]; first | rfl | (simp [errW_none, errW_some] <;> rfl)) | (simp [*, errW_none, errW_some] <;> rfl), by repeat (first | (with_reducible first | exact HB.out | apply below_alloc | apply pw_below_drewN | apply below_drew1) | exact HB.out)⟩
                                  · replace c43 := Bool.eq_false_iff.mpr c43
                                    subst c43; (have H1 : (some (⟨#[]⟩ : ByteArray)) = some r := by rw [if_neg (show ¬ (false = true) by decide)] at H; exact H); clear H; have H := H1; clear H1; (obtain rfl := Option.some.inj H); (have cx_ : (9223372036854775807 < (ji37 : Int).toNat + 1) = False := eq_false (by have h1_ := of_decide_eq_true c39b1; have h2_ := c40; rw [ByteArray.size_extract] at h2_; omega))
                                    go_wp2_with (first | ((with_reducible refine gate_callee (f := 7) rfl ?_); refine goesL_ (some 69) rfl rfl Tryd.func7 (by kernel_rfl) rfl #[.string (((a0.extract 0 ((ji37) : Int).toNat) ++ (⟨#[47]⟩ : ByteArray)) ++ a1)] rfl (by (try simp only [List.map_toArray, List.map_cons, List.map_nil]); first | done | (simp only [hji37]; rfl) | rfl | (simp only [List.length_drop, List.length_take]; rfl)) ?_; (with_reducible refine (spec_GoodTopic.calls kj28 (((a0.extract 0 ((ji37) : Int).toNat) ++ (⟨#[47]⟩ : ByteArray)) ++ a1) false _ A42.out).mono ?_); rintro e w45 ⟨rfl, hb⟩; refine ⟨_, rfl, ?_⟩; have n0_ := Aside0.mk (below_step (by repeat (first | (with_reducible first | exact HB.out | apply below_alloc | apply pw_below_drewN | apply below_drew1) | exact HB.out)) hb); clear HB; have HB := n0_; clear n0_; (try clear hb); (try clear hb2); (try clear hk); (try clear hi)))
                                    go_ret
                                    exact ⟨by first | rfl | (simp [errW_none, errW_some] <;> rfl) | (simp only [← hji37]; first | rfl | (simp [errW_none, errW_some] <;> rfl)) | (simp [*, errW_none, errW_some] <;> rfl), by repeat (first | (with_reducible first | exact HB.out | apply below_alloc | apply pw_below_drewN | apply below_drew1) | exact HB.out)⟩
                                · rw [if_neg c41] at H
                                  exact absurd H (by simp)
                              · rw [if_neg c40] at H
                                exact absurd H (by simp)
                            · rw [if_neg c39] at H
                              exact absurd H (by simp)
                          · rw [if_neg c38] at H
                            exact absurd H (by simp)
                        · rw [if_neg c36] at H
                          (have c36b0 : decide (0 < x6_28) = false := decide_eq_false c36); clear c36
                          by_cases c46 : 0 ≤ x6_28
                          · rw [if_pos c46] at H
                            (have c46b0 := eq_true c46); (have c46b1 : decide (0 ≤ x6_28) = true := decide_eq_true c46); clear c46
                            by_cases c47 : x6_28 ≤ (a0.size : Int)
                            · rw [if_pos c47] at H
                              (have c47b0 := eq_true c47); (have c47b1 : decide (x6_28 ≤ (a0.size : Int)) = true := decide_eq_true c47); clear c47
                              by_cases c48 : (a0.extract 0 (x6_28 : Int).toNat).size + 1 ≤ 9223372036854775807
                              · rw [if_pos c48] at H
                                (have c48b0 := eq_true c48); (have c48b1 : decide ((a0.extract 0 (x6_28 : Int).toNat).size + 1 ≤ 9223372036854775807) = true := decide_eq_true c48)
                                try have c48b2 : (9223372036854775807 < (a0.extract 0 (x6_28 : Int).toNat).size + 1) = False := eq_false (Nat.not_lt.2 c48)
                                by_cases c49 : ((a0.extract 0 (x6_28 : Int).toNat) ++ (⟨#[47]⟩ : ByteArray)).size + a1.size ≤ 9223372036854775807
                                · rw [if_pos c49] at H
                                  (have c49b0 := eq_true c49); (have c49b1 : decide (((a0.extract 0 (x6_28 : Int).toNat) ++ (⟨#[47]⟩ : ByteArray)).size + a1.size ≤ 9223372036854775807) = true := decide_eq_true c49)
                                  try have c49b2 : (9223372036854775807 < ((a0.extract 0 (x6_28 : Int).toNat) ++ (⟨#[47]⟩ : ByteArray)).size + a1.size) = False := eq_false (Nat.not_lt.2 c49)
                                  (replace H := Option.bind_eq_some_iff.mp H); (obtain ⟨t128, A500, H⟩ := H); (replace H : (if t128 = true then (some (((a0.extract 0 (x6_28 : Int).toNat) ++ (⟨#[47]⟩ : ByteArray)) ++ a1)) else (some (⟨#[]⟩ : ByteArray))) = some r := H); (have A50 := Aside0.mk A500); clear A500
                                  by_cases c51 : t128 = true
                                  · subst c51
                                    (have H1 : (some (((a0.extract 0 (x6_28 : Int).toNat) ++ (⟨#[47]⟩ : ByteArray)) ++ a1)) = some r := by rw [if_pos rfl] at H; exact H); clear H; have H := H1; clear H1; (obtain rfl := Option.some.inj H); (have cx_ : (9223372036854775807 < (x6_28 : Int).toNat + 1) = False := eq_false (by have h1_ := of_decide_eq_true c47b1; have h2_ := c48; rw [ByteArray.size_extract] at h2_; omega))
                                    go_wp2_with (first | ((with_reducible refine gate_callee (f := 7) rfl ?_); refine goesL_ (some 69) rfl rfl Tryd.func7 (by kernel_rfl) rfl #[.string (((a0.extract 0 (x6_28 : Int).toNat) ++ (⟨#[47]⟩ : ByteArray)) ++ a1)] rfl (by (try simp only [List.map_toArray, List.map_cons, List.map_nil]); first | done | rfl | (simp only [List.length_drop, List.length_take]; rfl)) ?_; (with_reducible refine (spec_GoodTopic.calls kj28 (((a0.extract 0 (x6_28 : Int).toNat) ++ (⟨#[47]⟩ : ByteArray)) ++ a1) true _ A50.out).mono ?_); rintro e w52 ⟨rfl, hb⟩; refine ⟨_, rfl, ?_⟩; have n0_ := Aside0.mk (below_step (by repeat (first | (with_reducible first | exact HB.out | apply below_alloc | apply pw_below_drewN | apply below_drew1) | exact HB.out)) hb); clear HB; have HB := n0_; clear n0_; (try clear hb); (try clear hb2); (try clear hk); (try clear hi)))
                                    go_ret
                                    exact ⟨by first | rfl | (simp [errW_none, errW_some] <;> rfl) | (simp [*, errW_none, errW_some] <;> rfl), by repeat (first | (with_reducible first | exact HB.out | apply below_alloc | apply pw_below_drewN | apply below_drew1) | exact HB.out)⟩
                                  · replace c51 := Bool.eq_false_iff.mpr c51
                                    subst c51; (have H1 : (some (⟨#[]⟩ : ByteArray)) = some r := by rw [if_neg (show ¬ (false = true) by decide)] at H; exact H); clear H; have H := H1; clear H1; (obtain rfl := Option.some.inj H); (have cx_ : (9223372036854775807 < (x6_28 : Int).toNat + 1) = False := eq_false (by have h1_ := of_decide_eq_true c47b1; have h2_ := c48; rw [ByteArray.size_extract] at h2_; omega))
                                    go_wp2_with (first | ((with_reducible refine gate_callee (f := 7) rfl ?_); refine goesL_ (some 69) rfl rfl Tryd.func7 (by kernel_rfl) rfl #[.string (((a0.extract 0 (x6_28 : Int).toNat) ++ (⟨#[47]⟩ : ByteArray)) ++ a1)] rfl (by (try simp only [List.map_toArray, List.map_cons, List.map_nil]); first | done | rfl | (simp only [List.length_drop, List.length_take]; rfl)) ?_; (with_reducible refine (spec_GoodTopic.calls kj28 (((a0.extract 0 (x6_28 : Int).toNat) ++ (⟨#[47]⟩ : ByteArray)) ++ a1) false _ A50.out).mono ?_); rintro e w53 ⟨rfl, hb⟩; refine ⟨_, rfl, ?_⟩; have n0_ := Aside0.mk (below_step (by repeat (first | (with_reducible first | exact HB.out | apply below_alloc | apply pw_below_drewN | apply below_drew1) | exact HB.out)) hb); clear HB; have HB := n0_; clear n0_; (try clear hb); (try clear hb2); (try clear hk); (try clear hi)))
                                    go_ret
                                    exact ⟨by first | rfl | (simp [errW_none, errW_some] <;> rfl) | (simp [*, errW_none, errW_some] <;> rfl), by repeat (first | (with_reducible first | exact HB.out | apply below_alloc | apply pw_below_drewN | apply below_drew1) | exact HB.out)⟩
                                · rw [if_neg c49] at H
                                  exact absurd H (by simp)
                              · rw [if_neg c48] at H
                                exact absurd H (by simp)
                            · rw [if_neg c47] at H
                              exact absurd H (by simp)
                          · rw [if_neg c46] at H
                            exact absurd H (by simp)
                  · replace c28 := Bool.eq_false_iff.mpr c28
                    subst c28; (have H1 : ((spec_GoodTopic.f kj23 a1).bind fun t129 => (if t129 = true then (some a1) else (some (⟨#[]⟩ : ByteArray)))) = some r := by rw [if_neg (show ¬ (false = true) by decide)] at H; exact H); clear H; have H := H1; clear H1; (replace H := Option.bind_eq_some_iff.mp H); (obtain ⟨t129, A540, H⟩ := H); (replace H : (if t129 = true then (some a1) else (some (⟨#[]⟩ : ByteArray))) = some r := H); (have A54 := Aside0.mk A540); clear A540
                    by_cases c55 : t129 = true
                    · subst c55
                      (have H1 : (some a1) = some r := by rw [if_pos rfl] at H; exact H); clear H; have H := H1; clear H1; (obtain rfl := Option.some.inj H)
                      go_wp2_with (first | ((with_reducible refine gate_callee (f := 7) rfl ?_); refine goesL_ (some 69) rfl rfl Tryd.func7 (by kernel_rfl) rfl #[.string a1] rfl (by (try simp only [List.map_toArray, List.map_cons, List.map_nil]); first | done | rfl | (simp only [List.length_drop, List.length_take]; rfl)) ?_; (with_reducible refine (spec_GoodTopic.calls kj23 a1 true _ A54.out).mono ?_); rintro e w56 ⟨rfl, hb⟩; refine ⟨_, rfl, ?_⟩; have n0_ := Aside0.mk (below_step (by repeat (first | (with_reducible first | exact HB.out | apply below_alloc | apply pw_below_drewN | apply below_drew1) | exact HB.out)) hb); clear HB; have HB := n0_; clear n0_; (try clear hb); (try clear hb2); (try clear hk); (try clear hi)))
                      go_ret
                      exact ⟨by first | rfl | (simp [errW_none, errW_some] <;> rfl) | (simp [*, errW_none, errW_some] <;> rfl), by repeat (first | (with_reducible first | exact HB.out | apply below_alloc | apply pw_below_drewN | apply below_drew1) | exact HB.out)⟩
                    · replace c55 := Bool.eq_false_iff.mpr c55
                      subst c55; (have H1 : (some (⟨#[]⟩ : ByteArray)) = some r := by rw [if_neg (show ¬ (false = true) by decide)] at H; exact H); clear H; have H := H1; clear H1; (obtain rfl := Option.some.inj H)
                      go_wp2_with (first | ((with_reducible refine gate_callee (f := 7) rfl ?_); refine goesL_ (some 69) rfl rfl Tryd.func7 (by kernel_rfl) rfl #[.string a1] rfl (by (try simp only [List.map_toArray, List.map_cons, List.map_nil]); first | done | rfl | (simp only [List.length_drop, List.length_take]; rfl)) ?_; (with_reducible refine (spec_GoodTopic.calls kj23 a1 false _ A54.out).mono ?_); rintro e w57 ⟨rfl, hb⟩; refine ⟨_, rfl, ?_⟩; have n0_ := Aside0.mk (below_step (by repeat (first | (with_reducible first | exact HB.out | apply below_alloc | apply pw_below_drewN | apply below_drew1) | exact HB.out)) hb); clear HB; have HB := n0_; clear n0_; (try clear hb); (try clear hb2); (try clear hk); (try clear hi)))
                      go_ret
                      exact ⟨by first | rfl | (simp [errW_none, errW_some] <;> rfl) | (simp [*, errW_none, errW_some] <;> rfl), by repeat (first | (with_reducible first | exact HB.out | apply below_alloc | apply pw_below_drewN | apply below_drew1) | exact HB.out)⟩

end Go.Proofs.YtmlejakajcmbdaaDoor.PFnTopics
