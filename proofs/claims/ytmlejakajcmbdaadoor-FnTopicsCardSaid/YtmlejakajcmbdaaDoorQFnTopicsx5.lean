-- Written by this session's own program for the law FnTopics; it began as the print's text.
import Derived.Test.YtmlejakajcmbdaaDoorQFnTopicsx0
import Derived.Test.YtmlejakajcmbdaaDoorQFnTopicsx2
import Derived.Test.YtmlejakajcmbdaaDoorQFnTopicsx4
namespace Go.Proofs.YtmlejakajcmbdaaDoor.PFnTopics
open Go.RowKit Go.Proofs.YtmlejakajcmbdaaDoorW.PrintWords Go.Proofs.YtmlejakajcmbdaaDoorW.PrintLast Go.Proofs.YtmlejakajcmbdaaDoorW.PrintMore
attribute [local go_sem] max2_int min2_int max_two min_two max_three min_three max_four min_four   -- for this text's walks alone
set_option linter.unusedVariables false
set_option linter.unusedSimpArgs false

/-! ### impl_ResolveTopic: function 10 -/
def impl_ResolveTopic.j0 : Nat → ByteArray → ByteArray → Bool → Option (ByteArray)
  | 0, _, _, _ => none
  | k + 1, x0, x1, x16 => if x16 = true then (some (⟨#[]⟩ : ByteArray)) else ((strings_HasPrefix.f x1 (⟨#[47]⟩ : ByteArray)).bind fun t136 => (if t136 = true then ((impl_GoodTopic.f k x1).bind fun t137 => (if t137 = true then (some x1) else (some (⟨#[]⟩ : ByteArray)))) else ((strings_HasPrefix.f x1 (⟨#[126, 47]⟩ : ByteArray)).bind fun t138 => (if t138 = true then (if 1 ≤ (x1.size : Int) then (if x0.size + (x1.extract 1 x1.size).size ≤ 9223372036854775807 then ((impl_GoodTopic.f k (x0 ++ (x1.extract 1 x1.size))).bind fun t139 => (if t139 = true then (some (x0 ++ (x1.extract 1 x1.size))) else (some (⟨#[]⟩ : ByteArray)))) else (none)) else (none)) else ((strings_LastIndex.f k x0 (⟨#[47]⟩ : ByteArray)).bind fun t140 => (if 0 ≤ (mx t140 0) then (if (mx t140 0) ≤ (x0.size : Int) then (if (x0.extract 0 ((mx t140 0) : Int).toNat).size + 1 ≤ 9223372036854775807 then (if ((x0.extract 0 ((mx t140 0) : Int).toNat) ++ (⟨#[47]⟩ : ByteArray)).size + x1.size ≤ 9223372036854775807 then ((impl_GoodTopic.f k (((x0.extract 0 ((mx t140 0) : Int).toNat) ++ (⟨#[47]⟩ : ByteArray)) ++ x1)).bind fun t141 => (if t141 = true then (some (((x0.extract 0 ((mx t140 0) : Int).toNat) ++ (⟨#[47]⟩ : ByteArray)) ++ x1)) else (some (⟨#[]⟩ : ByteArray)))) else (none)) else (none)) else (none)) else (none)))))))
def impl_ResolveTopic.f (k : Nat) (a0 : ByteArray) (a1 : ByteArray) : Option (ByteArray) := if a0.toList = ([] : List UInt8) then (impl_ResolveTopic.j0 k a0 a1 (decide ((a1.size : Int) > 60))) else ((impl_GoodTopic.f k a0).bind fun t135 => (if t135 = true then (impl_ResolveTopic.j0 k a0 a1 (decide ((a1.size : Int) > 60))) else (impl_ResolveTopic.j0 k a0 a1 true)))
theorem impl_ResolveTopic.mono_l : ∀ k, (∀ y0 y1 y2, LeO (impl_ResolveTopic.j0 k y0 y1 y2) (impl_ResolveTopic.j0 (k + 1) y0 y1 y2))
  | 0 => fun _ _ _ r h => by simp [impl_ResolveTopic.j0] at h
  | k + 1 => by
    have ih0 := impl_ResolveTopic.mono_l k
    · intro y0 y1 y2
      unfold impl_ResolveTopic.j0
      repeat' first
      | (with_reducible exact ih0 _ _ _)
      | (with_reducible exact impl_GoodTopic.mono _ _)
      | (with_reducible exact strings_LastIndex.mono _ _ _)
      | (with_reducible exact LeO.refl _)
      | (with_reducible exact LeO.none _)
      | (with_reducible refine LeO.ite ?_ ?_)
      | (with_reducible refine LeO.bind ?_ (fun _ => ?_))
      | exact ih0 _ _ _
      | exact impl_GoodTopic.mono _ _
      | exact strings_LastIndex.mono _ _ _
      | exact LeO.none _
      | refine LeO.ite ?_ ?_
      | refine LeO.bind ?_ (fun _ => ?_)
theorem impl_ResolveTopic.mono : ∀ a0 a1 k, LeO (impl_ResolveTopic.f k a0 a1) (impl_ResolveTopic.f (k + 1) a0 a1) := by
  intro a0 a1 k
  have ih0 := impl_ResolveTopic.mono_l k
  unfold impl_ResolveTopic.f
  repeat' first
      | (with_reducible exact ih0 _ _ _)
      | (with_reducible exact impl_GoodTopic.mono _ _)
      | (with_reducible exact strings_LastIndex.mono _ _ _)
      | (with_reducible exact LeO.refl _)
      | (with_reducible exact LeO.none _)
      | (with_reducible refine LeO.ite ?_ ?_)
      | (with_reducible refine LeO.bind ?_ (fun _ => ?_))
      | exact ih0 _ _ _
      | exact impl_GoodTopic.mono _ _
      | exact strings_LastIndex.mono _ _ _
      | exact LeO.none _
      | refine LeO.ite ?_ ?_
      | refine LeO.bind ?_ (fun _ => ?_)
set_option maxHeartbeats 8000000 in
set_option maxRecDepth 100000 in
theorem impl_ResolveTopic.calls (k : Nat) (a0 : ByteArray) (a1 : ByteArray) (r : ByteArray) (w : World) (h : impl_ResolveTopic.f k a0 a1 = some r) :
    Calls Tryd.prog 10 #[.string a0, .string a1] w fun e w' => e = .returned (.string r) ∧ Below w.heap.size w w' := by
  (have HB := Aside0.mk (Below.refl w.heap.size w)); (have H : (if a0.toList = ([] : List UInt8) then (impl_ResolveTopic.j0 k a0 a1 (decide ((a1.size : Int) > 60))) else ((impl_GoodTopic.f k a0).bind fun t135 => (if t135 = true then (impl_ResolveTopic.j0 k a0 a1 (decide ((a1.size : Int) > 60))) else (impl_ResolveTopic.j0 k a0 a1 true)))) = some r := h); clear h; (have HC3 := Aside0.mk H); clear H
  go_enter Tryd.func10, Tryd.ntmps10
  go_upto_region 1 with (fail)
  go_cut [16] (fun v16 wc => ∃ (kq : Nat) (x16_2 : Bool), v16 = .bool x16_2 ∧ Aside0 (impl_ResolveTopic.j0 kq a0 a1 x16_2 = some r) ∧ Aside0 (kq ≤ k) ∧ Aside0 (Below w.heap.size w wc))
  case first =>
    have H := HC3.out; clear HC3
    by_cases c4 : a0.toList = ([] : List UInt8)
    · rw [if_pos c4] at H
      (have c4b0 : (a0.toList == ([] : List UInt8)) = true := beq_iff_eq.mpr c4); (have c4b1 : (a0.toList != ([] : List UInt8)) = false := bne_eq_false_iff_eq.mpr c4); clear c4
      (first | rw [c4b0] | (simp only [i64_w, i32_w]; rw [c4b0]) | skip)
      (have H' := Aside0.mk H); clear H
      go_wp2
      go_meet
      case rel => exact ⟨_, (decide ((a1.size : Int) > 60)), (by first | rfl | (simp; done) | (simp [*]; done)), H', ⟨by first | omega | exact Nat.le_refl _⟩, ⟨by repeat (first | (with_reducible first | exact HB.out | apply below_alloc | apply pw_below_drewN | apply below_drew1) | exact HB.out)⟩⟩
    · rw [if_neg c4] at H
      (have c4b0 : (a0.toList == ([] : List UInt8)) = false := beq_eq_false_iff_ne.mpr c4); (have c4b1 : (a0.toList != ([] : List UInt8)) = true := bne_iff_ne.mpr c4)
      (first | rw [c4b0] | (simp only [i64_w, i32_w]; rw [c4b0]) | skip)
      (replace H := Option.bind_eq_some_iff.mp H); (obtain ⟨t135, A50, H⟩ := H); (replace H : (if t135 = true then (impl_ResolveTopic.j0 k a0 a1 (decide ((a1.size : Int) > 60))) else (impl_ResolveTopic.j0 k a0 a1 true)) = some r := H); (have A5 := Aside0.mk A50); clear A50
      by_cases c6 : t135 = true
      · subst c6
        (have H1 : (impl_ResolveTopic.j0 k a0 a1 (decide ((a1.size : Int) > 60))) = some r := by rw [if_pos rfl] at H; exact H); clear H; have H := H1; clear H1; (have H' := Aside0.mk H); clear H
        go_wp2_with (first | (go_at_call 8; (with_reducible refine (impl_GoodTopic.calls k a0 true _ A5.out).mono ?_); rintro e w7 ⟨rfl, hb⟩; have n0_ := Aside0.mk (below_step (by repeat (first | (with_reducible first | exact HB.out | apply below_alloc | apply pw_below_drewN | apply below_drew1) | exact HB.out)) hb); clear HB; have HB := n0_; clear n0_; (try clear hb); (try clear hb2); (try clear hk); (try clear hi)))
        go_meet
        case rel => exact ⟨_, (decide ((a1.size : Int) > 60)), (by first | rfl | (simp; done) | (simp [*]; done)), H', ⟨by first | omega | exact Nat.le_refl _⟩, ⟨by repeat (first | (with_reducible first | exact HB.out | apply below_alloc | apply pw_below_drewN | apply below_drew1) | exact HB.out)⟩⟩
      · replace c6 := Bool.eq_false_iff.mpr c6
        subst c6; (have H1 : (impl_ResolveTopic.j0 k a0 a1 true) = some r := by rw [if_neg (show ¬ (false = true) by decide)] at H; exact H); clear H; have H := H1; clear H1; (have H' := Aside0.mk H); clear H
        go_wp2_with (first | (go_at_call 8; (with_reducible refine (impl_GoodTopic.calls k a0 false _ A5.out).mono ?_); rintro e w8 ⟨rfl, hb⟩; have n0_ := Aside0.mk (below_step (by repeat (first | (with_reducible first | exact HB.out | apply below_alloc | apply pw_below_drewN | apply below_drew1) | exact HB.out)) hb); clear HB; have HB := n0_; clear n0_; (try clear hb); (try clear hb2); (try clear hk); (try clear hi)))
        go_meet
        case rel => exact ⟨_, (true), (by first | rfl | (simp; done) | (simp [*]; done)), H', ⟨by first | omega | exact Nat.le_refl _⟩, ⟨by repeat (first | (with_reducible first | exact HB.out | apply below_alloc | apply pw_below_drewN | apply below_drew1) | exact HB.out)⟩⟩
  case rest =>
    clear HC3; (try clear c1); (try clear p2); (try clear c4); (try clear c4b0); (try clear c4b1); (try clear c6); (obtain ⟨kq, x16_2, rfl, HA, HJ2, HB⟩ := hcut)
    cases kq with
    | zero => exact absurd HA.out (by simp [impl_ResolveTopic.j0])
    | succ kj2 =>
      have H := HA.out; clear HA; (simp only [impl_ResolveTopic.j0] at H)
      by_cases c9 : x16_2 = true
      · subst c9
        (have H1 : (some (⟨#[]⟩ : ByteArray)) = some r := by rw [if_pos rfl] at H; exact H); clear H; have H := H1; clear H1; (obtain rfl := Option.some.inj H)
        go_wp2
        go_ret
        exact ⟨by first | rfl | (simp [errW_none, errW_some] <;> rfl) | (simp [*, errW_none, errW_some] <;> rfl), by repeat (first | (with_reducible first | exact HB.out | apply below_alloc | apply pw_below_drewN | apply below_drew1) | exact HB.out)⟩
      · replace c9 := Bool.eq_false_iff.mpr c9
        subst c9; (have H1 : ((strings_HasPrefix.f a1 (⟨#[47]⟩ : ByteArray)).bind fun t136 => (if t136 = true then ((impl_GoodTopic.f kj2 a1).bind fun t137 => (if t137 = true then (some a1) else (some (⟨#[]⟩ : ByteArray)))) else ((strings_HasPrefix.f a1 (⟨#[126, 47]⟩ : ByteArray)).bind fun t138 => (if t138 = true then (if 1 ≤ (a1.size : Int) then (if a0.size + (a1.extract 1 a1.size).size ≤ 9223372036854775807 then ((impl_GoodTopic.f kj2 (a0 ++ (a1.extract 1 a1.size))).bind fun t139 => (if t139 = true then (some (a0 ++ (a1.extract 1 a1.size))) else (some (⟨#[]⟩ : ByteArray)))) else (none)) else (none)) else ((strings_LastIndex.f kj2 a0 (⟨#[47]⟩ : ByteArray)).bind fun t140 => (if 0 ≤ (mx t140 0) then (if (mx t140 0) ≤ (a0.size : Int) then (if (a0.extract 0 ((mx t140 0) : Int).toNat).size + 1 ≤ 9223372036854775807 then (if ((a0.extract 0 ((mx t140 0) : Int).toNat) ++ (⟨#[47]⟩ : ByteArray)).size + a1.size ≤ 9223372036854775807 then ((impl_GoodTopic.f kj2 (((a0.extract 0 ((mx t140 0) : Int).toNat) ++ (⟨#[47]⟩ : ByteArray)) ++ a1)).bind fun t141 => (if t141 = true then (some (((a0.extract 0 ((mx t140 0) : Int).toNat) ++ (⟨#[47]⟩ : ByteArray)) ++ a1)) else (some (⟨#[]⟩ : ByteArray)))) else (none)) else (none)) else (none)) else (none))))))) = some r := by rw [if_neg (show ¬ (false = true) by decide)] at H; exact H); clear H; have H := H1; clear H1; (replace H := Option.bind_eq_some_iff.mp H); (obtain ⟨t136, A100, H⟩ := H)
        (replace H : (if t136 = true then ((impl_GoodTopic.f kj2 a1).bind fun t137 => (if t137 = true then (some a1) else (some (⟨#[]⟩ : ByteArray)))) else ((strings_HasPrefix.f a1 (⟨#[126, 47]⟩ : ByteArray)).bind fun t138 => (if t138 = true then (if 1 ≤ (a1.size : Int) then (if a0.size + (a1.extract 1 a1.size).size ≤ 9223372036854775807 then ((impl_GoodTopic.f kj2 (a0 ++ (a1.extract 1 a1.size))).bind fun t139 => (if t139 = true then (some (a0 ++ (a1.extract 1 a1.size))) else (some (⟨#[]⟩ : ByteArray)))) else (none)) else (none)) else ((strings_LastIndex.f kj2 a0 (⟨#[47]⟩ : ByteArray)).bind fun t140 => (if 0 ≤ (mx t140 0) then (if (mx t140 0) ≤ (a0.size : Int) then (if (a0.extract 0 ((mx t140 0) : Int).toNat).size + 1 ≤ 9223372036854775807 then (if ((a0.extract 0 ((mx t140 0) : Int).toNat) ++ (⟨#[47]⟩ : ByteArray)).size + a1.size ≤ 9223372036854775807 then ((impl_GoodTopic.f kj2 (((a0.extract 0 ((mx t140 0) : Int).toNat) ++ (⟨#[47]⟩ : ByteArray)) ++ a1)).bind fun t141 => (if t141 = true then (some (((a0.extract 0 ((mx t140 0) : Int).toNat) ++ (⟨#[47]⟩ : ByteArray)) ++ a1)) else (some (⟨#[]⟩ : ByteArray)))) else (none)) else (none)) else (none)) else (none)))))) = some r := H); (have A10 := Aside0.mk A100); clear A100
        by_cases c11 : t136 = true
        · subst c11
          (have H1 : ((impl_GoodTopic.f kj2 a1).bind fun t137 => (if t137 = true then (some a1) else (some (⟨#[]⟩ : ByteArray)))) = some r := by rw [if_pos rfl] at H; exact H); clear H; have H := H1; clear H1; (replace H := Option.bind_eq_some_iff.mp H); (obtain ⟨t137, A120, H⟩ := H); (replace H : (if t137 = true then (some a1) else (some (⟨#[]⟩ : ByteArray))) = some r := H); (have A12 := Aside0.mk A120); clear A120
          by_cases c13 : t137 = true
          · subst c13
            (have H1 : (some a1) = some r := by rw [if_pos rfl] at H; exact H); clear H; have H := H1; clear H1; (obtain rfl := Option.some.inj H)
            go_wp2_with (first | ((with_reducible refine gate_callee (f := 20) rfl ?_); refine goesL_ (some 27) rfl rfl Tryd.func20 (by kernel_rfl) rfl #[.string a1, .string (⟨#[47]⟩ : ByteArray)] rfl (by (try simp only [List.map_toArray, List.map_cons, List.map_nil]); first | done | rfl | (simp only [List.length_drop, List.length_take]; rfl)) ?_; (with_reducible refine (strings_HasPrefix.calls a1 (⟨#[47]⟩ : ByteArray) true _ A10.out).mono ?_); rintro e w' ⟨rfl, ⟨nd, rfl⟩⟩; refine ⟨_, rfl, ?_⟩) | ((with_reducible refine gate_callee (f := 8) rfl ?_); refine goesL_ (some 36) rfl rfl Tryd.func8 (by kernel_rfl) rfl #[.string a1] rfl (by (try simp only [List.map_toArray, List.map_cons, List.map_nil]); first | done | rfl | (simp only [List.length_drop, List.length_take]; rfl)) ?_; (with_reducible refine (impl_GoodTopic.calls kj2 a1 true _ A12.out).mono ?_); rintro e w14 ⟨rfl, hb⟩; refine ⟨_, rfl, ?_⟩; have n0_ := Aside0.mk (below_step (by repeat (first | (with_reducible first | exact HB.out | apply below_alloc | apply pw_below_drewN | apply below_drew1) | exact HB.out)) hb); clear HB; have HB := n0_; clear n0_; (try clear hb); (try clear hb2); (try clear hk); (try clear hi)))
            go_ret
            exact ⟨by first | rfl | (simp [errW_none, errW_some] <;> rfl) | (simp [*, errW_none, errW_some] <;> rfl), by repeat (first | (with_reducible first | exact HB.out | apply below_alloc | apply pw_below_drewN | apply below_drew1) | exact HB.out)⟩
          · replace c13 := Bool.eq_false_iff.mpr c13
            subst c13; (have H1 : (some (⟨#[]⟩ : ByteArray)) = some r := by rw [if_neg (show ¬ (false = true) by decide)] at H; exact H); clear H; have H := H1; clear H1; (obtain rfl := Option.some.inj H)
            go_wp2_with (first | ((with_reducible refine gate_callee (f := 20) rfl ?_); refine goesL_ (some 27) rfl rfl Tryd.func20 (by kernel_rfl) rfl #[.string a1, .string (⟨#[47]⟩ : ByteArray)] rfl (by (try simp only [List.map_toArray, List.map_cons, List.map_nil]); first | done | rfl | (simp only [List.length_drop, List.length_take]; rfl)) ?_; (with_reducible refine (strings_HasPrefix.calls a1 (⟨#[47]⟩ : ByteArray) true _ A10.out).mono ?_); rintro e w' ⟨rfl, ⟨nd, rfl⟩⟩; refine ⟨_, rfl, ?_⟩) | ((with_reducible refine gate_callee (f := 8) rfl ?_); refine goesL_ (some 36) rfl rfl Tryd.func8 (by kernel_rfl) rfl #[.string a1] rfl (by (try simp only [List.map_toArray, List.map_cons, List.map_nil]); first | done | rfl | (simp only [List.length_drop, List.length_take]; rfl)) ?_; (with_reducible refine (impl_GoodTopic.calls kj2 a1 false _ A12.out).mono ?_); rintro e w15 ⟨rfl, hb⟩; refine ⟨_, rfl, ?_⟩; have n0_ := Aside0.mk (below_step (by repeat (first | (with_reducible first | exact HB.out | apply below_alloc | apply pw_below_drewN | apply below_drew1) | exact HB.out)) hb); clear HB; have HB := n0_; clear n0_; (try clear hb); (try clear hb2); (try clear hk); (try clear hi)))
            go_ret
            exact ⟨by first | rfl | (simp [errW_none, errW_some] <;> rfl) | (simp [*, errW_none, errW_some] <;> rfl), by repeat (first | (with_reducible first | exact HB.out | apply below_alloc | apply pw_below_drewN | apply below_drew1) | exact HB.out)⟩
        · replace c11 := Bool.eq_false_iff.mpr c11
          subst c11; (have H1 : ((strings_HasPrefix.f a1 (⟨#[126, 47]⟩ : ByteArray)).bind fun t138 => (if t138 = true then (if 1 ≤ (a1.size : Int) then (if a0.size + (a1.extract 1 a1.size).size ≤ 9223372036854775807 then ((impl_GoodTopic.f kj2 (a0 ++ (a1.extract 1 a1.size))).bind fun t139 => (if t139 = true then (some (a0 ++ (a1.extract 1 a1.size))) else (some (⟨#[]⟩ : ByteArray)))) else (none)) else (none)) else ((strings_LastIndex.f kj2 a0 (⟨#[47]⟩ : ByteArray)).bind fun t140 => (if 0 ≤ (mx t140 0) then (if (mx t140 0) ≤ (a0.size : Int) then (if (a0.extract 0 ((mx t140 0) : Int).toNat).size + 1 ≤ 9223372036854775807 then (if ((a0.extract 0 ((mx t140 0) : Int).toNat) ++ (⟨#[47]⟩ : ByteArray)).size + a1.size ≤ 9223372036854775807 then ((impl_GoodTopic.f kj2 (((a0.extract 0 ((mx t140 0) : Int).toNat) ++ (⟨#[47]⟩ : ByteArray)) ++ a1)).bind fun t141 => (if t141 = true then (some (((a0.extract 0 ((mx t140 0) : Int).toNat) ++ (⟨#[47]⟩ : ByteArray)) ++ a1)) else (some (⟨#[]⟩ : ByteArray)))) else (none)) else (none)) else (none)) else (none))))) = some r := by rw [if_neg (show ¬ (false = true) by decide)] at H; exact H); clear H; have H := H1; clear H1; (replace H := Option.bind_eq_some_iff.mp H); (obtain ⟨t138, A160, H⟩ := H)
          (replace H : (if t138 = true then (if 1 ≤ (a1.size : Int) then (if a0.size + (a1.extract 1 a1.size).size ≤ 9223372036854775807 then ((impl_GoodTopic.f kj2 (a0 ++ (a1.extract 1 a1.size))).bind fun t139 => (if t139 = true then (some (a0 ++ (a1.extract 1 a1.size))) else (some (⟨#[]⟩ : ByteArray)))) else (none)) else (none)) else ((strings_LastIndex.f kj2 a0 (⟨#[47]⟩ : ByteArray)).bind fun t140 => (if 0 ≤ (mx t140 0) then (if (mx t140 0) ≤ (a0.size : Int) then (if (a0.extract 0 ((mx t140 0) : Int).toNat).size + 1 ≤ 9223372036854775807 then (if ((a0.extract 0 ((mx t140 0) : Int).toNat) ++ (⟨#[47]⟩ : ByteArray)).size + a1.size ≤ 9223372036854775807 then ((impl_GoodTopic.f kj2 (((a0.extract 0 ((mx t140 0) : Int).toNat) ++ (⟨#[47]⟩ : ByteArray)) ++ a1)).bind fun t141 => (if t141 = true then (some (((a0.extract 0 ((mx t140 0) : Int).toNat) ++ (⟨#[47]⟩ : ByteArray)) ++ a1)) else (some (⟨#[]⟩ : ByteArray)))) else (none)) else (none)) else (none)) else (none)))) = some r := H); (have A16 := Aside0.mk A160); clear A160
          by_cases c17 : t138 = true
          · subst c17
            (have H1 : (if 1 ≤ (a1.size : Int) then (if a0.size + (a1.extract 1 a1.size).size ≤ 9223372036854775807 then ((impl_GoodTopic.f kj2 (a0 ++ (a1.extract 1 a1.size))).bind fun t139 => (if t139 = true then (some (a0 ++ (a1.extract 1 a1.size))) else (some (⟨#[]⟩ : ByteArray)))) else (none)) else (none)) = some r := by rw [if_pos rfl] at H; exact H); clear H; have H := H1; clear H1
            by_cases c18 : 1 ≤ (a1.size : Int)
            · rw [if_pos c18] at H
              (have c18b0 := eq_true c18); (have c18b1 : decide (1 ≤ (a1.size : Int)) = true := decide_eq_true c18); clear c18
              by_cases c19 : a0.size + (a1.extract 1 a1.size).size ≤ 9223372036854775807
              · rw [if_pos c19] at H
                (have c19b0 := eq_true c19); (have c19b1 : decide (a0.size + (a1.extract 1 a1.size).size ≤ 9223372036854775807) = true := decide_eq_true c19)
                try have c19b2 : (9223372036854775807 < a0.size + (a1.extract 1 a1.size).size) = False := eq_false (Nat.not_lt.2 c19)
                (replace H := Option.bind_eq_some_iff.mp H); (obtain ⟨t139, A200, H⟩ := H); (replace H : (if t139 = true then (some (a0 ++ (a1.extract 1 a1.size))) else (some (⟨#[]⟩ : ByteArray))) = some r := H); (have A20 := Aside0.mk A200); clear A200
                by_cases c21 : t139 = true
                · subst c21
                  (have H1 : (some (a0 ++ (a1.extract 1 a1.size))) = some r := by rw [if_pos rfl] at H; exact H); clear H; have H := H1; clear H1; (obtain rfl := Option.some.inj H)
                  go_wp2_with (first | ((with_reducible refine gate_callee (f := 20) rfl ?_); refine goesL_ (some 27) rfl rfl Tryd.func20 (by kernel_rfl) rfl #[.string a1, .string (⟨#[47]⟩ : ByteArray)] rfl (by (try simp only [List.map_toArray, List.map_cons, List.map_nil]); first | done | rfl | (simp only [List.length_drop, List.length_take]; rfl)) ?_; (with_reducible refine (strings_HasPrefix.calls a1 (⟨#[47]⟩ : ByteArray) false _ A10.out).mono ?_); rintro e w' ⟨rfl, ⟨nd, rfl⟩⟩; refine ⟨_, rfl, ?_⟩) | ((with_reducible refine gate_callee (f := 20) rfl ?_); refine goesL_ (some 30) rfl rfl Tryd.func20 (by kernel_rfl) rfl #[.string a1, .string (⟨#[126, 47]⟩ : ByteArray)] rfl (by (try simp only [List.map_toArray, List.map_cons, List.map_nil]); first | done | rfl | (simp only [List.length_drop, List.length_take]; rfl)) ?_; (with_reducible refine (strings_HasPrefix.calls a1 (⟨#[126, 47]⟩ : ByteArray) true _ A16.out).mono ?_); rintro e w' ⟨rfl, ⟨nd, rfl⟩⟩; refine ⟨_, rfl, ?_⟩) | ((with_reducible refine gate_callee (f := 8) rfl ?_); refine goesL_ (some 36) rfl rfl Tryd.func8 (by kernel_rfl) rfl #[.string (a0 ++ (a1.extract 1 a1.size))] rfl (by (try simp only [List.map_toArray, List.map_cons, List.map_nil]); first | done | rfl | (simp only [List.length_drop, List.length_take]; rfl)) ?_; (with_reducible refine (impl_GoodTopic.calls kj2 (a0 ++ (a1.extract 1 a1.size)) true _ A20.out).mono ?_); rintro e w22 ⟨rfl, hb⟩; refine ⟨_, rfl, ?_⟩; have n0_ := Aside0.mk (below_step (by repeat (first | (with_reducible first | exact HB.out | apply below_alloc | apply pw_below_drewN | apply below_drew1) | exact HB.out)) hb); clear HB; have HB := n0_; clear n0_; (try clear hb); (try clear hb2); (try clear hk); (try clear hi)))
                  go_ret
                  exact ⟨by first | rfl | (simp [errW_none, errW_some] <;> rfl) | (simp [*, errW_none, errW_some] <;> rfl), by repeat (first | (with_reducible first | exact HB.out | apply below_alloc | apply pw_below_drewN | apply below_drew1) | exact HB.out)⟩
                · replace c21 := Bool.eq_false_iff.mpr c21
                  subst c21; (have H1 : (some (⟨#[]⟩ : ByteArray)) = some r := by rw [if_neg (show ¬ (false = true) by decide)] at H; exact H); clear H; have H := H1; clear H1; (obtain rfl := Option.some.inj H)
                  go_wp2_with (first | ((with_reducible refine gate_callee (f := 20) rfl ?_); refine goesL_ (some 27) rfl rfl Tryd.func20 (by kernel_rfl) rfl #[.string a1, .string (⟨#[47]⟩ : ByteArray)] rfl (by (try simp only [List.map_toArray, List.map_cons, List.map_nil]); first | done | rfl | (simp only [List.length_drop, List.length_take]; rfl)) ?_; (with_reducible refine (strings_HasPrefix.calls a1 (⟨#[47]⟩ : ByteArray) false _ A10.out).mono ?_); rintro e w' ⟨rfl, ⟨nd, rfl⟩⟩; refine ⟨_, rfl, ?_⟩) | ((with_reducible refine gate_callee (f := 20) rfl ?_); refine goesL_ (some 30) rfl rfl Tryd.func20 (by kernel_rfl) rfl #[.string a1, .string (⟨#[126, 47]⟩ : ByteArray)] rfl (by (try simp only [List.map_toArray, List.map_cons, List.map_nil]); first | done | rfl | (simp only [List.length_drop, List.length_take]; rfl)) ?_; (with_reducible refine (strings_HasPrefix.calls a1 (⟨#[126, 47]⟩ : ByteArray) true _ A16.out).mono ?_); rintro e w' ⟨rfl, ⟨nd, rfl⟩⟩; refine ⟨_, rfl, ?_⟩) | ((with_reducible refine gate_callee (f := 8) rfl ?_); refine goesL_ (some 36) rfl rfl Tryd.func8 (by kernel_rfl) rfl #[.string (a0 ++ (a1.extract 1 a1.size))] rfl (by (try simp only [List.map_toArray, List.map_cons, List.map_nil]); first | done | rfl | (simp only [List.length_drop, List.length_take]; rfl)) ?_; (with_reducible refine (impl_GoodTopic.calls kj2 (a0 ++ (a1.extract 1 a1.size)) false _ A20.out).mono ?_); rintro e w23 ⟨rfl, hb⟩; refine ⟨_, rfl, ?_⟩; have n0_ := Aside0.mk (below_step (by repeat (first | (with_reducible first | exact HB.out | apply below_alloc | apply pw_below_drewN | apply below_drew1) | exact HB.out)) hb); clear HB; have HB := n0_; clear n0_; (try clear hb); (try clear hb2); (try clear hk); (try clear hi)))
                  go_ret
                  exact ⟨by first | rfl | (simp [errW_none, errW_some] <;> rfl) | (simp [*, errW_none, errW_some] <;> rfl), by repeat (first | (with_reducible first | exact HB.out | apply below_alloc | apply pw_below_drewN | apply below_drew1) | exact HB.out)⟩
              · rw [if_neg c19] at H
                exact absurd H (by simp)
            · rw [if_neg c18] at H
              exact absurd H (by simp)
          · replace c17 := Bool.eq_false_iff.mpr c17
            subst c17; (have H1 : ((strings_LastIndex.f kj2 a0 (⟨#[47]⟩ : ByteArray)).bind fun t140 => (if 0 ≤ (mx t140 0) then (if (mx t140 0) ≤ (a0.size : Int) then (if (a0.extract 0 ((mx t140 0) : Int).toNat).size + 1 ≤ 9223372036854775807 then (if ((a0.extract 0 ((mx t140 0) : Int).toNat) ++ (⟨#[47]⟩ : ByteArray)).size + a1.size ≤ 9223372036854775807 then ((impl_GoodTopic.f kj2 (((a0.extract 0 ((mx t140 0) : Int).toNat) ++ (⟨#[47]⟩ : ByteArray)) ++ a1)).bind fun t141 => (if t141 = true then (some (((a0.extract 0 ((mx t140 0) : Int).toNat) ++ (⟨#[47]⟩ : ByteArray)) ++ a1)) else (some (⟨#[]⟩ : ByteArray)))) else (none)) else (none)) else (none)) else (none))) = some r := by rw [if_neg (show ¬ (false = true) by decide)] at H; exact H); clear H; have H := H1; clear H1; (replace H := Option.bind_eq_some_iff.mp H); (obtain ⟨t140, A240, H⟩ := H); (replace H : (if 0 ≤ (mx t140 0) then (if (mx t140 0) ≤ (a0.size : Int) then (if (a0.extract 0 ((mx t140 0) : Int).toNat).size + 1 ≤ 9223372036854775807 then (if ((a0.extract 0 ((mx t140 0) : Int).toNat) ++ (⟨#[47]⟩ : ByteArray)).size + a1.size ≤ 9223372036854775807 then ((impl_GoodTopic.f kj2 (((a0.extract 0 ((mx t140 0) : Int).toNat) ++ (⟨#[47]⟩ : ByteArray)) ++ a1)).bind fun t141 => (if t141 = true then (some (((a0.extract 0 ((mx t140 0) : Int).toNat) ++ (⟨#[47]⟩ : ByteArray)) ++ a1)) else (some (⟨#[]⟩ : ByteArray)))) else (none)) else (none)) else (none)) else (none)) = some r := H); (have A24 := Aside0.mk A240); clear A240
            (obtain ⟨ji25, hji25⟩ : ∃ j_ : Int, (mx t140 0) = j_ := ⟨_, rfl⟩); (replace H : (if 0 ≤ (ji25) then (if (ji25) ≤ (a0.size : Int) then (if (a0.extract 0 ((ji25) : Int).toNat).size + 1 ≤ 9223372036854775807 then (if ((a0.extract 0 ((ji25) : Int).toNat) ++ (⟨#[47]⟩ : ByteArray)).size + a1.size ≤ 9223372036854775807 then ((impl_GoodTopic.f kj2 (((a0.extract 0 ((ji25) : Int).toNat) ++ (⟨#[47]⟩ : ByteArray)) ++ a1)).bind fun t141 => (if t141 = true then (some (((a0.extract 0 ((ji25) : Int).toNat) ++ (⟨#[47]⟩ : ByteArray)) ++ a1)) else (some (⟨#[]⟩ : ByteArray)))) else (none)) else (none)) else (none)) else (none)) = some r := by first | (rw [hji25] at H; exact H) | (simp only [hji25] at H ⊢; exact H)); ((try rw [hji25] at A10)); ((try rw [hji25] at A16)); ((try rw [hji25] at A24)); ((try (have hji25l : 0 ≤ ji25 := by (rw [← hji25]; unfold mx; (repeat' split) <;> omega)))); ((try (have hji25m : 0 ≤ ji25 := by omega))); (have hji25_ : (if t140 < 0 then 0 else t140) = ji25 := hji25)
            by_cases c26 : 0 ≤ (ji25)
            · rw [if_pos c26] at H
              (have c26b0 := eq_true c26); (have c26b1 : decide (0 ≤ (ji25)) = true := decide_eq_true c26); clear c26
              by_cases c27 : (ji25) ≤ (a0.size : Int)
              · rw [if_pos c27] at H
                (have c27b0 := eq_true c27); (have c27b1 : decide ((ji25) ≤ (a0.size : Int)) = true := decide_eq_true c27); clear c27
                by_cases c28 : (a0.extract 0 ((ji25) : Int).toNat).size + 1 ≤ 9223372036854775807
                · rw [if_pos c28] at H
                  (have c28b0 := eq_true c28); (have c28b1 : decide ((a0.extract 0 ((ji25) : Int).toNat).size + 1 ≤ 9223372036854775807) = true := decide_eq_true c28)
                  try have c28b2 : (9223372036854775807 < (a0.extract 0 ((ji25) : Int).toNat).size + 1) = False := eq_false (Nat.not_lt.2 c28)
                  by_cases c29 : ((a0.extract 0 ((ji25) : Int).toNat) ++ (⟨#[47]⟩ : ByteArray)).size + a1.size ≤ 9223372036854775807
                  · rw [if_pos c29] at H
                    (have c29b0 := eq_true c29); (have c29b1 : decide (((a0.extract 0 ((ji25) : Int).toNat) ++ (⟨#[47]⟩ : ByteArray)).size + a1.size ≤ 9223372036854775807) = true := decide_eq_true c29)
                    try have c29b2 : (9223372036854775807 < ((a0.extract 0 ((ji25) : Int).toNat) ++ (⟨#[47]⟩ : ByteArray)).size + a1.size) = False := eq_false (Nat.not_lt.2 c29)
                    (replace H := Option.bind_eq_some_iff.mp H); (obtain ⟨t141, A300, H⟩ := H); (replace H : (if t141 = true then (some (((a0.extract 0 ((ji25) : Int).toNat) ++ (⟨#[47]⟩ : ByteArray)) ++ a1)) else (some (⟨#[]⟩ : ByteArray))) = some r := H); (have A30 := Aside0.mk A300); clear A300
                    by_cases c31 : t141 = true
                    · subst c31
                      (have H1 : (some (((a0.extract 0 ((ji25) : Int).toNat) ++ (⟨#[47]⟩ : ByteArray)) ++ a1)) = some r := by rw [if_pos rfl] at H; exact H); clear H; have H := H1; clear H1; (obtain rfl := Option.some.inj H); (have cx_ : (9223372036854775807 < (ji25 : Int).toNat + 1) = False := eq_false (by have h1_ := of_decide_eq_true c27b1; have h2_ := c28; rw [ByteArray.size_extract] at h2_; omega))
                      go_wp2_with (first | ((with_reducible refine gate_callee (f := 20) rfl ?_); refine goesL_ (some 27) rfl rfl Tryd.func20 (by kernel_rfl) rfl #[.string a1, .string (⟨#[47]⟩ : ByteArray)] rfl (by (try simp only [List.map_toArray, List.map_cons, List.map_nil]); first | done | rfl | (simp only [List.length_drop, List.length_take]; rfl)) ?_; (with_reducible refine (strings_HasPrefix.calls a1 (⟨#[47]⟩ : ByteArray) false _ A10.out).mono ?_); rintro e w' ⟨rfl, ⟨nd, rfl⟩⟩; refine ⟨_, rfl, ?_⟩) | ((with_reducible refine gate_callee (f := 20) rfl ?_); refine goesL_ (some 30) rfl rfl Tryd.func20 (by kernel_rfl) rfl #[.string a1, .string (⟨#[126, 47]⟩ : ByteArray)] rfl (by (try simp only [List.map_toArray, List.map_cons, List.map_nil]); first | done | rfl | (simp only [List.length_drop, List.length_take]; rfl)) ?_; (with_reducible refine (strings_HasPrefix.calls a1 (⟨#[126, 47]⟩ : ByteArray) false _ A16.out).mono ?_); rintro e w' ⟨rfl, ⟨nd, rfl⟩⟩; refine ⟨_, rfl, ?_⟩) | ((with_reducible refine gate_callee (f := 21) rfl ?_); refine goesL_ (some 19) rfl rfl Tryd.func21 (by kernel_rfl) rfl #[.string a0, .string (⟨#[47]⟩ : ByteArray)] rfl (by (try simp only [List.map_toArray, List.map_cons, List.map_nil]); first | done | rfl | (simp only [List.length_drop, List.length_take]; rfl)) ?_; (with_reducible refine (strings_LastIndex.calls kj2 a0 (⟨#[47]⟩ : ByteArray) t140 _ A24.out).mono ?_); rintro e w' ⟨rfl, ⟨nd, rfl⟩⟩; refine ⟨_, rfl, ?_⟩) | ((with_reducible refine gate_callee (f := 8) rfl ?_); refine goesL_ (some 36) rfl rfl Tryd.func8 (by kernel_rfl) rfl #[.string (((a0.extract 0 ((ji25) : Int).toNat) ++ (⟨#[47]⟩ : ByteArray)) ++ a1)] rfl (by (try simp only [List.map_toArray, List.map_cons, List.map_nil]); first | done | (simp only [hji25]; rfl) | rfl | (simp only [List.length_drop, List.length_take]; rfl)) ?_; (with_reducible refine (impl_GoodTopic.calls kj2 (((a0.extract 0 ((ji25) : Int).toNat) ++ (⟨#[47]⟩ : ByteArray)) ++ a1) true _ A30.out).mono ?_); rintro e w32 ⟨rfl, hb⟩; refine ⟨_, rfl, ?_⟩; have n0_ := Aside0.mk (below_step (by repeat (first | (with_reducible first | exact HB.out | apply below_alloc | apply pw_below_drewN | apply below_drew1) | exact HB.out)) hb); clear HB; have HB := n0_; clear n0_; (try clear hb); (try clear hb2); (try clear hk); (try clear hi)))
                      go_ret
                      exact ⟨by first | rfl | (simp [errW_none, errW_some] <;> rfl) | (simp only [← hji25]; first | rfl | (simp [errW_none, errW_some] <;> rfl)) | (simp [*, errW_none, errW_some] <;> rfl), by repeat (first | (with_reducible first | exact HB.out | apply below_alloc | apply pw_below_drewN | apply below_drew1) | exact HB.out)⟩
                    · replace c31 := Bool.eq_false_iff.mpr c31
                      subst c31; (have H1 : (some (⟨#[]⟩ : ByteArray)) = some r := by rw [if_neg (show ¬ (false = true) by decide)] at H; exact H); clear H; have H := H1; clear H1; (obtain rfl := Option.some.inj H); (have cx_ : (9223372036854775807 < (ji25 : Int).toNat + 1) = False := eq_false (by have h1_ := of_decide_eq_true c27b1; have h2_ := c28; rw [ByteArray.size_extract] at h2_; omega))
                      go_wp2_with (first | ((with_reducible refine gate_callee (f := 20) rfl ?_); refine goesL_ (some 27) rfl rfl Tryd.func20 (by kernel_rfl) rfl #[.string a1, .string (⟨#[47]⟩ : ByteArray)] rfl (by (try simp only [List.map_toArray, List.map_cons, List.map_nil]); first | done | rfl | (simp only [List.length_drop, List.length_take]; rfl)) ?_; (with_reducible refine (strings_HasPrefix.calls a1 (⟨#[47]⟩ : ByteArray) false _ A10.out).mono ?_); rintro e w' ⟨rfl, ⟨nd, rfl⟩⟩; refine ⟨_, rfl, ?_⟩) | ((with_reducible refine gate_callee (f := 20) rfl ?_); refine goesL_ (some 30) rfl rfl Tryd.func20 (by kernel_rfl) rfl #[.string a1, .string (⟨#[126, 47]⟩ : ByteArray)] rfl (by (try simp only [List.map_toArray, List.map_cons, List.map_nil]); first | done | rfl | (simp only [List.length_drop, List.length_take]; rfl)) ?_; (with_reducible refine (strings_HasPrefix.calls a1 (⟨#[126, 47]⟩ : ByteArray) false _ A16.out).mono ?_); rintro e w' ⟨rfl, ⟨nd, rfl⟩⟩; refine ⟨_, rfl, ?_⟩) | ((with_reducible refine gate_callee (f := 21) rfl ?_); refine goesL_ (some 19) rfl rfl Tryd.func21 (by kernel_rfl) rfl #[.string a0, .string (⟨#[47]⟩ : ByteArray)] rfl (by (try simp only [List.map_toArray, List.map_cons, List.map_nil]); first | done | rfl | (simp only [List.length_drop, List.length_take]; rfl)) ?_; (with_reducible refine (strings_LastIndex.calls kj2 a0 (⟨#[47]⟩ : ByteArray) t140 _ A24.out).mono ?_); rintro e w' ⟨rfl, ⟨nd, rfl⟩⟩; refine ⟨_, rfl, ?_⟩) | ((with_reducible refine gate_callee (f := 8) rfl ?_); refine goesL_ (some 36) rfl rfl Tryd.func8 (by kernel_rfl) rfl #[.string (((a0.extract 0 ((ji25) : Int).toNat) ++ (⟨#[47]⟩ : ByteArray)) ++ a1)] rfl (by (try simp only [List.map_toArray, List.map_cons, List.map_nil]); first | done | (simp only [hji25]; rfl) | rfl | (simp only [List.length_drop, List.length_take]; rfl)) ?_; (with_reducible refine (impl_GoodTopic.calls kj2 (((a0.extract 0 ((ji25) : Int).toNat) ++ (⟨#[47]⟩ : ByteArray)) ++ a1) false _ A30.out).mono ?_); rintro e w33 ⟨rfl, hb⟩; refine ⟨_, rfl, ?_⟩; have n0_ := Aside0.mk (below_step (by repeat (first | (with_reducible first | exact HB.out | apply below_alloc | apply pw_below_drewN | apply below_drew1) | exact HB.out)) hb); clear HB; have HB := n0_; clear n0_; (try clear hb); (try clear hb2); (try clear hk); (try clear hi)))
                      go_ret
                      exact ⟨by first | rfl | (simp [errW_none, errW_some] <;> rfl) | (simp only [← hji25]; first | rfl | (simp [errW_none, errW_some] <;> rfl)) | (simp [*, errW_none, errW_some] <;> rfl), by repeat (first | (with_reducible first | exact HB.out | apply below_alloc | apply pw_below_drewN | apply below_drew1) | exact HB.out)⟩
                  · rw [if_neg c29] at H
                    exact absurd H (by simp)
                · rw [if_neg c28] at H
                  exact absurd H (by simp)
              · rw [if_neg c27] at H
                exact absurd H (by simp)
            · rw [if_neg c26] at H
              exact absurd H (by simp)

end Go.Proofs.YtmlejakajcmbdaaDoor.PFnTopics
