-- Written by this session's own program for the law FnTopics; it began as the print's text.
import Derived.Test.YtmlejakajcmbdaaDoorQFnTopicsx0
import Derived.Test.YtmlejakajcmbdaaDoorQFnTopicsx1
namespace Go.Proofs.YtmlejakajcmbdaaDoor.PFnTopics
open Go.RowKit Go.Proofs.YtmlejakajcmbdaaDoorW.PrintWords Go.Proofs.YtmlejakajcmbdaaDoorW.PrintLast Go.Proofs.YtmlejakajcmbdaaDoorW.PrintMore
attribute [local go_sem] max2_int min2_int max_two min_two max_three min_three max_four min_four   -- for this text's walks alone
set_option linter.unusedVariables false
set_option linter.unusedSimpArgs false

/-! ### impl_GoodTopic: function 8 -/
mutual
def impl_GoodTopic.j0 : Nat → ByteArray → Bool → Option (Bool)
  | 0, _, _ => none
  | k + 1, x3, x18 => if x18 = true then (some false) else ((strings_Split.f k x3 (⟨#[47]⟩ : ByteArray)).bind fun t115 => (impl_GoodTopic.l0 k t115 (t115.length : Int) 0))
def impl_GoodTopic.l0 : Nat → List ByteArray → Int → Int → Option (Bool)
  | 0, _, _, _ => none
  | k + 1, x20, x21, x22 => if x22 < x21 then (if 0 ≤ x22 then (if x22 < (x20.length : Int) then ((impl_goodPart.f k (rdOf ByteArray.empty x20 x22)).bind fun t119 => (if t119 = true then (impl_GoodTopic.l0 k x20 x21 (wrap64 (x22 + 1))) else (some false))) else (none)) else (none)) else (some true)
end
def impl_GoodTopic.f (k : Nat) (a0 : ByteArray) : Option (Bool) := (strings_CutPrefix.f a0 (⟨#[47]⟩ : ByteArray)).bind fun bt113 => (if bt113.2 = true then (impl_GoodTopic.j0 k bt113.1 (decide ((a0.size : Int) > 60))) else (impl_GoodTopic.j0 k bt113.1 true))
theorem impl_GoodTopic.mono_l : ∀ k, (∀ y0 y1, LeO (impl_GoodTopic.j0 k y0 y1) (impl_GoodTopic.j0 (k + 1) y0 y1)) ∧ (∀ y0 y1 y2, LeO (impl_GoodTopic.l0 k y0 y1 y2) (impl_GoodTopic.l0 (k + 1) y0 y1 y2))
  | 0 => ⟨fun _ _ r h => by simp [impl_GoodTopic.j0] at h, fun _ _ _ r h => by simp [impl_GoodTopic.l0] at h⟩
  | k + 1 => by
    obtain ⟨ih0, ih1⟩ := impl_GoodTopic.mono_l k
    refine ⟨?_, ?_⟩
    · intro y0 y1
      unfold impl_GoodTopic.j0
      repeat' first
      | (with_reducible exact ih0 _ _)
      | (with_reducible exact ih1 _ _ _)
      | (with_reducible exact impl_goodPart.mono _ _)
      | (with_reducible exact strings_Split.mono _ _ _)
      | (with_reducible exact LeO.refl _)
      | (with_reducible exact LeO.none _)
      | (with_reducible refine LeO.ite ?_ ?_)
      | (with_reducible refine LeO.bind ?_ (fun _ => ?_))
      | exact ih0 _ _
      | exact ih1 _ _ _
      | exact impl_goodPart.mono _ _
      | exact strings_Split.mono _ _ _
      | exact LeO.none _
      | refine LeO.ite ?_ ?_
      | refine LeO.bind ?_ (fun _ => ?_)
    · intro y0 y1 y2
      unfold impl_GoodTopic.l0
      repeat' first
      | (with_reducible exact ih0 _ _)
      | (with_reducible exact ih1 _ _ _)
      | (with_reducible exact impl_goodPart.mono _ _)
      | (with_reducible exact strings_Split.mono _ _ _)
      | (with_reducible exact LeO.refl _)
      | (with_reducible exact LeO.none _)
      | (with_reducible refine LeO.ite ?_ ?_)
      | (with_reducible refine LeO.bind ?_ (fun _ => ?_))
      | exact ih0 _ _
      | exact ih1 _ _ _
      | exact impl_goodPart.mono _ _
      | exact strings_Split.mono _ _ _
      | exact LeO.none _
      | refine LeO.ite ?_ ?_
      | refine LeO.bind ?_ (fun _ => ?_)
theorem impl_GoodTopic.mono : ∀ a0 k, LeO (impl_GoodTopic.f k a0) (impl_GoodTopic.f (k + 1) a0) := by
  intro a0 k
  obtain ⟨ih0, ih1⟩ := impl_GoodTopic.mono_l k
  unfold impl_GoodTopic.f
  repeat' first
      | (with_reducible exact ih0 _ _)
      | (with_reducible exact ih1 _ _ _)
      | (with_reducible exact impl_goodPart.mono _ _)
      | (with_reducible exact strings_Split.mono _ _ _)
      | (with_reducible exact LeO.refl _)
      | (with_reducible exact LeO.none _)
      | (with_reducible refine LeO.ite ?_ ?_)
      | (with_reducible refine LeO.bind ?_ (fun _ => ?_))
      | exact ih0 _ _
      | exact ih1 _ _ _
      | exact impl_goodPart.mono _ _
      | exact strings_Split.mono _ _ _
      | exact LeO.none _
      | refine LeO.ite ?_ ?_
      | refine LeO.bind ?_ (fun _ => ?_)
set_option maxHeartbeats 8000000 in
set_option maxRecDepth 100000 in
theorem impl_GoodTopic.calls (k : Nat) (a0 : ByteArray) (r : Bool) (w : World) (h : impl_GoodTopic.f k a0 = some r) :
    Calls Tryd.prog 8 #[.string a0] w fun e w' => e = .returned (.bool r) ∧ Below w.heap.size w w' := by
  (have HB := Aside0.mk (Below.refl w.heap.size w)); (have H : ((strings_CutPrefix.f a0 (⟨#[47]⟩ : ByteArray)).bind fun bt113 => (if bt113.2 = true then (impl_GoodTopic.j0 k bt113.1 (decide ((a0.size : Int) > 60))) else (impl_GoodTopic.j0 k bt113.1 true))) = some r := h); clear h; (replace H := Option.bind_eq_some_iff.mp H); (obtain ⟨⟨t113, t114⟩, A20, H⟩ := H); (replace H : (if t114 = true then (impl_GoodTopic.j0 k t113 (decide ((a0.size : Int) > 60))) else (impl_GoodTopic.j0 k t113 true)) = some r := H); (have A2 := Aside0.mk A20); clear A20; (have HC3 := Aside0.mk H); clear H
  go_enter Tryd.func8, Tryd.ntmps8
  go_upto_region 2 with (first | ((with_reducible refine gate_callee (f := 17) rfl ?_); refine goesL_ (some 9) rfl rfl Tryd.func17 (by kernel_rfl) rfl #[.string a0, .string (⟨#[47]⟩ : ByteArray)] rfl (by (try simp only [List.map_toArray, List.map_cons, List.map_nil]); first | done | rfl | (simp only [List.length_drop, List.length_take]; rfl)) ?_; (with_reducible refine (strings_CutPrefix.calls a0 (⟨#[47]⟩ : ByteArray) t113 t114 _ A2.out).mono ?_); rintro e w' ⟨rfl, ⟨nd, rfl⟩⟩; refine ⟨_, rfl, ?_⟩))
  (try simp only [Act.put, List.setIfInBounds_toArray, List.set_cons_zero, List.set_cons_succ])
  go_cut [18] (fun v18 wc => ∃ (kq : Nat) (x18_2 : Bool), v18 = .bool x18_2 ∧ Aside0 (impl_GoodTopic.j0 kq t113 x18_2 = some r) ∧ Aside0 (kq ≤ k) ∧ Aside0 (Below w.heap.size w wc))
  case first =>
    have H := HC3.out; clear HC3
    by_cases c4 : t114 = true
    · subst c4
      (have H1 : (impl_GoodTopic.j0 k t113 (decide ((a0.size : Int) > 60))) = some r := by rw [if_pos rfl] at H; exact H); clear H; have H := H1; clear H1; (have H' := Aside0.mk H); clear H
      go_wp2
      go_meet
      case rel => exact ⟨_, (decide ((a0.size : Int) > 60)), (by first | rfl | (simp; done) | (simp [*]; done)), H', ⟨by first | omega | exact Nat.le_refl _⟩, ⟨by repeat (first | (with_reducible first | exact HB.out | apply below_alloc | apply pw_below_drewN | apply below_drew1) | exact HB.out)⟩⟩
    · replace c4 := Bool.eq_false_iff.mpr c4
      subst c4; (have H1 : (impl_GoodTopic.j0 k t113 true) = some r := by rw [if_neg (show ¬ (false = true) by decide)] at H; exact H); clear H; have H := H1; clear H1; (have H' := Aside0.mk H); clear H
      go_wp2
      go_meet
      case rel => exact ⟨_, (true), (by first | rfl | (simp; done) | (simp [*]; done)), H', ⟨by first | omega | exact Nat.le_refl _⟩, ⟨by repeat (first | (with_reducible first | exact HB.out | apply below_alloc | apply pw_below_drewN | apply below_drew1) | exact HB.out)⟩⟩
  case rest =>
    clear HC3; (try clear c1); (try clear p2); (try clear c4); (obtain ⟨kq, x18_2, rfl, HA, HJ2, HB⟩ := hcut)
    cases kq with
    | zero => exact absurd HA.out (by simp [impl_GoodTopic.j0])
    | succ kj2 =>
      have H := HA.out; clear HA; (simp only [impl_GoodTopic.j0] at H)
      by_cases c5 : x18_2 = true
      · subst c5
        (have H1 : (some false) = some r := by rw [if_pos rfl] at H; exact H); clear H; have H := H1; clear H1; (obtain rfl := Option.some.inj H)
        go_wp2
        go_ret
        exact ⟨by first | rfl | (simp [errW_none, errW_some] <;> rfl) | (simp [*, errW_none, errW_some] <;> rfl), by repeat (first | (with_reducible first | exact HB.out | apply below_alloc | apply pw_below_drewN | apply below_drew1) | exact HB.out)⟩
      · replace c5 := Bool.eq_false_iff.mpr c5
        subst c5; (have H1 : ((strings_Split.f kj2 t113 (⟨#[47]⟩ : ByteArray)).bind fun t115 => (impl_GoodTopic.l0 kj2 t115 (t115.length : Int) 0)) = some r := by rw [if_neg (show ¬ (false = true) by decide)] at H; exact H); clear H; have H := H1; clear H1; (replace H := Option.bind_eq_some_iff.mp H); (obtain ⟨t115, A60, H⟩ := H); (replace H : (impl_GoodTopic.l0 kj2 t115 (t115.length : Int) 0) = some r := H); (have A6 := Aside0.mk A60); clear A60; (have H' := Aside0.mk H); clear H
        go_wp2_with (first | ((with_reducible refine gate_callee (f := 18) rfl ?_); refine goesL_ (some 20) rfl rfl Tryd.func18 (by kernel_rfl) rfl #[.string t113, .string (⟨#[47]⟩ : ByteArray)] rfl (by (try simp only [List.map_toArray, List.map_cons, List.map_nil]); first | done | rfl | (simp only [List.length_drop, List.length_take]; rfl)) ?_; (with_reducible refine (strings_Split.calls kj2 t113 (⟨#[47]⟩ : ByteArray) t115 _ A6.out).mono ?_); rintro e w7 ⟨v116, rfl, ho0, hb⟩; refine ⟨_, rfl, ?_⟩; have n0_ := Aside0.mk (Kd.R_lower ho0 (below_size (by repeat (first | (with_reducible first | exact HB.out | apply below_alloc | apply pw_below_drewN | apply below_drew1) | exact HB.out)))); have n1_ := Aside0.mk (below_step (by repeat (first | (with_reducible first | exact HB.out | apply below_alloc | apply pw_below_drewN | apply below_drew1) | exact HB.out)) hb); clear HB; have HO117 := n0_; have HB := n1_; clear n0_ n1_; (try clear hb); (try clear hb2); (try clear hk); (try clear hi); (try clear ho0); obtain ⟨Ao8, co8, eo8⟩ := Kd.R_slice HO117.out; subst eo8))
        go_loopg [22] kj2 (fun kq v22 w' => ∃ (x22_2 : Int), v22 = .int .i64 x22_2 ∧ Aside0 (impl_GoodTopic.l0 kq t115 (t115.length : Int) x22_2 = some r) ∧ Aside0 (kq ≤ kj2) ∧ Aside0 (Kd.R Kd.string 9 w' w.heap.size (fun _ => True) (.slice Ao8 t115.length co8) t115) ∧ Aside0 (Below w.heap.size w w'))
        case atStart => exact ⟨(0), (by first | rfl | (simp; done) | (simp [*]; done)), H', ⟨Nat.le_refl _⟩, ⟨by exact HO117.out⟩, ⟨by repeat (first | (with_reducible first | exact HB.out | apply below_alloc | apply pw_below_drewN | apply below_drew1) | exact HB.out)⟩⟩
        case round =>
          clear H'; (try clear c1); (try clear p2); (try clear c4); (try clear c5); (try clear c8); (try clear p2); (obtain ⟨x22_2, rfl, HA, HK2, HO_20, HB⟩ := hrel)
          cases gk with
          | zero => exact absurd HA.out (by simp [impl_GoodTopic.l0])
          | succ k2 =>
            have H := HA.out; clear HA; (simp only [impl_GoodTopic.l0] at H)
            by_cases c9 : x22_2 < (t115.length : Int)
            · rw [if_pos c9] at H
              (have c9b0 : decide (x22_2 < (t115.length : Int)) = true := decide_eq_true c9); clear c9
              by_cases c10 : 0 ≤ x22_2
              · rw [if_pos c10] at H
                (have c10b0 : decide (0 ≤ x22_2) = true := decide_eq_true c10); clear c10
                by_cases c11 : x22_2 < (t115.length : Int)
                · rw [if_pos c11] at H
                  (have c11b0 : decide (x22_2 < (t115.length : Int)) = true := decide_eq_true c11); clear c11; (replace H := Option.bind_eq_some_iff.mp H); (obtain ⟨t119, A120, H⟩ := H); (replace H : (if t119 = true then (impl_GoodTopic.l0 k2 t115 (t115.length : Int) (wrap64 (x22_2 + 1))) else (some false)) = some r := H); (have A12 := Aside0.mk A120); clear A120
                  by_cases c13 : t119 = true
                  · subst c13
                    (have H1 : (impl_GoodTopic.l0 k2 t115 (t115.length : Int) (wrap64 (x22_2 + 1))) = some r := by rw [if_pos rfl] at H; exact H); clear H; have H := H1; clear H1; (have H' := Aside0.mk H); clear H; (have p118 : 0 ≤ (x22_2 : Int) := of_decide_eq_true (by first | (with_reducible assumption) | assumption)); (have q118 : x22_2 < (t115.length : Int) := of_decide_eq_true (by first | (with_reducible assumption) | assumption)); (obtain ⟨ad118, e118, hx118_0⟩ := Kd.at_string (Kd.R_reads' HO_20.out).2.2 x22_2 p118 q118)
                    cases e118
                    (replace p118 := eq_true p118); (replace q118 := eq_true q118)
                    go_wp2_with (first | ((with_reducible refine gate_callee (f := 19) rfl ?_); refine goesL_ (some 27) rfl rfl Tryd.func19 (by kernel_rfl) rfl #[.string (rdOf ByteArray.empty t115 x22_2)] rfl (by (try simp only [List.map_toArray, List.map_cons, List.map_nil]); first | done | rfl | (simp only [List.length_drop, List.length_take]; rfl)) ?_; (with_reducible refine (impl_goodPart.calls k2 (rdOf ByteArray.empty t115 x22_2) true _ A12.out).mono ?_); rintro e w' ⟨rfl, ⟨nd, rfl⟩⟩; refine ⟨_, rfl, ?_⟩))
                    go_roundg k2
                    case measure => have := HJ2.out; have := HK2.out; omega
                    case rel => exact ⟨(wrap64 (x22_2 + 1)), (by first | rfl | (simp; done) | (simp [*]; done)), H', ⟨by have := HJ2.out; have := HK2.out; omega⟩, ⟨by exact HO_20.out⟩, ⟨by repeat (first | (with_reducible first | exact HB.out | apply below_alloc | apply pw_below_drewN | apply below_drew1) | exact HB.out)⟩⟩
                  · replace c13 := Bool.eq_false_iff.mpr c13
                    subst c13; (have H1 : (some false) = some r := by rw [if_neg (show ¬ (false = true) by decide)] at H; exact H); clear H; have H := H1; clear H1; (obtain rfl := Option.some.inj H); (have p118 : 0 ≤ (x22_2 : Int) := of_decide_eq_true (by first | (with_reducible assumption) | assumption)); (have q118 : x22_2 < (t115.length : Int) := of_decide_eq_true (by first | (with_reducible assumption) | assumption)); (obtain ⟨ad118, e118, hx118_0⟩ := Kd.at_string (Kd.R_reads' HO_20.out).2.2 x22_2 p118 q118)
                    cases e118
                    (replace p118 := eq_true p118); (replace q118 := eq_true q118)
                    go_wp2_with (first | ((with_reducible refine gate_callee (f := 19) rfl ?_); refine goesL_ (some 27) rfl rfl Tryd.func19 (by kernel_rfl) rfl #[.string (rdOf ByteArray.empty t115 x22_2)] rfl (by (try simp only [List.map_toArray, List.map_cons, List.map_nil]); first | done | rfl | (simp only [List.length_drop, List.length_take]; rfl)) ?_; (with_reducible refine (impl_goodPart.calls k2 (rdOf ByteArray.empty t115 x22_2) false _ A12.out).mono ?_); rintro e w' ⟨rfl, ⟨nd, rfl⟩⟩; refine ⟨_, rfl, ?_⟩))
                    go_ret
                    exact ⟨by first | rfl | (simp [errW_none, errW_some] <;> rfl) | (simp [*, errW_none, errW_some] <;> rfl), by repeat (first | (with_reducible first | exact HB.out | apply below_alloc | apply pw_below_drewN | apply below_drew1) | exact HB.out)⟩
                · rw [if_neg c11] at H
                  exact absurd H (by simp)
              · rw [if_neg c10] at H
                exact absurd H (by simp)
            · rw [if_neg c9] at H
              (have c9b0 : decide (x22_2 < (t115.length : Int)) = false := decide_eq_false c9); clear c9; (obtain rfl := Option.some.inj H)
              go_wp2
              go_ret
              exact ⟨by first | rfl | (simp [errW_none, errW_some] <;> rfl) | (simp [*, errW_none, errW_some] <;> rfl), by repeat (first | (with_reducible first | exact HB.out | apply below_alloc | apply pw_below_drewN | apply below_drew1) | exact HB.out)⟩

/-! ### spec_l24Part: function 16 -/
mutual
def spec_l24Part.j0 : Nat → ByteArray → Bool → Option (Bool)
  | 0, _, _ => none
  | k + 1, x0, x22 => if x22 = true then (some false) else (spec_l24Part.l0 k x0 0)
def spec_l24Part.l0 : Nat → ByteArray → Int → Option (Bool)
  | 0, _, _ => none
  | k + 1, x0, x3 => if x3 < (x0.size : Int) then (if 0 ≤ x3 then (if (bt x0 x3) ≥ 97 then (if (bt x0 x3) ≤ 122 then (spec_l24Part.l0 k x0 (wrap64 (x3 + 1))) else (if (bt x0 x3) ≥ 48 then (if (bt x0 x3) ≤ 57 then (spec_l24Part.l0 k x0 (wrap64 (x3 + 1))) else (if ((bt x0 x3) = 95) then (spec_l24Part.l0 k x0 (wrap64 (x3 + 1))) else (some false))) else (if ((bt x0 x3) = 95) then (spec_l24Part.l0 k x0 (wrap64 (x3 + 1))) else (some false)))) else (if (bt x0 x3) ≥ 48 then (if (bt x0 x3) ≤ 57 then (spec_l24Part.l0 k x0 (wrap64 (x3 + 1))) else (if ((bt x0 x3) = 95) then (spec_l24Part.l0 k x0 (wrap64 (x3 + 1))) else (some false))) else (if ((bt x0 x3) = 95) then (spec_l24Part.l0 k x0 (wrap64 (x3 + 1))) else (some false)))) else (none)) else (some true)
end
def spec_l24Part.f (k : Nat) (a0 : ByteArray) : Option (Bool) := if (a0.size : Int) < 1 then (spec_l24Part.j0 k a0 true) else (if (a0.size : Int) > 20 then (spec_l24Part.j0 k a0 true) else (if 0 < (a0.size : Int) then (if (bt a0 0) < 97 then (spec_l24Part.j0 k a0 true) else (spec_l24Part.j0 k a0 (decide ((bt a0 0) > 122)))) else (none)))
theorem spec_l24Part.mono_l : ∀ k, (∀ y0 y1, LeO (spec_l24Part.j0 k y0 y1) (spec_l24Part.j0 (k + 1) y0 y1)) ∧ (∀ y0 y1, LeO (spec_l24Part.l0 k y0 y1) (spec_l24Part.l0 (k + 1) y0 y1))
  | 0 => ⟨fun _ _ r h => by simp [spec_l24Part.j0] at h, fun _ _ r h => by simp [spec_l24Part.l0] at h⟩
  | k + 1 => by
    obtain ⟨ih0, ih1⟩ := spec_l24Part.mono_l k
    refine ⟨?_, ?_⟩
    · intro y0 y1
      unfold spec_l24Part.j0
      repeat' first
      | (with_reducible exact ih0 _ _)
      | (with_reducible exact ih1 _ _)
      | (with_reducible exact LeO.refl _)
      | (with_reducible exact LeO.none _)
      | (with_reducible refine LeO.ite ?_ ?_)
      | (with_reducible refine LeO.bind ?_ (fun _ => ?_))
      | exact ih0 _ _
      | exact ih1 _ _
      | exact LeO.none _
      | refine LeO.ite ?_ ?_
      | refine LeO.bind ?_ (fun _ => ?_)
    · intro y0 y1
      unfold spec_l24Part.l0
      repeat' first
      | (with_reducible exact ih0 _ _)
      | (with_reducible exact ih1 _ _)
      | (with_reducible exact LeO.refl _)
      | (with_reducible exact LeO.none _)
      | (with_reducible refine LeO.ite ?_ ?_)
      | (with_reducible refine LeO.bind ?_ (fun _ => ?_))
      | exact ih0 _ _
      | exact ih1 _ _
      | exact LeO.none _
      | refine LeO.ite ?_ ?_
      | refine LeO.bind ?_ (fun _ => ?_)
theorem spec_l24Part.mono : ∀ a0 k, LeO (spec_l24Part.f k a0) (spec_l24Part.f (k + 1) a0) := by
  intro a0 k
  obtain ⟨ih0, ih1⟩ := spec_l24Part.mono_l k
  unfold spec_l24Part.f
  repeat' first
      | (with_reducible exact ih0 _ _)
      | (with_reducible exact ih1 _ _)
      | (with_reducible exact LeO.refl _)
      | (with_reducible exact LeO.none _)
      | (with_reducible refine LeO.ite ?_ ?_)
      | (with_reducible refine LeO.bind ?_ (fun _ => ?_))
      | exact ih0 _ _
      | exact ih1 _ _
      | exact LeO.none _
      | refine LeO.ite ?_ ?_
      | refine LeO.bind ?_ (fun _ => ?_)
set_option maxHeartbeats 8000000 in
set_option maxRecDepth 100000 in
theorem spec_l24Part.calls (k : Nat) (a0 : ByteArray) (r : Bool) (w : World) (h : spec_l24Part.f k a0 = some r) :
    Calls Tryd.prog 16 #[.string a0] w fun e w' => e = .returned (.bool r) ∧ Drawn0 w w' := by
  (have H : (if (a0.size : Int) < 1 then (spec_l24Part.j0 k a0 true) else (if (a0.size : Int) > 20 then (spec_l24Part.j0 k a0 true) else (if 0 < (a0.size : Int) then (if (bt a0 0) < 97 then (spec_l24Part.j0 k a0 true) else (spec_l24Part.j0 k a0 (decide ((bt a0 0) > 122)))) else (none)))) = some r := h); clear h; (have HC2 := Aside0.mk H); clear H
  go_enter Tryd.func16, Tryd.ntmps16
  go_upto_region 1 with (fail)
  go_cut [22] (fun v22 wc => ∃ (kq : Nat) (x22_1 : Bool), v22 = .bool x22_1 ∧ Aside0 (spec_l24Part.j0 kq a0 x22_1 = some r) ∧ Aside0 (kq ≤ k) ∧ Drawn0 w wc)
  case first =>
    have H := HC2.out; clear HC2
    by_cases c3 : (a0.size : Int) < 1
    · rw [if_pos c3] at H
      (have c3b0 : decide ((a0.size : Int) < 1) = true := decide_eq_true c3); (have c3b1 : decide (a0.size < 1) = true := decide_eq_true (by omega)); clear c3
      (first | rw [c3b0] | (simp only [i64_w, i32_w]; rw [c3b0]) | skip)
      (have H' := Aside0.mk H); clear H
      go_wp2
      go_meet
      case rel => exact ⟨_, (true), (by first | rfl | (simp; done) | (simp [*]; done)), H', ⟨by first | omega | exact Nat.le_refl _⟩, by repeat (first | exact Drawn0.refl _ | apply Drawn0.step)⟩
    · rw [if_neg c3] at H
      (have c3b0 : decide ((a0.size : Int) < 1) = false := decide_eq_false c3); (have c3b1 : decide (a0.size < 1) = false := decide_eq_false (by omega)); clear c3
      (first | rw [c3b0] | (simp only [i64_w, i32_w]; rw [c3b0]) | skip)
      by_cases c4 : (a0.size : Int) > 20
      · rw [if_pos c4] at H
        (have c4b0 : decide (20 < (a0.size : Int)) = true := decide_eq_true c4); (have c4b1 : decide (20 < a0.size) = true := decide_eq_true (by omega)); clear c4; (have H' := Aside0.mk H); clear H
        go_wp2
        go_meet
        case rel => exact ⟨_, (true), (by first | rfl | (simp; done) | (simp [*]; done)), H', ⟨by first | omega | exact Nat.le_refl _⟩, by repeat (first | exact Drawn0.refl _ | apply Drawn0.step)⟩
      · rw [if_neg c4] at H
        (have c4b0 : decide (20 < (a0.size : Int)) = false := decide_eq_false c4); (have c4b1 : decide (20 < a0.size) = false := decide_eq_false (by omega)); clear c4
        by_cases c5 : 0 < (a0.size : Int)
        · rw [if_pos c5] at H
          (have c5b0 : decide (0 < (a0.size : Int)) = true := decide_eq_true c5); (have c5b1 : decide (0 < a0.size) = true := decide_eq_true (by omega)); clear c5
          by_cases c7 : (bt a0 0) < 97
          · rw [if_pos c7] at H
            (have c7b0 : decide ((bt a0 0) < 97) = true := decide_eq_true c7); clear c7; (have H' := Aside0.mk H); clear H; (have p6 : 0 ≤ (0 : Int) := (by omega)); (have q6 : 0 < a0.size := (by have : (0 : Int) < (a0.size : Int) := of_decide_eq_true (by first | (with_reducible assumption) | assumption); omega)); (have hx6 : ∀ h : 0 < a0.size, ((a0[0]'h).toNat : Int) = bt a0 0 := bt_at a0 0); clear p6; (have qi6 : (0 < (a0.size : Int)) = True := eq_true (of_decide_eq_true (by first | (with_reducible assumption) | assumption))); (replace q6 := eq_true q6)
            go_wp2
            go_meet
            case rel => exact ⟨_, (true), (by first | rfl | (simp; done) | (simp [*]; done)), H', ⟨by first | omega | exact Nat.le_refl _⟩, by repeat (first | exact Drawn0.refl _ | apply Drawn0.step)⟩
          · rw [if_neg c7] at H
            (have c7b0 : decide ((bt a0 0) < 97) = false := decide_eq_false c7); clear c7; (have H' := Aside0.mk H); clear H; (have p6 : 0 ≤ (0 : Int) := (by omega)); (have q6 : 0 < a0.size := (by have : (0 : Int) < (a0.size : Int) := of_decide_eq_true (by first | (with_reducible assumption) | assumption); omega)); (have hx6 : ∀ h : 0 < a0.size, ((a0[0]'h).toNat : Int) = bt a0 0 := bt_at a0 0); clear p6; (have qi6 : (0 < (a0.size : Int)) = True := eq_true (of_decide_eq_true (by first | (with_reducible assumption) | assumption))); (replace q6 := eq_true q6); (have p8 : 0 ≤ (0 : Int) := (by omega)); (have q8 : 0 < a0.size := (by have : (0 : Int) < (a0.size : Int) := of_decide_eq_true (by first | (with_reducible assumption) | assumption); omega)); (have hx8 : ∀ h : 0 < a0.size, ((a0[0]'h).toNat : Int) = bt a0 0 := bt_at a0 0); clear p8; (have qi8 : (0 < (a0.size : Int)) = True := eq_true (of_decide_eq_true (by first | (with_reducible assumption) | assumption))); (replace q8 := eq_true q8)
            go_wp2
            go_meet
            case rel => exact ⟨_, (decide ((bt a0 0) > 122)), (by first | rfl | (simp; done) | (simp [*]; done)), H', ⟨by first | omega | exact Nat.le_refl _⟩, by repeat (first | exact Drawn0.refl _ | apply Drawn0.step)⟩
        · rw [if_neg c5] at H
          exact absurd H (by simp)
  case rest =>
    clear HC2; (try clear c1); (try clear p2); (try clear c3); (try clear c3b0); (try clear c3b1); (try clear c4); (try clear c4b0); (try clear c4b1); (try clear c5); (try clear c5b0); (try clear c5b1); (try clear p6); (try clear q6); (try clear hx6); (try clear qi6); (try clear c7); (try clear c7b0); (try clear p8); (try clear q8); (try clear hx8); (try clear qi8); (try clear p6); (try clear p8); (try clear q6); (try clear q8); (obtain ⟨kq, x22_1, rfl, HA, HJ1, ⟨mc1, rfl⟩⟩ := hcut)
    cases kq with
    | zero => exact absurd HA.out (by simp [spec_l24Part.j0])
    | succ kj1 =>
      have H := HA.out; clear HA; (simp only [spec_l24Part.j0] at H)
      by_cases c9 : x22_1 = true
      · subst c9
        (have H1 : (some false) = some r := by rw [if_pos rfl] at H; exact H); clear H; have H := H1; clear H1; (obtain rfl := Option.some.inj H)
        go_wp2
        go_ret
        exact ⟨by first | rfl | (simp; done) | (simp [*]; done), by repeat (first | exact Drawn0.refl _ | apply Drawn0.step)⟩
      · replace c9 := Bool.eq_false_iff.mpr c9
        subst c9; (have H1 : (spec_l24Part.l0 kj1 a0 0) = some r := by rw [if_neg (show ¬ (false = true) by decide)] at H; exact H); clear H; have H := H1; clear H1; (have H' := Aside0.mk H); clear H
        go_wp2
        go_loopg [3] kj1 (fun kq v3 w' => ∃ (x3_2 : Int), v3 = .int .i64 x3_2 ∧ Aside0 (spec_l24Part.l0 kq a0 x3_2 = some r) ∧ Aside0 (kq ≤ kj1) ∧ Drawn0 w w')
        case atStart => exact ⟨(0), (by first | rfl | (simp; done) | (simp [*]; done)), H', ⟨Nat.le_refl _⟩, by repeat (first | exact Drawn0.refl _ | apply Drawn0.step)⟩
        case round =>
          clear H'; (try clear c1); (try clear p2); (try clear c3); (try clear c3b0); (try clear c3b1); (try clear c4); (try clear c4b0); (try clear c4b1); (try clear c5); (try clear c5b0); (try clear c5b1); (try clear p6); (try clear q6); (try clear hx6); (try clear qi6); (try clear c7); (try clear c7b0); (try clear p8); (try clear q8); (try clear hx8); (try clear qi8); (try clear c9); (try clear p2); (try clear p6); (try clear p8); (try clear q6); (try clear q8); (obtain ⟨x3_2, rfl, HA, HK2, ⟨m2, rfl⟩⟩ := hrel)
          cases gk with
          | zero => exact absurd HA.out (by simp [spec_l24Part.l0])
          | succ k2 =>
            have H := HA.out; clear HA; (simp only [spec_l24Part.l0] at H)
            by_cases c10 : x3_2 < (a0.size : Int)
            · rw [if_pos c10] at H
              (have c10b0 : decide (x3_2 < (a0.size : Int)) = true := decide_eq_true c10); clear c10
              by_cases c11 : 0 ≤ x3_2
              · rw [if_pos c11] at H
                (have c11b0 : decide (0 ≤ x3_2) = true := decide_eq_true c11); clear c11
                by_cases c13 : (bt a0 x3_2) ≥ 97
                · rw [if_pos c13] at H
                  (have c13b0 : decide (97 ≤ (bt a0 x3_2)) = true := decide_eq_true c13); clear c13
                  by_cases c14 : (bt a0 x3_2) ≤ 122
                  · rw [if_pos c14] at H
                    (have c14b0 : decide ((bt a0 x3_2) ≤ 122) = true := decide_eq_true c14); clear c14; (have H' := Aside0.mk H); clear H; (have p12 : 0 ≤ (x3_2 : Int) := of_decide_eq_true (by first | (with_reducible assumption) | assumption)); (have q12 : x3_2 < (a0.size : Int) := of_decide_eq_true (by first | (with_reducible assumption) | assumption)); (have hx12 := bt_at a0 x3_2); (replace p12 := eq_true p12); (replace q12 := eq_true q12)
                    go_wp2
                    go_roundg k2
                    case measure => have := HJ1.out; have := HK2.out; omega
                    case rel => exact ⟨(wrap64 (x3_2 + 1)), (by first | rfl | (simp; done) | (simp [*]; done)), H', ⟨by have := HJ1.out; have := HK2.out; omega⟩, by repeat (first | exact Drawn0.refl _ | apply Drawn0.step)⟩
                  · rw [if_neg c14] at H
                    (have c14b0 : decide ((bt a0 x3_2) ≤ 122) = false := decide_eq_false c14); clear c14
                    by_cases c15 : (bt a0 x3_2) ≥ 48
                    · rw [if_pos c15] at H
                      (have c15b0 : decide (48 ≤ (bt a0 x3_2)) = true := decide_eq_true c15); clear c15
                      by_cases c16 : (bt a0 x3_2) ≤ 57
                      · rw [if_pos c16] at H
                        (have c16b0 : decide ((bt a0 x3_2) ≤ 57) = true := decide_eq_true c16); clear c16; (have H' := Aside0.mk H); clear H; (have p12 : 0 ≤ (x3_2 : Int) := of_decide_eq_true (by first | (with_reducible assumption) | assumption)); (have q12 : x3_2 < (a0.size : Int) := of_decide_eq_true (by first | (with_reducible assumption) | assumption)); (have hx12 := bt_at a0 x3_2); (replace p12 := eq_true p12); (replace q12 := eq_true q12)
                        go_wp2
                        go_roundg k2
                        case measure => have := HJ1.out; have := HK2.out; omega
                        case rel => exact ⟨(wrap64 (x3_2 + 1)), (by first | rfl | (simp; done) | (simp [*]; done)), H', ⟨by have := HJ1.out; have := HK2.out; omega⟩, by repeat (first | exact Drawn0.refl _ | apply Drawn0.step)⟩
                      · rw [if_neg c16] at H
                        (have c16b0 : decide ((bt a0 x3_2) ≤ 57) = false := decide_eq_false c16); clear c16
                        by_cases c17 : ((bt a0 x3_2) = 95)
                        · rw [if_pos c17] at H
                          (have c17b0 : ((bt a0 x3_2) == 95) = true := beq_iff_eq.mpr c17); (have c17b1 : ((bt a0 x3_2) != 95) = false := bne_eq_false_iff_eq.mpr c17); clear c17; (have H' := Aside0.mk H); clear H; (have p12 : 0 ≤ (x3_2 : Int) := of_decide_eq_true (by first | (with_reducible assumption) | assumption)); (have q12 : x3_2 < (a0.size : Int) := of_decide_eq_true (by first | (with_reducible assumption) | assumption)); (have hx12 := bt_at a0 x3_2); (replace p12 := eq_true p12); (replace q12 := eq_true q12)
                          go_wp2
                          go_roundg k2
                          case measure => have := HJ1.out; have := HK2.out; omega
                          case rel => exact ⟨(wrap64 (x3_2 + 1)), (by first | rfl | (simp; done) | (simp [*]; done)), H', ⟨by have := HJ1.out; have := HK2.out; omega⟩, by repeat (first | exact Drawn0.refl _ | apply Drawn0.step)⟩
                        · rw [if_neg c17] at H
                          (have c17b0 : ((bt a0 x3_2) == 95) = false := beq_eq_false_iff_ne.mpr c17); (have c17b1 : ((bt a0 x3_2) != 95) = true := bne_iff_ne.mpr c17); (obtain rfl := Option.some.inj H); (have p12 : 0 ≤ (x3_2 : Int) := of_decide_eq_true (by first | (with_reducible assumption) | assumption)); (have q12 : x3_2 < (a0.size : Int) := of_decide_eq_true (by first | (with_reducible assumption) | assumption)); (have hx12 := bt_at a0 x3_2); (replace p12 := eq_true p12); (replace q12 := eq_true q12)
                          go_wp2
                          go_ret
                          exact ⟨by first | rfl | (simp; done) | (simp [*]; done), by repeat (first | exact Drawn0.refl _ | apply Drawn0.step)⟩
                    · rw [if_neg c15] at H
                      (have c15b0 : decide (48 ≤ (bt a0 x3_2)) = false := decide_eq_false c15); clear c15
                      by_cases c18 : ((bt a0 x3_2) = 95)
                      · rw [if_pos c18] at H
                        (have c18b0 : ((bt a0 x3_2) == 95) = true := beq_iff_eq.mpr c18); (have c18b1 : ((bt a0 x3_2) != 95) = false := bne_eq_false_iff_eq.mpr c18); clear c18; (have H' := Aside0.mk H); clear H; (have p12 : 0 ≤ (x3_2 : Int) := of_decide_eq_true (by first | (with_reducible assumption) | assumption)); (have q12 : x3_2 < (a0.size : Int) := of_decide_eq_true (by first | (with_reducible assumption) | assumption)); (have hx12 := bt_at a0 x3_2); (replace p12 := eq_true p12); (replace q12 := eq_true q12)
                        go_wp2
                        go_roundg k2
                        case measure => have := HJ1.out; have := HK2.out; omega
                        case rel => exact ⟨(wrap64 (x3_2 + 1)), (by first | rfl | (simp; done) | (simp [*]; done)), H', ⟨by have := HJ1.out; have := HK2.out; omega⟩, by repeat (first | exact Drawn0.refl _ | apply Drawn0.step)⟩
                      · rw [if_neg c18] at H
                        (have c18b0 : ((bt a0 x3_2) == 95) = false := beq_eq_false_iff_ne.mpr c18); (have c18b1 : ((bt a0 x3_2) != 95) = true := bne_iff_ne.mpr c18); (obtain rfl := Option.some.inj H); (have p12 : 0 ≤ (x3_2 : Int) := of_decide_eq_true (by first | (with_reducible assumption) | assumption)); (have q12 : x3_2 < (a0.size : Int) := of_decide_eq_true (by first | (with_reducible assumption) | assumption)); (have hx12 := bt_at a0 x3_2); (replace p12 := eq_true p12); (replace q12 := eq_true q12)
                        go_wp2
                        go_ret
                        exact ⟨by first | rfl | (simp; done) | (simp [*]; done), by repeat (first | exact Drawn0.refl _ | apply Drawn0.step)⟩
                · rw [if_neg c13] at H
                  (have c13b0 : decide (97 ≤ (bt a0 x3_2)) = false := decide_eq_false c13); clear c13
                  by_cases c19 : (bt a0 x3_2) ≥ 48
                  · rw [if_pos c19] at H
                    (have c19b0 : decide (48 ≤ (bt a0 x3_2)) = true := decide_eq_true c19); clear c19
                    by_cases c20 : (bt a0 x3_2) ≤ 57
                    · rw [if_pos c20] at H
                      (have c20b0 : decide ((bt a0 x3_2) ≤ 57) = true := decide_eq_true c20); clear c20; (have H' := Aside0.mk H); clear H; (have p12 : 0 ≤ (x3_2 : Int) := of_decide_eq_true (by first | (with_reducible assumption) | assumption)); (have q12 : x3_2 < (a0.size : Int) := of_decide_eq_true (by first | (with_reducible assumption) | assumption)); (have hx12 := bt_at a0 x3_2); (replace p12 := eq_true p12); (replace q12 := eq_true q12)
                      go_wp2
                      go_roundg k2
                      case measure => have := HJ1.out; have := HK2.out; omega
                      case rel => exact ⟨(wrap64 (x3_2 + 1)), (by first | rfl | (simp; done) | (simp [*]; done)), H', ⟨by have := HJ1.out; have := HK2.out; omega⟩, by repeat (first | exact Drawn0.refl _ | apply Drawn0.step)⟩
                    · rw [if_neg c20] at H
                      (have c20b0 : decide ((bt a0 x3_2) ≤ 57) = false := decide_eq_false c20); clear c20
                      by_cases c21 : ((bt a0 x3_2) = 95)
                      · rw [if_pos c21] at H
                        (have c21b0 : ((bt a0 x3_2) == 95) = true := beq_iff_eq.mpr c21); (have c21b1 : ((bt a0 x3_2) != 95) = false := bne_eq_false_iff_eq.mpr c21); clear c21; (have H' := Aside0.mk H); clear H; (have p12 : 0 ≤ (x3_2 : Int) := of_decide_eq_true (by first | (with_reducible assumption) | assumption)); (have q12 : x3_2 < (a0.size : Int) := of_decide_eq_true (by first | (with_reducible assumption) | assumption)); (have hx12 := bt_at a0 x3_2); (replace p12 := eq_true p12); (replace q12 := eq_true q12)
                        go_wp2
                        go_roundg k2
                        case measure => have := HJ1.out; have := HK2.out; omega
                        case rel => exact ⟨(wrap64 (x3_2 + 1)), (by first | rfl | (simp; done) | (simp [*]; done)), H', ⟨by have := HJ1.out; have := HK2.out; omega⟩, by repeat (first | exact Drawn0.refl _ | apply Drawn0.step)⟩
                      · rw [if_neg c21] at H
                        (have c21b0 : ((bt a0 x3_2) == 95) = false := beq_eq_false_iff_ne.mpr c21); (have c21b1 : ((bt a0 x3_2) != 95) = true := bne_iff_ne.mpr c21); (obtain rfl := Option.some.inj H); (have p12 : 0 ≤ (x3_2 : Int) := of_decide_eq_true (by first | (with_reducible assumption) | assumption)); (have q12 : x3_2 < (a0.size : Int) := of_decide_eq_true (by first | (with_reducible assumption) | assumption)); (have hx12 := bt_at a0 x3_2); (replace p12 := eq_true p12); (replace q12 := eq_true q12)
                        go_wp2
                        go_ret
                        exact ⟨by first | rfl | (simp; done) | (simp [*]; done), by repeat (first | exact Drawn0.refl _ | apply Drawn0.step)⟩
                  · rw [if_neg c19] at H
                    (have c19b0 : decide (48 ≤ (bt a0 x3_2)) = false := decide_eq_false c19); clear c19
                    by_cases c22 : ((bt a0 x3_2) = 95)
                    · rw [if_pos c22] at H
                      (have c22b0 : ((bt a0 x3_2) == 95) = true := beq_iff_eq.mpr c22); (have c22b1 : ((bt a0 x3_2) != 95) = false := bne_eq_false_iff_eq.mpr c22); clear c22; (have H' := Aside0.mk H); clear H; (have p12 : 0 ≤ (x3_2 : Int) := of_decide_eq_true (by first | (with_reducible assumption) | assumption)); (have q12 : x3_2 < (a0.size : Int) := of_decide_eq_true (by first | (with_reducible assumption) | assumption)); (have hx12 := bt_at a0 x3_2); (replace p12 := eq_true p12); (replace q12 := eq_true q12)
                      go_wp2
                      go_roundg k2
                      case measure => have := HJ1.out; have := HK2.out; omega
                      case rel => exact ⟨(wrap64 (x3_2 + 1)), (by first | rfl | (simp; done) | (simp [*]; done)), H', ⟨by have := HJ1.out; have := HK2.out; omega⟩, by repeat (first | exact Drawn0.refl _ | apply Drawn0.step)⟩
                    · rw [if_neg c22] at H
                      (have c22b0 : ((bt a0 x3_2) == 95) = false := beq_eq_false_iff_ne.mpr c22); (have c22b1 : ((bt a0 x3_2) != 95) = true := bne_iff_ne.mpr c22); (obtain rfl := Option.some.inj H); (have p12 : 0 ≤ (x3_2 : Int) := of_decide_eq_true (by first | (with_reducible assumption) | assumption)); (have q12 : x3_2 < (a0.size : Int) := of_decide_eq_true (by first | (with_reducible assumption) | assumption)); (have hx12 := bt_at a0 x3_2); (replace p12 := eq_true p12); (replace q12 := eq_true q12)
                      go_wp2
                      go_ret
                      exact ⟨by first | rfl | (simp; done) | (simp [*]; done), by repeat (first | exact Drawn0.refl _ | apply Drawn0.step)⟩
              · rw [if_neg c11] at H
                exact absurd H (by simp)
            · rw [if_neg c10] at H
              (have c10b0 : decide (x3_2 < (a0.size : Int)) = false := decide_eq_false c10); clear c10; (obtain rfl := Option.some.inj H)
              go_wp2
              go_ret
              exact ⟨by first | rfl | (simp; done) | (simp [*]; done), by repeat (first | exact Drawn0.refl _ | apply Drawn0.step)⟩

/-! ### spec_GoodTopic: function 7 -/
mutual
def spec_GoodTopic.j0 : Nat → List ByteArray → Bool → Option (Bool)
  | 0, _, _ => none
  | k + 1, x3, x15 => if x15 = true then (some false) else (spec_GoodTopic.l0 k x3 (x3.length : Int) 0)
def spec_GoodTopic.l0 : Nat → List ByteArray → Int → Int → Option (Bool)
  | 0, _, _, _ => none
  | k + 1, x16, x17, x18 => if x18 < x17 then (if 0 ≤ x18 then (if x18 < (x16.length : Int) then ((spec_l24Part.f k (rdOf ByteArray.empty x16 x18)).bind fun t124 => (if t124 = true then (spec_GoodTopic.l0 k x16 x17 (wrap64 (x18 + 1))) else (some false))) else (none)) else (none)) else (some true)
end
def spec_GoodTopic.f (k : Nat) (a0 : ByteArray) : Option (Bool) := (spec_l24Parts.f k a0).bind fun t120 => (if (a0.size : Int) > 60 then (spec_GoodTopic.j0 k t120 true) else (spec_GoodTopic.j0 k t120 ((t120.length : Int) == 0)))
theorem spec_GoodTopic.mono_l : ∀ k, (∀ y0 y1, LeO (spec_GoodTopic.j0 k y0 y1) (spec_GoodTopic.j0 (k + 1) y0 y1)) ∧ (∀ y0 y1 y2, LeO (spec_GoodTopic.l0 k y0 y1 y2) (spec_GoodTopic.l0 (k + 1) y0 y1 y2))
  | 0 => ⟨fun _ _ r h => by simp [spec_GoodTopic.j0] at h, fun _ _ _ r h => by simp [spec_GoodTopic.l0] at h⟩
  | k + 1 => by
    obtain ⟨ih0, ih1⟩ := spec_GoodTopic.mono_l k
    refine ⟨?_, ?_⟩
    · intro y0 y1
      unfold spec_GoodTopic.j0
      repeat' first
      | (with_reducible exact ih0 _ _)
      | (with_reducible exact ih1 _ _ _)
      | (with_reducible exact spec_l24Part.mono _ _)
      | (with_reducible exact spec_l24Parts.mono _ _)
      | (with_reducible exact LeO.refl _)
      | (with_reducible exact LeO.none _)
      | (with_reducible refine LeO.ite ?_ ?_)
      | (with_reducible refine LeO.bind ?_ (fun _ => ?_))
      | exact ih0 _ _
      | exact ih1 _ _ _
      | exact spec_l24Part.mono _ _
      | exact spec_l24Parts.mono _ _
      | exact LeO.none _
      | refine LeO.ite ?_ ?_
      | refine LeO.bind ?_ (fun _ => ?_)
    · intro y0 y1 y2
      unfold spec_GoodTopic.l0
      repeat' first
      | (with_reducible exact ih0 _ _)
      | (with_reducible exact ih1 _ _ _)
      | (with_reducible exact spec_l24Part.mono _ _)
      | (with_reducible exact spec_l24Parts.mono _ _)
      | (with_reducible exact LeO.refl _)
      | (with_reducible exact LeO.none _)
      | (with_reducible refine LeO.ite ?_ ?_)
      | (with_reducible refine LeO.bind ?_ (fun _ => ?_))
      | exact ih0 _ _
      | exact ih1 _ _ _
      | exact spec_l24Part.mono _ _
      | exact spec_l24Parts.mono _ _
      | exact LeO.none _
      | refine LeO.ite ?_ ?_
      | refine LeO.bind ?_ (fun _ => ?_)
theorem spec_GoodTopic.mono : ∀ a0 k, LeO (spec_GoodTopic.f k a0) (spec_GoodTopic.f (k + 1) a0) := by
  intro a0 k
  obtain ⟨ih0, ih1⟩ := spec_GoodTopic.mono_l k
  unfold spec_GoodTopic.f
  repeat' first
      | (with_reducible exact ih0 _ _)
      | (with_reducible exact ih1 _ _ _)
      | (with_reducible exact spec_l24Part.mono _ _)
      | (with_reducible exact spec_l24Parts.mono _ _)
      | (with_reducible exact LeO.refl _)
      | (with_reducible exact LeO.none _)
      | (with_reducible refine LeO.ite ?_ ?_)
      | (with_reducible refine LeO.bind ?_ (fun _ => ?_))
      | exact ih0 _ _
      | exact ih1 _ _ _
      | exact spec_l24Part.mono _ _
      | exact spec_l24Parts.mono _ _
      | exact LeO.none _
      | refine LeO.ite ?_ ?_
      | refine LeO.bind ?_ (fun _ => ?_)
set_option maxHeartbeats 8000000 in
set_option maxRecDepth 100000 in
theorem spec_GoodTopic.calls (k : Nat) (a0 : ByteArray) (r : Bool) (w : World) (h : spec_GoodTopic.f k a0 = some r) :
    Calls Tryd.prog 7 #[.string a0] w fun e w' => e = .returned (.bool r) ∧ Below w.heap.size w w' := by
  (have HB := Aside0.mk (Below.refl w.heap.size w)); (have H : ((spec_l24Parts.f k a0).bind fun t120 => (if (a0.size : Int) > 60 then (spec_GoodTopic.j0 k t120 true) else (spec_GoodTopic.j0 k t120 ((t120.length : Int) == 0)))) = some r := h); clear h; (replace H := Option.bind_eq_some_iff.mp H); (obtain ⟨t120, A20, H⟩ := H); (replace H : (if (a0.size : Int) > 60 then (spec_GoodTopic.j0 k t120 true) else (spec_GoodTopic.j0 k t120 ((t120.length : Int) == 0))) = some r := H); (have A2 := Aside0.mk A20); clear A20; (have HC3 := Aside0.mk H); clear H
  go_enter Tryd.func7, Tryd.ntmps7
  go_upto_region 2 with (first | ((with_reducible refine gate_callee (f := 15) rfl ?_); refine goesL_ (some 7) rfl rfl Tryd.func15 (by kernel_rfl) rfl #[.string a0] rfl (by (try simp only [List.map_toArray, List.map_cons, List.map_nil]); first | done | rfl | (simp only [List.length_drop, List.length_take]; rfl)) ?_; (with_reducible refine (spec_l24Parts.calls k a0 t120 _ A2.out).mono ?_); rintro e w4 ⟨v121, rfl, ho0, hb⟩; refine ⟨_, rfl, ?_⟩; have n0_ := Aside0.mk (Kd.R_lower ho0 (below_size (by repeat (first | (with_reducible first | exact HB.out | apply below_alloc | apply pw_below_drewN | apply below_drew1) | exact HB.out)))); have n1_ := Aside0.mk (below_step (by repeat (first | (with_reducible first | exact HB.out | apply below_alloc | apply pw_below_drewN | apply below_drew1) | exact HB.out)) hb); clear HB; have HO122 := n0_; have HB := n1_; clear n0_ n1_; (try clear hb); (try clear hb2); (try clear hk); (try clear hi); (try clear ho0)))
  (try simp only [Act.put, List.setIfInBounds_toArray, List.set_cons_zero, List.set_cons_succ])
  go_cut [15] (fun v15 wc => ∃ (kq : Nat) (x15_2 : Bool), v15 = .bool x15_2 ∧ Aside0 (spec_GoodTopic.j0 kq t120 x15_2 = some r) ∧ Aside0 (kq ≤ k) ∧ Aside0 (Kd.R Kd.string 9 wc w.heap.size (fun _ => True) v121 t120) ∧ Aside0 (Below w.heap.size w wc))
  case first =>
    have H := HC3.out; clear HC3
    by_cases c5 : (a0.size : Int) > 60
    · rw [if_pos c5] at H
      (have c5b0 : decide (60 < (a0.size : Int)) = true := decide_eq_true c5); (have c5b1 : decide (60 < a0.size) = true := decide_eq_true (by omega)); clear c5
      (first | rw [c5b0] | (simp only [i64_w, i32_w]; rw [c5b0]) | skip)
      (have H' := Aside0.mk H); clear H
      go_wp2
      go_meet
      case rel => exact ⟨_, (true), (by first | rfl | (simp; done) | (simp [*]; done)), H', ⟨by first | omega | exact Nat.le_refl _⟩, ⟨by exact HO122.out⟩, ⟨by repeat (first | (with_reducible first | exact HB.out | apply below_alloc | apply pw_below_drewN | apply below_drew1) | exact HB.out)⟩⟩
    · rw [if_neg c5] at H
      (have c5b0 : decide (60 < (a0.size : Int)) = false := decide_eq_false c5); (have c5b1 : decide (60 < a0.size) = false := decide_eq_false (by omega)); clear c5
      (first | rw [c5b0] | (simp only [i64_w, i32_w]; rw [c5b0]) | skip)
      (have H' := Aside0.mk H); clear H; (obtain ⟨Ao6, co6, eo6⟩ := Kd.R_slice HO122.out); subst eo6
      go_wp2
      go_meet
      case rel => exact ⟨_, (((t120.length : Int) == 0)), (by first | rfl | (simp; done) | (simp [*]; done)), H', ⟨by first | omega | exact Nat.le_refl _⟩, ⟨by exact HO122.out⟩, ⟨by repeat (first | (with_reducible first | exact HB.out | apply below_alloc | apply pw_below_drewN | apply below_drew1) | exact HB.out)⟩⟩
  case rest =>
    clear HC3; (try clear c1); (try clear p2); (try clear c5); (try clear c5b0); (try clear c5b1); (obtain ⟨kq, x15_2, rfl, HA, HJ2, HO_3, HB⟩ := hcut)
    cases kq with
    | zero => exact absurd HA.out (by simp [spec_GoodTopic.j0])
    | succ kj2 =>
      have H := HA.out; clear HA; (simp only [spec_GoodTopic.j0] at H)
      by_cases c7 : x15_2 = true
      · subst c7
        (have H1 : (some false) = some r := by rw [if_pos rfl] at H; exact H); clear H; have H := H1; clear H1; (obtain rfl := Option.some.inj H)
        go_wp2
        go_ret
        exact ⟨by first | rfl | (simp [errW_none, errW_some] <;> rfl) | (simp [*, errW_none, errW_some] <;> rfl), by repeat (first | (with_reducible first | exact HB.out | apply below_alloc | apply pw_below_drewN | apply below_drew1) | exact HB.out)⟩
      · replace c7 := Bool.eq_false_iff.mpr c7
        subst c7; (have H1 : (spec_GoodTopic.l0 kj2 t120 (t120.length : Int) 0) = some r := by rw [if_neg (show ¬ (false = true) by decide)] at H; exact H); clear H; have H := H1; clear H1; (have H' := Aside0.mk H); clear H; (obtain ⟨Ao8, co8, eo8⟩ := Kd.R_slice HO_3.out); subst eo8
        go_wp2
        go_loopg [18] kj2 (fun kq v18 w' => ∃ (x18_2 : Int), v18 = .int .i64 x18_2 ∧ Aside0 (spec_GoodTopic.l0 kq t120 (t120.length : Int) x18_2 = some r) ∧ Aside0 (kq ≤ kj2) ∧ Aside0 (Kd.R Kd.string 9 w' w.heap.size (fun _ => True) (.slice Ao8 t120.length co8) t120) ∧ Aside0 (Below w.heap.size w w'))
        case atStart => exact ⟨(0), (by first | rfl | (simp; done) | (simp [*]; done)), H', ⟨Nat.le_refl _⟩, ⟨by exact HO_3.out⟩, ⟨by repeat (first | (with_reducible first | exact HB.out | apply below_alloc | apply pw_below_drewN | apply below_drew1) | exact HB.out)⟩⟩
        case round =>
          clear H'; (try clear c1); (try clear p2); (try clear c5); (try clear c5b0); (try clear c5b1); (try clear c7); (try clear p2); (obtain ⟨x18_2, rfl, HA, HK2, HO_16, HB⟩ := hrel)
          cases gk with
          | zero => exact absurd HA.out (by simp [spec_GoodTopic.l0])
          | succ k2 =>
            have H := HA.out; clear HA; (simp only [spec_GoodTopic.l0] at H)
            by_cases c9 : x18_2 < (t120.length : Int)
            · rw [if_pos c9] at H
              (have c9b0 : decide (x18_2 < (t120.length : Int)) = true := decide_eq_true c9); clear c9
              by_cases c10 : 0 ≤ x18_2
              · rw [if_pos c10] at H
                (have c10b0 : decide (0 ≤ x18_2) = true := decide_eq_true c10); clear c10
                by_cases c11 : x18_2 < (t120.length : Int)
                · rw [if_pos c11] at H
                  (have c11b0 : decide (x18_2 < (t120.length : Int)) = true := decide_eq_true c11); clear c11; (replace H := Option.bind_eq_some_iff.mp H); (obtain ⟨t124, A120, H⟩ := H); (replace H : (if t124 = true then (spec_GoodTopic.l0 k2 t120 (t120.length : Int) (wrap64 (x18_2 + 1))) else (some false)) = some r := H); (have A12 := Aside0.mk A120); clear A120
                  by_cases c13 : t124 = true
                  · subst c13
                    (have H1 : (spec_GoodTopic.l0 k2 t120 (t120.length : Int) (wrap64 (x18_2 + 1))) = some r := by rw [if_pos rfl] at H; exact H); clear H; have H := H1; clear H1; (have H' := Aside0.mk H); clear H; (have p123 : 0 ≤ (x18_2 : Int) := of_decide_eq_true (by first | (with_reducible assumption) | assumption)); (have q123 : x18_2 < (t120.length : Int) := of_decide_eq_true (by first | (with_reducible assumption) | assumption)); (obtain ⟨ad123, e123, hx123_0⟩ := Kd.at_string (Kd.R_reads' HO_16.out).2.2 x18_2 p123 q123)
                    cases e123
                    (replace p123 := eq_true p123); (replace q123 := eq_true q123)
                    go_wp2_with (first | ((with_reducible refine gate_callee (f := 16) rfl ?_); refine goesL_ (some 23) rfl rfl Tryd.func16 (by kernel_rfl) rfl #[.string (rdOf ByteArray.empty t120 x18_2)] rfl (by (try simp only [List.map_toArray, List.map_cons, List.map_nil]); first | done | rfl | (simp only [List.length_drop, List.length_take]; rfl)) ?_; (with_reducible refine (spec_l24Part.calls k2 (rdOf ByteArray.empty t120 x18_2) true _ A12.out).mono ?_); rintro e w' ⟨rfl, ⟨nd, rfl⟩⟩; refine ⟨_, rfl, ?_⟩))
                    go_roundg k2
                    case measure => have := HJ2.out; have := HK2.out; omega
                    case rel => exact ⟨(wrap64 (x18_2 + 1)), (by first | rfl | (simp; done) | (simp [*]; done)), H', ⟨by have := HJ2.out; have := HK2.out; omega⟩, ⟨by exact HO_16.out⟩, ⟨by repeat (first | (with_reducible first | exact HB.out | apply below_alloc | apply pw_below_drewN | apply below_drew1) | exact HB.out)⟩⟩
                  · replace c13 := Bool.eq_false_iff.mpr c13
                    subst c13; (have H1 : (some false) = some r := by rw [if_neg (show ¬ (false = true) by decide)] at H; exact H); clear H; have H := H1; clear H1; (obtain rfl := Option.some.inj H); (have p123 : 0 ≤ (x18_2 : Int) := of_decide_eq_true (by first | (with_reducible assumption) | assumption)); (have q123 : x18_2 < (t120.length : Int) := of_decide_eq_true (by first | (with_reducible assumption) | assumption)); (obtain ⟨ad123, e123, hx123_0⟩ := Kd.at_string (Kd.R_reads' HO_16.out).2.2 x18_2 p123 q123)
                    cases e123
                    (replace p123 := eq_true p123); (replace q123 := eq_true q123)
                    go_wp2_with (first | ((with_reducible refine gate_callee (f := 16) rfl ?_); refine goesL_ (some 23) rfl rfl Tryd.func16 (by kernel_rfl) rfl #[.string (rdOf ByteArray.empty t120 x18_2)] rfl (by (try simp only [List.map_toArray, List.map_cons, List.map_nil]); first | done | rfl | (simp only [List.length_drop, List.length_take]; rfl)) ?_; (with_reducible refine (spec_l24Part.calls k2 (rdOf ByteArray.empty t120 x18_2) false _ A12.out).mono ?_); rintro e w' ⟨rfl, ⟨nd, rfl⟩⟩; refine ⟨_, rfl, ?_⟩))
                    go_ret
                    exact ⟨by first | rfl | (simp [errW_none, errW_some] <;> rfl) | (simp [*, errW_none, errW_some] <;> rfl), by repeat (first | (with_reducible first | exact HB.out | apply below_alloc | apply pw_below_drewN | apply below_drew1) | exact HB.out)⟩
                · rw [if_neg c11] at H
                  exact absurd H (by simp)
              · rw [if_neg c10] at H
                exact absurd H (by simp)
            · rw [if_neg c9] at H
              (have c9b0 : decide (x18_2 < (t120.length : Int)) = false := decide_eq_false c9); clear c9; (obtain rfl := Option.some.inj H)
              go_wp2
              go_ret
              exact ⟨by first | rfl | (simp [errW_none, errW_some] <;> rfl) | (simp [*, errW_none, errW_some] <;> rfl), by repeat (first | (with_reducible first | exact HB.out | apply below_alloc | apply pw_below_drewN | apply below_drew1) | exact HB.out)⟩

end Go.Proofs.YtmlejakajcmbdaaDoor.PFnTopics
