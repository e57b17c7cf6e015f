-- Written by this session's own program for the law FnTopics; it began as the print's text.
import Derived.Test.YtmlejakajcmbdaaDoorShelfJoin
import Derived.Test.YtmlejakajcmbdaaDoorQFnTopicsx0
import Derived.Test.YtmlejakajcmbdaaDoorQFnTopicsx1
import Derived.Test.YtmlejakajcmbdaaDoorQFnTopicsx2
import Derived.Test.YtmlejakajcmbdaaDoorQFnTopicsx6
namespace Go.Proofs.YtmlejakajcmbdaaDoor.PFnTopics
open Go.RowKit Go.Proofs.YtmlejakajcmbdaaDoorW.PrintWords Go.Proofs.YtmlejakajcmbdaaDoorW.PrintLast Go.Proofs.YtmlejakajcmbdaaDoorW.PrintMore
attribute [local go_sem] max2_int min2_int max_two min_two max_three min_three max_four min_four   -- for this text's walks alone
set_option linter.unusedVariables false
set_option linter.unusedSimpArgs false

/-! ### spec_TopicFits: function 11 -/
mutual
def spec_TopicFits.j0 : Nat → ByteArray → List ByteArray → Bool → Option (Bool)
  | 0, _, _, _ => none
  | k + 1, x1, x5, x21 => if x21 = true then (some false) else (spec_TopicFits.l0 k x1 x5 (⟨#[]⟩ : ByteArray) x5 (x5.length : Int) 0)
def spec_TopicFits.l0 : Nat → ByteArray → List ByteArray → ByteArray → List ByteArray → Int → Int → Option (Bool)
  | 0, _, _, _, _, _, _ => none
  | k + 1, x1, x5, x6, x22, x23, x24 => if x24 < x23 then (if 0 ≤ x24 then (if x24 < (x22.length : Int) then (if (rdOf ByteArray.empty x22 x24).toList = ([42] : List UInt8) then (if 1 + 1 ≤ 9223372036854775807 then (if x6.size + 2 ≤ 9223372036854775807 then (spec_TopicFits.l0 k x1 x5 (x6 ++ ((⟨#[47]⟩ : ByteArray) ++ (⟨#[97]⟩ : ByteArray))) x22 x23 (wrap64 (x24 + 1))) else (none)) else (none)) else (if (rdOf ByteArray.empty x22 x24).toList = ([42, 42] : List UInt8) then (if 1 + 1 ≤ 9223372036854775807 then (if x6.size + 2 ≤ 9223372036854775807 then (spec_TopicFits.l0 k x1 x5 (x6 ++ ((⟨#[47]⟩ : ByteArray) ++ (⟨#[97]⟩ : ByteArray))) x22 x23 (wrap64 (x24 + 1))) else (none)) else (none)) else (if 1 + (rdOf ByteArray.empty x22 x24).size ≤ 9223372036854775807 then (if x6.size + ((⟨#[47]⟩ : ByteArray) ++ (rdOf ByteArray.empty x22 x24)).size ≤ 9223372036854775807 then (spec_TopicFits.l0 k x1 x5 (x6 ++ ((⟨#[47]⟩ : ByteArray) ++ (rdOf ByteArray.empty x22 x24))) x22 x23 (wrap64 (x24 + 1))) else (none)) else (none)))) else (none)) else (none)) else ((spec_GoodTopic.f k x6).bind fun t160 => (if t160 = true then (spec_TopicFits.l1 k x1 ([] : List ByteArray) x5 (x5.length : Int) 0) else (some false)))
def spec_TopicFits.l1 : Nat → ByteArray → List ByteArray → List ByteArray → Int → Int → Option (Bool)
  | 0, _, _, _, _, _ => none
  | k + 1, x1, x9, x42, x43, x44 => if x44 < x43 then (if 0 ≤ x44 then (if x44 < (x42.length : Int) then (if (rdOf ByteArray.empty x42 x44).toList = ([42, 42] : List UInt8) then (if (x9.length : Int) > 0 then (if 0 ≤ (wrap64 ((x9.length : Int) - 1)) then (if (wrap64 ((x9.length : Int) - 1)) < (x9.length : Int) then (if (rdOf ByteArray.empty x9 (wrap64 ((x9.length : Int) - 1))).toList = ([42, 42] : List UInt8) then (spec_TopicFits.l1 k x1 x9 x42 x43 (wrap64 (x44 + 1))) else (if x9.length < 8796093022208 then (spec_TopicFits.l1 k x1 (x9 ++ [rdOf ByteArray.empty x42 x44]) x42 x43 (wrap64 (x44 + 1))) else (none))) else (none)) else (none)) else (if x9.length < 8796093022208 then (spec_TopicFits.l1 k x1 (x9 ++ [rdOf ByteArray.empty x42 x44]) x42 x43 (wrap64 (x44 + 1))) else (none))) else (if x9.length < 8796093022208 then (spec_TopicFits.l1 k x1 (x9 ++ [rdOf ByteArray.empty x42 x44]) x42 x43 (wrap64 (x44 + 1))) else (none))) else (none)) else (none)) else ((spec_l24Parts.f k x1).bind fun t172 => ((spec_l24Fits.f k x9 t172).bind fun t175 => (some t175)))
end
def spec_TopicFits.f (k : Nat) (a0 : ByteArray) (a1 : ByteArray) : Option (Bool) := (spec_l24Parts.f k a0).bind fun t155 => ((spec_GoodTopic.f k a1).bind fun t158 => (if t158 = true then (spec_TopicFits.j0 k a1 t155 ((t155.length : Int) == 0)) else (spec_TopicFits.j0 k a1 t155 true)))
theorem spec_TopicFits.mono_l : ∀ k, (∀ y0 y1 y2, LeO (spec_TopicFits.j0 k y0 y1 y2) (spec_TopicFits.j0 (k + 1) y0 y1 y2)) ∧ (∀ y0 y1 y2 y3 y4 y5, LeO (spec_TopicFits.l0 k y0 y1 y2 y3 y4 y5) (spec_TopicFits.l0 (k + 1) y0 y1 y2 y3 y4 y5)) ∧ (∀ y0 y1 y2 y3 y4, LeO (spec_TopicFits.l1 k y0 y1 y2 y3 y4) (spec_TopicFits.l1 (k + 1) y0 y1 y2 y3 y4))
  | 0 => ⟨fun _ _ _ r h => by simp [spec_TopicFits.j0] at h, fun _ _ _ _ _ _ r h => by simp [spec_TopicFits.l0] at h, fun _ _ _ _ _ r h => by simp [spec_TopicFits.l1] at h⟩
  | k + 1 => by
    obtain ⟨ih0, ih1, ih2⟩ := spec_TopicFits.mono_l k
    refine ⟨?_, ?_, ?_⟩
    · intro y0 y1 y2
      unfold spec_TopicFits.j0
      repeat' first
      | (with_reducible exact ih0 _ _ _)
      | (with_reducible exact ih1 _ _ _ _ _ _)
      | (with_reducible exact ih2 _ _ _ _ _)
      | (with_reducible exact spec_GoodTopic.mono _ _)
      | (with_reducible exact spec_l24Fits.mono _ _ _)
      | (with_reducible exact spec_l24Parts.mono _ _)
      | (with_reducible exact LeO.refl _)
      | (with_reducible exact LeO.none _)
      | (with_reducible refine LeO.ite ?_ ?_)
      | (with_reducible refine LeO.bind ?_ (fun _ => ?_))
      | exact ih0 _ _ _
      | exact ih1 _ _ _ _ _ _
      | exact ih2 _ _ _ _ _
      | exact spec_GoodTopic.mono _ _
      | exact spec_l24Fits.mono _ _ _
      | exact spec_l24Parts.mono _ _
      | exact LeO.none _
      | refine LeO.ite ?_ ?_
      | refine LeO.bind ?_ (fun _ => ?_)
    · intro y0 y1 y2 y3 y4 y5
      unfold spec_TopicFits.l0
      repeat' first
      | (with_reducible exact ih0 _ _ _)
      | (with_reducible exact ih1 _ _ _ _ _ _)
      | (with_reducible exact ih2 _ _ _ _ _)
      | (with_reducible exact spec_GoodTopic.mono _ _)
      | (with_reducible exact spec_l24Fits.mono _ _ _)
      | (with_reducible exact spec_l24Parts.mono _ _)
      | (with_reducible exact LeO.refl _)
      | (with_reducible exact LeO.none _)
      | (with_reducible refine LeO.ite ?_ ?_)
      | (with_reducible refine LeO.bind ?_ (fun _ => ?_))
      | exact ih0 _ _ _
      | exact ih1 _ _ _ _ _ _
      | exact ih2 _ _ _ _ _
      | exact spec_GoodTopic.mono _ _
      | exact spec_l24Fits.mono _ _ _
      | exact spec_l24Parts.mono _ _
      | exact LeO.none _
      | refine LeO.ite ?_ ?_
      | refine LeO.bind ?_ (fun _ => ?_)
    · intro y0 y1 y2 y3 y4
      unfold spec_TopicFits.l1
      repeat' first
      | (with_reducible exact ih0 _ _ _)
      | (with_reducible exact ih1 _ _ _ _ _ _)
      | (with_reducible exact ih2 _ _ _ _ _)
      | (with_reducible exact spec_GoodTopic.mono _ _)
      | (with_reducible exact spec_l24Fits.mono _ _ _)
      | (with_reducible exact spec_l24Parts.mono _ _)
      | (with_reducible exact LeO.refl _)
      | (with_reducible exact LeO.none _)
      | (with_reducible refine LeO.ite ?_ ?_)
      | (with_reducible refine LeO.bind ?_ (fun _ => ?_))
      | exact ih0 _ _ _
      | exact ih1 _ _ _ _ _ _
      | exact ih2 _ _ _ _ _
      | exact spec_GoodTopic.mono _ _
      | exact spec_l24Fits.mono _ _ _
      | exact spec_l24Parts.mono _ _
      | exact LeO.none _
      | refine LeO.ite ?_ ?_
      | refine LeO.bind ?_ (fun _ => ?_)
theorem spec_TopicFits.mono : ∀ a0 a1 k, LeO (spec_TopicFits.f k a0 a1) (spec_TopicFits.f (k + 1) a0 a1) := by
  intro a0 a1 k
  obtain ⟨ih0, ih1, ih2⟩ := spec_TopicFits.mono_l k
  unfold spec_TopicFits.f
  repeat' first
      | (with_reducible exact ih0 _ _ _)
      | (with_reducible exact ih1 _ _ _ _ _ _)
      | (with_reducible exact ih2 _ _ _ _ _)
      | (with_reducible exact spec_GoodTopic.mono _ _)
      | (with_reducible exact spec_l24Fits.mono _ _ _)
      | (with_reducible exact spec_l24Parts.mono _ _)
      | (with_reducible exact LeO.refl _)
      | (with_reducible exact LeO.none _)
      | (with_reducible refine LeO.ite ?_ ?_)
      | (with_reducible refine LeO.bind ?_ (fun _ => ?_))
      | exact ih0 _ _ _
      | exact ih1 _ _ _ _ _ _
      | exact ih2 _ _ _ _ _
      | exact spec_GoodTopic.mono _ _
      | exact spec_l24Fits.mono _ _ _
      | exact spec_l24Parts.mono _ _
      | exact LeO.none _
      | refine LeO.ite ?_ ?_
      | refine LeO.bind ?_ (fun _ => ?_)
set_option maxHeartbeats 8000000 in
set_option maxRecDepth 100000 in
theorem spec_TopicFits.calls (k : Nat) (a0 : ByteArray) (a1 : ByteArray) (r : Bool) (w : World) (h : spec_TopicFits.f k a0 a1 = some r) :
    Calls Tryd.prog 11 #[.string a0, .string a1] w fun e w' => e = .returned (.bool r) ∧ Below w.heap.size w w' := by
  (have HB := Aside0.mk (Below.refl w.heap.size w)); (have H : ((spec_l24Parts.f k a0).bind fun t155 => ((spec_GoodTopic.f k a1).bind fun t158 => (if t158 = true then (spec_TopicFits.j0 k a1 t155 ((t155.length : Int) == 0)) else (spec_TopicFits.j0 k a1 t155 true)))) = some r := h); clear h; (replace H := Option.bind_eq_some_iff.mp H); (obtain ⟨t155, A30, H⟩ := H); (replace H : ((spec_GoodTopic.f k a1).bind fun t158 => (if t158 = true then (spec_TopicFits.j0 k a1 t155 ((t155.length : Int) == 0)) else (spec_TopicFits.j0 k a1 t155 true))) = some r := H); (have A3 := Aside0.mk A30); clear A30; (have HC4 := Aside0.mk H); clear H
  go_enter Tryd.func11, Tryd.ntmps11
  go_upto_region 2 with (first | ((with_reducible refine gate_callee (f := 15) rfl ?_); refine goesL_ (some 13) rfl rfl Tryd.func15 (by kernel_rfl) rfl #[.string a0] rfl (by (try simp only [List.map_toArray, List.map_cons, List.map_nil]); first | done | rfl | (simp only [List.length_drop, List.length_take]; rfl)) ?_; (with_reducible refine (spec_l24Parts.calls k a0 t155 _ A3.out).mono ?_); rintro e w5 ⟨v156, rfl, ho0, hb⟩; refine ⟨_, rfl, ?_⟩; have n0_ := Aside0.mk (Kd.R_lower ho0 (below_size (by repeat (first | (with_reducible first | exact HB.out | apply below_alloc | apply pw_below_drewN | apply below_drew1) | exact HB.out)))); have n1_ := Aside0.mk (below_step (by repeat (first | (with_reducible first | exact HB.out | apply below_alloc | apply pw_below_drewN | apply below_drew1) | exact HB.out)) hb); clear HB; have HO157 := n0_; have HB := n1_; clear n0_ n1_; (try clear hb); (try clear hb2); (try clear hk); (try clear hi); (try clear ho0)))
  (try simp only [Act.put, List.setIfInBounds_toArray, List.set_cons_zero, List.set_cons_succ])
  go_cut [21] (fun v21 wc => ∃ (kq : Nat) (x21_3 : Bool), v21 = .bool x21_3 ∧ Aside0 (spec_TopicFits.j0 kq a1 t155 x21_3 = some r) ∧ Aside0 (kq ≤ k) ∧ Aside0 (Kd.R Kd.string 9 wc w.heap.size (fun _ => True) v156 t155) ∧ Aside0 (Below w.heap.size w wc))
  case first =>
    have H := HC4.out; clear HC4; (replace H := Option.bind_eq_some_iff.mp H); (obtain ⟨t158, A60, H⟩ := H); (replace H : (if t158 = true then (spec_TopicFits.j0 k a1 t155 ((t155.length : Int) == 0)) else (spec_TopicFits.j0 k a1 t155 true)) = some r := H); (have A6 := Aside0.mk A60); clear A60
    by_cases c7 : t158 = true
    · subst c7
      (have H1 : (spec_TopicFits.j0 k a1 t155 ((t155.length : Int) == 0)) = some r := by rw [if_pos rfl] at H; exact H); clear H; have H := H1; clear H1; (have H' := Aside0.mk H); clear H
      go_wp2_with (first | ((with_reducible refine gate_callee (f := 7) rfl ?_); refine goesL_ (some 15) rfl rfl Tryd.func7 (by kernel_rfl) rfl #[.string a1] rfl (by (try simp only [List.map_toArray, List.map_cons, List.map_nil]); first | done | rfl | (simp only [List.length_drop, List.length_take]; rfl)) ?_; (with_reducible refine (spec_GoodTopic.calls k a1 true _ A6.out).mono ?_); rintro e w8 ⟨rfl, hb⟩; refine ⟨_, rfl, ?_⟩; have n0_ := Aside0.mk (Kd.R_below HO157.out hb); have n1_ := Aside0.mk (below_step (by repeat (first | (with_reducible first | exact HB.out | apply below_alloc | apply pw_below_drewN | apply below_drew1) | exact HB.out)) hb); clear HO157; clear HB; have HO157 := n0_; have HB := n1_; clear n0_ n1_; (try clear hb); (try clear hb2); (try clear hk); (try clear hi); obtain ⟨Ao9, co9, eo9⟩ := Kd.R_slice HO157.out; subst eo9))
      go_meet
      case rel => exact ⟨_, (((t155.length : Int) == 0)), (by first | rfl | (simp; done) | (simp [*]; done)), H', ⟨by first | omega | exact Nat.le_refl _⟩, ⟨by exact HO157.out⟩, ⟨by repeat (first | (with_reducible first | exact HB.out | apply below_alloc | apply pw_below_drewN | apply below_drew1) | exact HB.out)⟩⟩
    · replace c7 := Bool.eq_false_iff.mpr c7
      subst c7; (have H1 : (spec_TopicFits.j0 k a1 t155 true) = some r := by rw [if_neg (show ¬ (false = true) by decide)] at H; exact H); clear H; have H := H1; clear H1; (have H' := Aside0.mk H); clear H
      go_wp2_with (first | ((with_reducible refine gate_callee (f := 7) rfl ?_); refine goesL_ (some 15) rfl rfl Tryd.func7 (by kernel_rfl) rfl #[.string a1] rfl (by (try simp only [List.map_toArray, List.map_cons, List.map_nil]); first | done | rfl | (simp only [List.length_drop, List.length_take]; rfl)) ?_; (with_reducible refine (spec_GoodTopic.calls k a1 false _ A6.out).mono ?_); rintro e w10 ⟨rfl, hb⟩; refine ⟨_, rfl, ?_⟩; have n0_ := Aside0.mk (Kd.R_below HO157.out hb); have n1_ := Aside0.mk (below_step (by repeat (first | (with_reducible first | exact HB.out | apply below_alloc | apply pw_below_drewN | apply below_drew1) | exact HB.out)) hb); clear HO157; clear HB; have HO157 := n0_; have HB := n1_; clear n0_ n1_; (try clear hb); (try clear hb2); (try clear hk); (try clear hi)))
      go_meet
      case rel => exact ⟨_, (true), (by first | rfl | (simp; done) | (simp [*]; done)), H', ⟨by first | omega | exact Nat.le_refl _⟩, ⟨by exact HO157.out⟩, ⟨by repeat (first | (with_reducible first | exact HB.out | apply below_alloc | apply pw_below_drewN | apply below_drew1) | exact HB.out)⟩⟩
  case rest =>
    clear HC4; (try clear c1); (try clear p2); (try clear c7); (obtain ⟨kq, x21_3, rfl, HA, HJ3, HO_5, HB⟩ := hcut)
    cases kq with
    | zero => exact absurd HA.out (by simp [spec_TopicFits.j0])
    | succ kj3 =>
      have H := HA.out; clear HA; (simp only [spec_TopicFits.j0] at H)
      by_cases c11 : x21_3 = true
      · subst c11
        (have H1 : (some false) = some r := by rw [if_pos rfl] at H; exact H); clear H; have H := H1; clear H1; (obtain rfl := Option.some.inj H)
        go_wp2
        go_ret
        exact ⟨by first | rfl | (simp [errW_none, errW_some] <;> rfl) | (simp [*, errW_none, errW_some] <;> rfl), by repeat (first | (with_reducible first | exact HB.out | apply below_alloc | apply pw_below_drewN | apply below_drew1) | exact HB.out)⟩
      · replace c11 := Bool.eq_false_iff.mpr c11
        subst c11; (have H1 : (spec_TopicFits.l0 kj3 a1 t155 (⟨#[]⟩ : ByteArray) t155 (t155.length : Int) 0) = some r := by rw [if_neg (show ¬ (false = true) by decide)] at H; exact H); clear H; have H := H1; clear H1; (have H' := Aside0.mk H); clear H; (obtain ⟨Ao12, co12, eo12⟩ := Kd.R_slice HO_5.out); subst eo12
        go_wp2
        go_loopg [6, 24] kj3 (fun kq v6 v24 w' => ∃ (x6_2 : ByteArray) (x24_2 : Int), v6 = .string x6_2 ∧ v24 = .int .i64 x24_2 ∧ Aside0 (spec_TopicFits.l0 kq a1 t155 x6_2 t155 (t155.length : Int) x24_2 = some r) ∧ Aside0 (kq ≤ kj3) ∧ Aside0 (Kd.R Kd.string 9 w' w.heap.size (fun _ => True) (.slice Ao12 t155.length co12) t155) ∧ Aside0 (Kd.R Kd.string 9 w' w.heap.size (fun _ => True) (.slice Ao12 t155.length co12) t155) ∧ Aside0 (Below w.heap.size w w'))
        case atStart => exact ⟨((⟨#[]⟩ : ByteArray)), (0), (by first | rfl | (simp; done) | (simp [*]; done)), (by first | rfl | (simp; done) | (simp [*]; done)), H', ⟨Nat.le_refl _⟩, ⟨by exact HO_5.out⟩, ⟨by exact HO_5.out⟩, ⟨by repeat (first | (with_reducible first | exact HB.out | apply below_alloc | apply pw_below_drewN | apply below_drew1) | exact HB.out)⟩⟩
        case round =>
          clear H'; (try clear c1); (try clear p2); (try clear c7); (try clear c11); (try clear p2); (obtain ⟨x6_2, x24_2, rfl, rfl, HA, HK2, HO_5, HO_22, HB⟩ := hrel)
          cases gk with
          | zero => exact absurd HA.out (by simp [spec_TopicFits.l0])
          | succ k2 =>
            have H := HA.out; clear HA; (simp only [spec_TopicFits.l0] at H)
            by_cases c13 : x24_2 < (t155.length : Int)
            · rw [if_pos c13] at H
              (have c13b0 : decide (x24_2 < (t155.length : Int)) = true := decide_eq_true c13); clear c13
              by_cases c14 : 0 ≤ x24_2
              · rw [if_pos c14] at H
                (have c14b0 : decide (0 ≤ x24_2) = true := decide_eq_true c14); clear c14
                by_cases c15 : x24_2 < (t155.length : Int)
                · rw [if_pos c15] at H
                  (have c15b0 : decide (x24_2 < (t155.length : Int)) = true := decide_eq_true c15); clear c15
                  by_cases c16 : (rdOf ByteArray.empty t155 x24_2).toList = ([42] : List UInt8)
                  · rw [if_pos c16] at H
                    (have c16b0 : ((rdOf ByteArray.empty t155 x24_2).toList == ([42] : List UInt8)) = true := beq_iff_eq.mpr c16); (have c16b1 : ((rdOf ByteArray.empty t155 x24_2).toList != ([42] : List UInt8)) = false := bne_eq_false_iff_eq.mpr c16); clear c16
                    by_cases c17 : 1 + 1 ≤ 9223372036854775807
                    · rw [if_pos c17] at H
                      (have c17b0 := eq_true c17); (have c17b1 : decide (1 + 1 ≤ 9223372036854775807) = true := decide_eq_true c17)
                      try have c17b2 : (9223372036854775807 < 1 + 1) = False := eq_false (Nat.not_lt.2 c17)
                      by_cases c18 : x6_2.size + 2 ≤ 9223372036854775807
                      · rw [if_pos c18] at H
                        (have c18b0 := eq_true c18); (have c18b1 : decide (x6_2.size + 2 ≤ 9223372036854775807) = true := decide_eq_true c18)
                        try have c18b2 : (9223372036854775807 < x6_2.size + 2) = False := eq_false (Nat.not_lt.2 c18)
                        (have H' := Aside0.mk H); clear H; (have p159 : 0 ≤ (x24_2 : Int) := of_decide_eq_true (by first | (with_reducible assumption) | assumption)); (have q159 : x24_2 < (t155.length : Int) := of_decide_eq_true (by first | (with_reducible assumption) | assumption)); (obtain ⟨ad159, e159, hx159_0⟩ := Kd.at_string (Kd.R_reads' HO_22.out).2.2 x24_2 p159 q159)
                        cases e159
                        (replace p159 := eq_true p159); (replace q159 := eq_true q159)
                        go_wp2
                        go_roundg k2
                        case measure => have := HJ3.out; have := HK2.out; omega
                        case rel => exact ⟨(x6_2 ++ ((⟨#[47]⟩ : ByteArray) ++ (⟨#[97]⟩ : ByteArray))), (wrap64 (x24_2 + 1)), (by first | rfl | (simp; done) | (simp [*]; done)), (by first | rfl | (simp; done) | (simp [*]; done)), H', ⟨by have := HJ3.out; have := HK2.out; omega⟩, ⟨by exact HO_5.out⟩, ⟨by exact HO_22.out⟩, ⟨by repeat (first | (with_reducible first | exact HB.out | apply below_alloc | apply pw_below_drewN | apply below_drew1) | exact HB.out)⟩⟩
                      · rw [if_neg c18] at H
                        exact absurd H (by simp)
                    · rw [if_neg c17] at H
                      exact absurd H (by simp)
                  · rw [if_neg c16] at H
                    (have c16b0 : ((rdOf ByteArray.empty t155 x24_2).toList == ([42] : List UInt8)) = false := beq_eq_false_iff_ne.mpr c16); (have c16b1 : ((rdOf ByteArray.empty t155 x24_2).toList != ([42] : List UInt8)) = true := bne_iff_ne.mpr c16)
                    by_cases c19 : (rdOf ByteArray.empty t155 x24_2).toList = ([42, 42] : List UInt8)
                    · rw [if_pos c19] at H
                      (have c19b0 : ((rdOf ByteArray.empty t155 x24_2).toList == ([42, 42] : List UInt8)) = true := beq_iff_eq.mpr c19); (have c19b1 : ((rdOf ByteArray.empty t155 x24_2).toList != ([42, 42] : List UInt8)) = false := bne_eq_false_iff_eq.mpr c19); clear c19
                      by_cases c20 : 1 + 1 ≤ 9223372036854775807
                      · rw [if_pos c20] at H
                        (have c20b0 := eq_true c20); (have c20b1 : decide (1 + 1 ≤ 9223372036854775807) = true := decide_eq_true c20)
                        try have c20b2 : (9223372036854775807 < 1 + 1) = False := eq_false (Nat.not_lt.2 c20)
                        by_cases c21 : x6_2.size + 2 ≤ 9223372036854775807
                        · rw [if_pos c21] at H
                          (have c21b0 := eq_true c21); (have c21b1 : decide (x6_2.size + 2 ≤ 9223372036854775807) = true := decide_eq_true c21)
                          try have c21b2 : (9223372036854775807 < x6_2.size + 2) = False := eq_false (Nat.not_lt.2 c21)
                          (have H' := Aside0.mk H); clear H; (have p159 : 0 ≤ (x24_2 : Int) := of_decide_eq_true (by first | (with_reducible assumption) | assumption)); (have q159 : x24_2 < (t155.length : Int) := of_decide_eq_true (by first | (with_reducible assumption) | assumption)); (obtain ⟨ad159, e159, hx159_0⟩ := Kd.at_string (Kd.R_reads' HO_22.out).2.2 x24_2 p159 q159)
                          cases e159
                          (replace p159 := eq_true p159); (replace q159 := eq_true q159)
                          go_wp2
                          go_roundg k2
                          case measure => have := HJ3.out; have := HK2.out; omega
                          case rel => exact ⟨(x6_2 ++ ((⟨#[47]⟩ : ByteArray) ++ (⟨#[97]⟩ : ByteArray))), (wrap64 (x24_2 + 1)), (by first | rfl | (simp; done) | (simp [*]; done)), (by first | rfl | (simp; done) | (simp [*]; done)), H', ⟨by have := HJ3.out; have := HK2.out; omega⟩, ⟨by exact HO_5.out⟩, ⟨by exact HO_22.out⟩, ⟨by repeat (first | (with_reducible first | exact HB.out | apply below_alloc | apply pw_below_drewN | apply below_drew1) | exact HB.out)⟩⟩
                        · rw [if_neg c21] at H
                          exact absurd H (by simp)
                      · rw [if_neg c20] at H
                        exact absurd H (by simp)
                    · rw [if_neg c19] at H
                      (have c19b0 : ((rdOf ByteArray.empty t155 x24_2).toList == ([42, 42] : List UInt8)) = false := beq_eq_false_iff_ne.mpr c19); (have c19b1 : ((rdOf ByteArray.empty t155 x24_2).toList != ([42, 42] : List UInt8)) = true := bne_iff_ne.mpr c19)
                      by_cases c22 : 1 + (rdOf ByteArray.empty t155 x24_2).size ≤ 9223372036854775807
                      · rw [if_pos c22] at H
                        (have c22b0 := eq_true c22); (have c22b1 : decide (1 + (rdOf ByteArray.empty t155 x24_2).size ≤ 9223372036854775807) = true := decide_eq_true c22)
                        try have c22b2 : (9223372036854775807 < 1 + (rdOf ByteArray.empty t155 x24_2).size) = False := eq_false (Nat.not_lt.2 c22)
                        by_cases c23 : x6_2.size + ((⟨#[47]⟩ : ByteArray) ++ (rdOf ByteArray.empty t155 x24_2)).size ≤ 9223372036854775807
                        · rw [if_pos c23] at H
                          (have c23b0 := eq_true c23); (have c23b1 : decide (x6_2.size + ((⟨#[47]⟩ : ByteArray) ++ (rdOf ByteArray.empty t155 x24_2)).size ≤ 9223372036854775807) = true := decide_eq_true c23)
                          try have c23b2 : (9223372036854775807 < x6_2.size + ((⟨#[47]⟩ : ByteArray) ++ (rdOf ByteArray.empty t155 x24_2)).size) = False := eq_false (Nat.not_lt.2 c23)
                          (have H' := Aside0.mk H); clear H; (have p159 : 0 ≤ (x24_2 : Int) := of_decide_eq_true (by first | (with_reducible assumption) | assumption)); (have q159 : x24_2 < (t155.length : Int) := of_decide_eq_true (by first | (with_reducible assumption) | assumption)); (obtain ⟨ad159, e159, hx159_0⟩ := Kd.at_string (Kd.R_reads' HO_22.out).2.2 x24_2 p159 q159)
                          cases e159
                          (replace p159 := eq_true p159); (replace q159 := eq_true q159)
                          go_wp2
                          go_roundg k2
                          case measure => have := HJ3.out; have := HK2.out; omega
                          case rel => exact ⟨(x6_2 ++ ((⟨#[47]⟩ : ByteArray) ++ (rdOf ByteArray.empty t155 x24_2))), (wrap64 (x24_2 + 1)), (by first | rfl | (simp; done) | (simp [*]; done)), (by first | rfl | (simp; done) | (simp [*]; done)), H', ⟨by have := HJ3.out; have := HK2.out; omega⟩, ⟨by exact HO_5.out⟩, ⟨by exact HO_22.out⟩, ⟨by repeat (first | (with_reducible first | exact HB.out | apply below_alloc | apply pw_below_drewN | apply below_drew1) | exact HB.out)⟩⟩
                        · rw [if_neg c23] at H
                          exact absurd H (by simp)
                      · rw [if_neg c22] at H
                        exact absurd H (by simp)
                · rw [if_neg c15] at H
                  exact absurd H (by simp)
              · rw [if_neg c14] at H
                exact absurd H (by simp)
            · rw [if_neg c13] at H
              (have c13b0 : decide (x24_2 < (t155.length : Int)) = false := decide_eq_false c13); clear c13; (replace H := Option.bind_eq_some_iff.mp H); (obtain ⟨t160, A240, H⟩ := H); (replace H : (if t160 = true then (spec_TopicFits.l1 k2 a1 ([] : List ByteArray) t155 (t155.length : Int) 0) else (some false)) = some r := H); (have A24 := Aside0.mk A240); clear A240
              by_cases c25 : t160 = true
              · subst c25
                (have H1 : (spec_TopicFits.l1 k2 a1 ([] : List ByteArray) t155 (t155.length : Int) 0) = some r := by rw [if_pos rfl] at H; exact H); clear H; have H := H1; clear H1; (have H' := Aside0.mk H); clear H
                go_wp2_with (first | ((with_reducible refine gate_callee (f := 7) rfl ?_); refine goesL_ (some 40) rfl rfl Tryd.func7 (by kernel_rfl) rfl #[.string x6_2] rfl (by (try simp only [List.map_toArray, List.map_cons, List.map_nil]); first | done | rfl | (simp only [List.length_drop, List.length_take]; rfl)) ?_; (with_reducible refine (spec_GoodTopic.calls k2 x6_2 true _ A24.out).mono ?_); rintro e w26 ⟨rfl, hb⟩; refine ⟨_, rfl, ?_⟩; have n0_ := Aside0.mk (Kd.R_below HO_5.out hb); have n1_ := Aside0.mk (Kd.R_below HO_22.out hb); have n2_ := Aside0.mk (below_step (by repeat (first | (with_reducible first | exact HB.out | apply below_alloc | apply pw_below_drewN | apply below_drew1) | exact HB.out)) hb); clear HO_5; clear HO_22; clear HB; have HO_5 := n0_; have HO_22 := n1_; have HB := n2_; clear n0_ n1_ n2_; (try clear hb); (try clear hb2); (try clear hk); (try clear hi)))
                go_loopg [9, 44] k2 (fun kq v9 v44 w' => ∃ (x9_3 : List ByteArray) (x44_3 : Int), v44 = .int .i64 x44_3 ∧ Aside0 (spec_TopicFits.l1 kq a1 x9_3 t155 (t155.length : Int) x44_3 = some r) ∧ Aside0 (kq ≤ k2) ∧ Aside0 (Kd.R Kd.string 9 w' w.heap.size (fun k_ => some k_ ≠ ((.slice Ao12 t155.length co12) : Value).ownBlock) v9 x9_3) ∧ Aside0 (Kd.R Kd.string 9 w' w.heap.size (fun k_ => some k_ ≠ (v9 : Value).ownBlock) (.slice Ao12 t155.length co12) t155) ∧ Aside0 (Below w.heap.size w w'))
                case atStart => exact ⟨(([] : List ByteArray)), (0), (by first | rfl | (simp; done) | (simp [*]; done)), H', ⟨Nat.le_refl _⟩, ⟨by first | exact Kd.R_nil _ _ _ _ _ | exact Kd.N_nil _ _ _ _ _ | exact Kd.V_nil _ _ _ _ _ | exact Kd.Q_nil _ _ _ _ _ | exact Kd.S_nil _ _ _ _ _⟩, ⟨by exact Kd.R_mono HO_5.out (fun _ hk => (by simp [Value.ownBlock]))⟩, ⟨by repeat (first | (with_reducible first | exact HB.out | apply below_alloc | apply pw_below_drewN | apply below_drew1) | exact HB.out)⟩⟩
                case round =>
                  clear H'; (try clear c1); (try clear p1); (try clear q1); (try clear hx1); (try clear c2); (try clear p2); (try clear p6); (try clear c7); (try clear c11); (try clear c13); (try clear c13b0); (try clear c14); (try clear c14b0); (try clear c15); (try clear c15b0); (try clear p15); (try clear q15); (try clear hx15); (try clear c16); (try clear c16b0); (try clear c16b1); (try clear c17); (try clear c17b0); (try clear c17b1); (try clear c17b2); (try clear c18); (try clear c18b0); (try clear c18b1); (try clear c18b2); (try clear c19); (try clear c19b0); (try clear c19b1); (try clear c20); (try clear c20b0); (try clear c20b1); (try clear c20b2); (try clear c21); (try clear c21b0); (try clear c21b1); (try clear c21b2); (try clear c22); (try clear c22b0); (try clear c22b1); (try clear c22b2); (try clear c23); (try clear c23b0); (try clear c23b1); (try clear c23b2); (try clear c25); (try clear hx159_0); (try clear p159); (try clear p2); (try clear q159); (obtain ⟨x9_3, x44_3, rfl, HA, HK3, HO_9, HO_42, HB⟩ := hrel)
                  cases gk with
                  | zero => exact absurd HA.out (by simp [spec_TopicFits.l1])
                  | succ k3 =>
                    have H := HA.out; clear HA; (simp only [spec_TopicFits.l1] at H)
                    by_cases c27 : x44_3 < (t155.length : Int)
                    · rw [if_pos c27] at H
                      (have c27b0 : decide (x44_3 < (t155.length : Int)) = true := decide_eq_true c27); clear c27
                      by_cases c28 : 0 ≤ x44_3
                      · rw [if_pos c28] at H
                        (have c28b0 : decide (0 ≤ x44_3) = true := decide_eq_true c28); clear c28
                        by_cases c29 : x44_3 < (t155.length : Int)
                        · rw [if_pos c29] at H
                          (have c29b0 : decide (x44_3 < (t155.length : Int)) = true := decide_eq_true c29); clear c29
                          by_cases c30 : (rdOf ByteArray.empty t155 x44_3).toList = ([42, 42] : List UInt8)
                          · rw [if_pos c30] at H
                            (have c30b0 : ((rdOf ByteArray.empty t155 x44_3).toList == ([42, 42] : List UInt8)) = true := beq_iff_eq.mpr c30); (have c30b1 : ((rdOf ByteArray.empty t155 x44_3).toList != ([42, 42] : List UInt8)) = false := bne_eq_false_iff_eq.mpr c30); clear c30
                            by_cases c31 : (x9_3.length : Int) > 0
                            · rw [if_pos c31] at H
                              (have c31b0 : decide (0 < (x9_3.length : Int)) = true := decide_eq_true c31); (have c31b1 : decide (0 < x9_3.length) = true := decide_eq_true (by omega)); clear c31; (obtain ⟨ji32, hji32⟩ : ∃ j_ : Int, (wrap64 ((x9_3.length : Int) - 1)) = j_ := ⟨_, rfl⟩); (replace H : (if 0 ≤ (ji32) then (if (ji32) < (x9_3.length : Int) then (if (rdOf ByteArray.empty x9_3 (ji32)).toList = ([42, 42] : List UInt8) then (spec_TopicFits.l1 k3 a1 x9_3 t155 (t155.length : Int) (wrap64 (x44_3 + 1))) else (if x9_3.length < 8796093022208 then (spec_TopicFits.l1 k3 a1 (x9_3 ++ [rdOf ByteArray.empty t155 x44_3]) t155 (t155.length : Int) (wrap64 (x44_3 + 1))) else (none))) else (none)) else (none)) = some r := by first | (rw [hji32] at H; exact H) | (simp only [hji32] at H ⊢; exact H)); (have hji32w : (IntKind.i64.wrap ((x9_3.length : Int) - 1)) = ji32 := (i64_w _).trans hji32)
                              by_cases c33 : 0 ≤ (ji32)
                              · rw [if_pos c33] at H
                                (have c33b0 : decide (0 ≤ (ji32)) = true := decide_eq_true c33); clear c33
                                by_cases c34 : (ji32) < (x9_3.length : Int)
                                · rw [if_pos c34] at H
                                  (have c34b0 : decide ((ji32) < (x9_3.length : Int)) = true := decide_eq_true c34); clear c34
                                  by_cases c35 : (rdOf ByteArray.empty x9_3 (ji32)).toList = ([42, 42] : List UInt8)
                                  · rw [if_pos c35] at H
                                    (have c35b0 : ((rdOf ByteArray.empty x9_3 (ji32)).toList == ([42, 42] : List UInt8)) = true := beq_iff_eq.mpr c35); (have c35b1 : ((rdOf ByteArray.empty x9_3 (ji32)).toList != ([42, 42] : List UInt8)) = false := bne_eq_false_iff_eq.mpr c35); clear c35; (have H' := Aside0.mk H); clear H; (have p161 : 0 ≤ (x44_3 : Int) := of_decide_eq_true (by first | (with_reducible assumption) | assumption)); (have q161 : x44_3 < (t155.length : Int) := of_decide_eq_true (by first | (with_reducible assumption) | assumption)); (obtain ⟨ad161, e161, hx161_0⟩ := Kd.at_string (Kd.R_reads' HO_42.out).2.2 x44_3 p161 q161)
                                    cases e161
                                    (replace p161 := eq_true p161); (replace q161 := eq_true q161); (obtain ⟨Ao36, co36, eo36⟩ := Kd.R_slice HO_9.out); subst eo36; (have p162 : 0 ≤ ((ji32) : Int) := of_decide_eq_true (by first | (with_reducible assumption) | assumption)); (have q162 : (ji32) < (x9_3.length : Int) := of_decide_eq_true (by first | (with_reducible assumption) | assumption)); (obtain ⟨ad162, e162, hx162_0⟩ := Kd.at_string (Kd.R_reads' HO_9.out).2.2 (ji32) p162 q162)
                                    cases e162
                                    (replace p162 := eq_true p162); (replace q162 := eq_true q162)
                                    go_wp2
                                    go_roundg k3
                                    case measure => have := HJ3.out; have := HK2.out; have := HK3.out; omega
                                    case rel => exact ⟨(x9_3), (wrap64 (x44_3 + 1)), (by first | rfl | (simp; done) | (simp [*]; done)), H', ⟨by have := HJ3.out; have := HK2.out; have := HK3.out; omega⟩, ⟨by exact HO_9.out⟩, ⟨by exact HO_42.out⟩, ⟨by repeat (first | (with_reducible first | exact HB.out | apply below_alloc | apply pw_below_drewN | apply below_drew1) | exact HB.out)⟩⟩
                                  · rw [if_neg c35] at H
                                    (have c35b0 : ((rdOf ByteArray.empty x9_3 (ji32)).toList == ([42, 42] : List UInt8)) = false := beq_eq_false_iff_ne.mpr c35); (have c35b1 : ((rdOf ByteArray.empty x9_3 (ji32)).toList != ([42, 42] : List UInt8)) = true := bne_iff_ne.mpr c35)
                                    by_cases c37 : x9_3.length < 8796093022208
                                    · rw [if_pos c37] at H
                                      (have LMc37 := Aside0.mk c37); clear c37; (obtain ⟨y163, hy163⟩ : ∃ y_ : List ByteArray, y_ = (x9_3 ++ [rdOf ByteArray.empty t155 x44_3]) := ⟨_, rfl⟩); (replace H : (spec_TopicFits.l1 k3 a1 y163 t155 (t155.length : Int) (wrap64 (x44_3 + 1))) = some r := by first | (rw [hy163]; with_reducible exact H) | (have H2_ := (Option.bind_some _ _).symm.trans H; rw [hy163]; with_reducible exact H2_) | (have H2_ := (Option.bind_some _ _).symm.trans H; with_reducible exact H2_) | with_reducible exact H | (rw [hy163]; exact H) | exact H); (have Ny163 := Aside0.mk hy163); clear hy163; (have H' := Aside0.mk H); clear H; (have p161 : 0 ≤ (x44_3 : Int) := of_decide_eq_true (by first | (with_reducible assumption) | assumption)); (have q161 : x44_3 < (t155.length : Int) := of_decide_eq_true (by first | (with_reducible assumption) | assumption)); (obtain ⟨ad161, e161, hx161_0⟩ := Kd.at_string (Kd.R_reads' HO_42.out).2.2 x44_3 p161 q161)
                                      cases e161
                                      (replace p161 := eq_true p161); (replace q161 := eq_true q161); (obtain ⟨Ao38, co38, eo38⟩ := Kd.R_slice HO_9.out); subst eo38; (have p162 : 0 ≤ ((ji32) : Int) := of_decide_eq_true (by first | (with_reducible assumption) | assumption)); (have q162 : (ji32) < (x9_3.length : Int) := of_decide_eq_true (by first | (with_reducible assumption) | assumption)); (obtain ⟨ad162, e162, hx162_0⟩ := Kd.at_string (Kd.R_reads' HO_9.out).2.2 (ji32) p162 q162)
                                      cases e162
                                      (replace p162 := eq_true p162); (replace q162 := eq_true q162)
                                      go_wp2_with (first | ((with_reducible refine gate_builtin (b := .append) (xs := #[.tmp 64, .tmp 66]) rfl ?_); (try (refine gate_guard (by rfl) ?_; dsimp only)); at_builtin; refine Kd.R_append Kd.string (w0 := w) w.heap.size rfl (.tmp 64) (.tmp 66) 29 9 (.string ⟨#[]⟩) 16 rfl Tryd.underlying29 info9 rfl (by decide) (by omega) (.slice (some ad162) x9_3.length co38) x9_3 (rdOf ByteArray.empty t155 x44_3) [.string (rdOf ByteArray.empty t155 x44_3)] (fun k_ => some k_ ≠ (.slice (some ad161) t155.length co12 : Value).ownBlock) (fun _ => False) rfl rfl ?aP (fun _ hk => hk.elim) ?aF ?aO ?aB ?aS ?aL ?_; (case aP => exact rfl); (case aB => exact (by repeat (first | (with_reducible first | exact HB.out | apply below_alloc | apply pw_below_drewN | apply below_drew1) | exact HB.out))); (case aF => exact (fun k_ hk => Kd.fresh' (Kd.R_lt HO_42.out) k_ hk)); (case aO => exact HO_9.out); (case aS => exact (below_size (by repeat (first | (with_reducible first | exact HB.out | apply below_alloc | apply pw_below_drewN | apply below_drew1) | exact HB.out)))); (case aL => have := LMc37.out; omega); intro v164 w39 ho hb hg hat; rw [← Ny163.out] at ho; have n0_ := Aside0.mk (Kd.R_after (ok := (fun _ => True)) (by exact Kd.R_mono HO_42.out (fun _ hk => ⟨trivial, hk⟩)) hg hat); have n1_ := Aside0.mk (hb); have n2_ := Aside0.mk (ho); clear HO_42; clear HB; clear HO_9; have HO_42 := n0_; have HB := n1_; have HO165 := n2_; clear n0_ n1_ n2_; clear ho hb hg hat))
                                      go_roundg k3
                                      case measure => have := HJ3.out; have := HK2.out; have := HK3.out; omega
                                      case rel => exact ⟨(y163), (wrap64 (x44_3 + 1)), (by first | rfl | (simp; done) | (simp [*]; done)), H', ⟨by have := HJ3.out; have := HK2.out; have := HK3.out; omega⟩, ⟨by exact HO165.out⟩, ⟨by exact Kd.R_mono HO_42.out (fun _ hk => hk.2)⟩, ⟨by repeat (first | (with_reducible first | exact HB.out | apply below_alloc | apply pw_below_drewN | apply below_drew1) | exact HB.out)⟩⟩
                                    · rw [if_neg c37] at H
                                      exact absurd H (by simp)
                                · rw [if_neg c34] at H
                                  exact absurd H (by simp)
                              · rw [if_neg c33] at H
                                exact absurd H (by simp)
                            · rw [if_neg c31] at H
                              (have c31b0 : decide (0 < (x9_3.length : Int)) = false := decide_eq_false c31); (have c31b1 : decide (0 < x9_3.length) = false := decide_eq_false (by omega)); clear c31
                              by_cases c40 : x9_3.length < 8796093022208
                              · rw [if_pos c40] at H
                                (have LMc40 := Aside0.mk c40); clear c40; (obtain ⟨y166, hy166⟩ : ∃ y_ : List ByteArray, y_ = (x9_3 ++ [rdOf ByteArray.empty t155 x44_3]) := ⟨_, rfl⟩); (replace H : (spec_TopicFits.l1 k3 a1 y166 t155 (t155.length : Int) (wrap64 (x44_3 + 1))) = some r := by first | (rw [hy166]; with_reducible exact H) | (have H2_ := (Option.bind_some _ _).symm.trans H; rw [hy166]; with_reducible exact H2_) | (have H2_ := (Option.bind_some _ _).symm.trans H; with_reducible exact H2_) | with_reducible exact H | (rw [hy166]; exact H) | exact H); (have Ny166 := Aside0.mk hy166); clear hy166; (have H' := Aside0.mk H); clear H; (have p161 : 0 ≤ (x44_3 : Int) := of_decide_eq_true (by first | (with_reducible assumption) | assumption)); (have q161 : x44_3 < (t155.length : Int) := of_decide_eq_true (by first | (with_reducible assumption) | assumption)); (obtain ⟨ad161, e161, hx161_0⟩ := Kd.at_string (Kd.R_reads' HO_42.out).2.2 x44_3 p161 q161)
                                cases e161
                                (replace p161 := eq_true p161); (replace q161 := eq_true q161); (obtain ⟨Ao41, co41, eo41⟩ := Kd.R_slice HO_9.out); subst eo41
                                go_wp2_with (first | ((with_reducible refine gate_builtin (b := .append) (xs := #[.tmp 64, .tmp 66]) rfl ?_); (try (refine gate_guard (by rfl) ?_; dsimp only)); at_builtin; refine Kd.R_append Kd.string (w0 := w) w.heap.size rfl (.tmp 64) (.tmp 66) 29 9 (.string ⟨#[]⟩) 16 rfl Tryd.underlying29 info9 rfl (by decide) (by omega) (.slice Ao41 x9_3.length co41) x9_3 (rdOf ByteArray.empty t155 x44_3) [.string (rdOf ByteArray.empty t155 x44_3)] (fun k_ => some k_ ≠ (.slice (some ad161) t155.length co12 : Value).ownBlock) (fun _ => False) rfl rfl ?aP (fun _ hk => hk.elim) ?aF ?aO ?aB ?aS ?aL ?_; (case aP => exact rfl); (case aB => exact (by repeat (first | (with_reducible first | exact HB.out | apply below_alloc | apply pw_below_drewN | apply below_drew1) | exact HB.out))); (case aF => exact (fun k_ hk => Kd.fresh' (Kd.R_lt HO_42.out) k_ hk)); (case aO => exact HO_9.out); (case aS => exact (below_size (by repeat (first | (with_reducible first | exact HB.out | apply below_alloc | apply pw_below_drewN | apply below_drew1) | exact HB.out)))); (case aL => have := LMc40.out; omega); intro v167 w42 ho hb hg hat; rw [← Ny166.out] at ho; have n0_ := Aside0.mk (Kd.R_after (ok := (fun _ => True)) (by exact Kd.R_mono HO_42.out (fun _ hk => ⟨trivial, hk⟩)) hg hat); have n1_ := Aside0.mk (hb); have n2_ := Aside0.mk (ho); clear HO_42; clear HB; clear HO_9; have HO_42 := n0_; have HB := n1_; have HO168 := n2_; clear n0_ n1_ n2_; clear ho hb hg hat))
                                go_roundg k3
                                case measure => have := HJ3.out; have := HK2.out; have := HK3.out; omega
                                case rel => exact ⟨(y166), (wrap64 (x44_3 + 1)), (by first | rfl | (simp; done) | (simp [*]; done)), H', ⟨by have := HJ3.out; have := HK2.out; have := HK3.out; omega⟩, ⟨by exact HO168.out⟩, ⟨by exact Kd.R_mono HO_42.out (fun _ hk => hk.2)⟩, ⟨by repeat (first | (with_reducible first | exact HB.out | apply below_alloc | apply pw_below_drewN | apply below_drew1) | exact HB.out)⟩⟩
                              · rw [if_neg c40] at H
                                exact absurd H (by simp)
                          · rw [if_neg c30] at H
                            (have c30b0 : ((rdOf ByteArray.empty t155 x44_3).toList == ([42, 42] : List UInt8)) = false := beq_eq_false_iff_ne.mpr c30); (have c30b1 : ((rdOf ByteArray.empty t155 x44_3).toList != ([42, 42] : List UInt8)) = true := bne_iff_ne.mpr c30)
                            by_cases c43 : x9_3.length < 8796093022208
                            · rw [if_pos c43] at H
                              (have LMc43 := Aside0.mk c43); clear c43; (obtain ⟨y169, hy169⟩ : ∃ y_ : List ByteArray, y_ = (x9_3 ++ [rdOf ByteArray.empty t155 x44_3]) := ⟨_, rfl⟩); (replace H : (spec_TopicFits.l1 k3 a1 y169 t155 (t155.length : Int) (wrap64 (x44_3 + 1))) = some r := by first | (rw [hy169]; with_reducible exact H) | (have H2_ := (Option.bind_some _ _).symm.trans H; rw [hy169]; with_reducible exact H2_) | (have H2_ := (Option.bind_some _ _).symm.trans H; with_reducible exact H2_) | with_reducible exact H | (rw [hy169]; exact H) | exact H); (have Ny169 := Aside0.mk hy169); clear hy169; (have H' := Aside0.mk H); clear H; (have p161 : 0 ≤ (x44_3 : Int) := of_decide_eq_true (by first | (with_reducible assumption) | assumption)); (have q161 : x44_3 < (t155.length : Int) := of_decide_eq_true (by first | (with_reducible assumption) | assumption)); (obtain ⟨ad161, e161, hx161_0⟩ := Kd.at_string (Kd.R_reads' HO_42.out).2.2 x44_3 p161 q161)
                              cases e161
                              (replace p161 := eq_true p161); (replace q161 := eq_true q161)
                              go_wp2_with (first | ((with_reducible refine gate_builtin (b := .append) (xs := #[.tmp 64, .tmp 66]) rfl ?_); (try (refine gate_guard (by rfl) ?_; dsimp only)); at_builtin; refine Kd.R_append Kd.string (w0 := w) w.heap.size rfl (.tmp 64) (.tmp 66) 29 9 (.string ⟨#[]⟩) 16 rfl Tryd.underlying29 info9 rfl (by decide) (by omega) u9 x9_3 (rdOf ByteArray.empty t155 x44_3) [.string (rdOf ByteArray.empty t155 x44_3)] (fun k_ => some k_ ≠ (.slice (some ad161) t155.length co12 : Value).ownBlock) (fun _ => False) rfl rfl ?aP (fun _ hk => hk.elim) ?aF ?aO ?aB ?aS ?aL ?_; (case aP => exact rfl); (case aB => exact (by repeat (first | (with_reducible first | exact HB.out | apply below_alloc | apply pw_below_drewN | apply below_drew1) | exact HB.out))); (case aF => exact (fun k_ hk => Kd.fresh' (Kd.R_lt HO_42.out) k_ hk)); (case aO => exact HO_9.out); (case aS => exact (below_size (by repeat (first | (with_reducible first | exact HB.out | apply below_alloc | apply pw_below_drewN | apply below_drew1) | exact HB.out)))); (case aL => have := LMc43.out; omega); intro v170 w44 ho hb hg hat; rw [← Ny169.out] at ho; have n0_ := Aside0.mk (Kd.R_after (ok := (fun _ => True)) (by exact Kd.R_mono HO_42.out (fun _ hk => ⟨trivial, hk⟩)) hg hat); have n1_ := Aside0.mk (hb); have n2_ := Aside0.mk (ho); clear HO_42; clear HB; clear HO_9; have HO_42 := n0_; have HB := n1_; have HO171 := n2_; clear n0_ n1_ n2_; clear ho hb hg hat))
                              go_roundg k3
                              case measure => have := HJ3.out; have := HK2.out; have := HK3.out; omega
                              case rel => exact ⟨(y169), (wrap64 (x44_3 + 1)), (by first | rfl | (simp; done) | (simp [*]; done)), H', ⟨by have := HJ3.out; have := HK2.out; have := HK3.out; omega⟩, ⟨by exact HO171.out⟩, ⟨by exact Kd.R_mono HO_42.out (fun _ hk => hk.2)⟩, ⟨by repeat (first | (with_reducible first | exact HB.out | apply below_alloc | apply pw_below_drewN | apply below_drew1) | exact HB.out)⟩⟩
                            · rw [if_neg c43] at H
                              exact absurd H (by simp)
                        · rw [if_neg c29] at H
                          exact absurd H (by simp)
                      · rw [if_neg c28] at H
                        exact absurd H (by simp)
                    · rw [if_neg c27] at H
                      (have c27b0 : decide (x44_3 < (t155.length : Int)) = false := decide_eq_false c27); clear c27; (replace H := Option.bind_eq_some_iff.mp H); (obtain ⟨t172, A450, H⟩ := H); (replace H : ((spec_l24Fits.f k3 x9_3 t172).bind fun t175 => (some t175)) = some r := H); (have A45 := Aside0.mk A450); clear A450; (replace H := Option.bind_eq_some_iff.mp H); (obtain ⟨t175, A460, H⟩ := H); (replace H : (some t175) = some r := H); (have A46 := Aside0.mk A460); clear A460; (obtain rfl := Option.some.inj H)
                      go_wp2_with (first | ((with_reducible refine gate_callee (f := 15) rfl ?_); refine goesL_ (some 71) rfl rfl Tryd.func15 (by kernel_rfl) rfl #[.string a1] rfl (by (try simp only [List.map_toArray, List.map_cons, List.map_nil]); first | done | rfl | (simp only [List.length_drop, List.length_take]; rfl)) ?_; (with_reducible refine (spec_l24Parts.calls k3 a1 t172 _ A45.out).mono ?_); rintro e w47 ⟨v173, rfl, ho0, hb⟩; refine ⟨_, rfl, ?_⟩; have n0_ := Aside0.mk (Kd.R_elder' HO_9.out (Kd.R_base ho0) hb); have n1_ := Aside0.mk (Kd.R_elder' HO_42.out (Kd.R_base ho0) hb); have n2_ := Aside0.mk (Kd.R_lower (Kd.R_new' (Kd.R_new' ho0 (Kd.R_lt HO_9.out)) (Kd.R_lt HO_42.out)) (below_size (by repeat (first | (with_reducible first | exact HB.out | apply below_alloc | apply pw_below_drewN | apply below_drew1) | exact HB.out)))); have n3_ := Aside0.mk (below_step (by repeat (first | (with_reducible first | exact HB.out | apply below_alloc | apply pw_below_drewN | apply below_drew1) | exact HB.out)) hb); clear HO_9; clear HO_42; clear HB; have HO_9 := n0_; have HO_42 := n1_; have HO174 := n2_; have HB := n3_; clear n0_ n1_ n2_ n3_; (try clear hb); (try clear hb2); (try clear hk); (try clear hi); (try clear ho0); obtain ⟨Ao48, co48, eo48⟩ := Kd.R_slice HO_9.out; subst eo48; obtain ⟨Ao49, co49, eo49⟩ := Kd.R_slice HO174.out; subst eo49) | ((with_reducible refine gate_callee (f := 22) rfl ?_); refine goesL_ (some 72) rfl rfl Tryd.func22 (by kernel_rfl) rfl #[.slice Ao48 x9_3.length co48, .slice Ao49 t172.length co49] rfl (by (try simp only [List.map_toArray, List.map_cons, List.map_nil]); first | done | rfl | (simp only [List.length_drop, List.length_take]; rfl)) ?_; (with_reducible refine (spec_l24Fits.calls k3 _ _ x9_3 _ _ t172 t175 _ ?side1 ?side2 ?side3 ?side4 A46.out).mono ?_); (case side1 => repeat (first | exact (Kd.R_reads' HO_9.out).2.2 | (with_reducible refine Kd.C_alloc ?_ _) | (with_reducible refine Kd.C_drewN ?_ _) | (with_reducible refine Kd.C_drew ?_))); (case side2 => exact (Kd.R_reads' HO_9.out).2.1); (case side3 => repeat (first | exact (Kd.R_reads' HO174.out).2.2 | (with_reducible refine Kd.C_alloc ?_ _) | (with_reducible refine Kd.C_drewN ?_ _) | (with_reducible refine Kd.C_drew ?_))); (case side4 => exact (Kd.R_reads' HO174.out).2.1); rintro e w50 ⟨rfl, hb⟩; refine ⟨_, rfl, ?_⟩; have n0_ := Aside0.mk (Kd.R_below HO_9.out hb); have n1_ := Aside0.mk (Kd.R_below HO_42.out hb); have n2_ := Aside0.mk (Kd.R_below HO174.out hb); have n3_ := Aside0.mk (below_step (by repeat (first | (with_reducible first | exact HB.out | apply below_alloc | apply pw_below_drewN | apply below_drew1) | exact HB.out)) hb); clear HO_9; clear HO_42; clear HO174; clear HB; have HO_9 := n0_; have HO_42 := n1_; have HO174 := n2_; have HB := n3_; clear n0_ n1_ n2_ n3_; (try clear hb); (try clear hb2); (try clear hk); (try clear hi)))
                      go_ret
                      exact ⟨by first | rfl | (simp [errW_none, errW_some] <;> rfl) | (simp [*, errW_none, errW_some] <;> rfl), by repeat (first | (with_reducible first | exact HB.out | apply below_alloc | apply pw_below_drewN | apply below_drew1) | exact HB.out)⟩
              · replace c25 := Bool.eq_false_iff.mpr c25
                subst c25; (have H1 : (some false) = some r := by rw [if_neg (show ¬ (false = true) by decide)] at H; exact H); clear H; have H := H1; clear H1; (obtain rfl := Option.some.inj H)
                go_wp2_with (first | ((with_reducible refine gate_callee (f := 7) rfl ?_); refine goesL_ (some 40) rfl rfl Tryd.func7 (by kernel_rfl) rfl #[.string x6_2] rfl (by (try simp only [List.map_toArray, List.map_cons, List.map_nil]); first | done | rfl | (simp only [List.length_drop, List.length_take]; rfl)) ?_; (with_reducible refine (spec_GoodTopic.calls k2 x6_2 false _ A24.out).mono ?_); rintro e w51 ⟨rfl, hb⟩; refine ⟨_, rfl, ?_⟩; have n0_ := Aside0.mk (Kd.R_below HO_5.out hb); have n1_ := Aside0.mk (Kd.R_below HO_22.out hb); have n2_ := Aside0.mk (below_step (by repeat (first | (with_reducible first | exact HB.out | apply below_alloc | apply pw_below_drewN | apply below_drew1) | exact HB.out)) hb); clear HO_5; clear HO_22; clear HB; have HO_5 := n0_; have HO_22 := n1_; have HB := n2_; clear n0_ n1_ n2_; (try clear hb); (try clear hb2); (try clear hk); (try clear hi)))
                go_ret
                exact ⟨by first | rfl | (simp [errW_none, errW_some] <;> rfl) | (simp [*, errW_none, errW_some] <;> rfl), by repeat (first | (with_reducible first | exact HB.out | apply below_alloc | apply pw_below_drewN | apply below_drew1) | exact HB.out)⟩

/-! ### slices_Clone_string_string: function 23 -/
def slices_Clone_string_string.f (l0 : List ByteArray) : Option (List ByteArray) := (some (([] : List ByteArray) : List ByteArray)).bind fun y176 => (if y176.length + l0.length < 8796093022208 then (some (y176 ++ l0)) else (none))
set_option maxHeartbeats 8000000 in
set_option maxRecDepth 100000 in
theorem slices_Clone_string_string.calls (A0 : Option Addr) (c0 : Nat) (l0 : List ByteArray) (r : List ByteArray) (w : World) (hr0 : Kd.C Kd.string w A0 l0.length l0) (hc0 : l0.length ≤ c0) (h : slices_Clone_string_string.f l0 = some r) :
    Calls Tryd.prog 23 #[.slice A0 l0.length c0] w fun e w' => ∃ v0_ : Value, e = .returned (v0_) ∧ Kd.R Kd.string 9 w' w.heap.size (fun _ => True) v0_ r ∧ Below w.heap.size w w' := by
  by_cases hA_ : A0 = none
  · subst hA_
    have hl_ : l0 = [] := by
      obtain ⟨_, _, h2⟩ := hr0
      by_cases hz : 0 < l0.length
      · obtain ⟨ad, he, _⟩ := h2 hz
        cases he
      · exact List.length_eq_zero_iff.1 (by omega)
    subst hl_; (obtain rfl : r = [] := by simpa [slices_Clone_string_string.f] using h.symm); (have hq_ : ∀ (w : World), (binOp .eql 29 (.slice none 0 c0) (.slice none 0 0)).run Tryd.prog w = .ok (.bool true) w := fun w => Go.Lib.run_eql_slice_nil w 29 _ _ _ _ 0 0 Tryd.underlying29)
    go_enter Tryd.func23, Tryd.ntmps23
    go_wp2
    go_ret
    exact ⟨_, rfl, Kd.R_nil _ _ _ _ _, Below.refl _ _⟩
  obtain ⟨a0_, rfl⟩ : ∃ a_, A0 = some a_ := by
    cases A0 with
    | none => exact absurd rfl hA_
    | some a => exact ⟨a, rfl⟩
  clear hA_; (have hq_ : ∀ (w : World), (binOp .eql 29 (.slice (some a0_) l0.length c0) (.slice none 0 0)).run Tryd.prog w = .ok (.bool false) w := fun w => Go.Lib.run_eql_slice_nil w 29 _ _ _ _ 0 0 Tryd.underlying29); (have HR0 := Aside0.mk hr0); (have HC0 := Aside0.mk hc0); clear hr0 hc0; (have HB := Aside0.mk (Below.refl w.heap.size w)); (have H : ((some (([] : List ByteArray) : List ByteArray)).bind fun y176 => (if y176.length + l0.length < 8796093022208 then (some (y176 ++ l0)) else (none))) = some r := h); clear h; (obtain ⟨y176, hy176⟩ : ∃ y_ : List ByteArray, y_ = (([] : List ByteArray)) := ⟨_, rfl⟩); (replace H : (if y176.length + l0.length < 8796093022208 then (some (y176 ++ l0)) else (none)) = some r := by first | (rw [hy176]; with_reducible exact H) | (have H2_ := (Option.bind_some _ _).symm.trans H; rw [hy176]; with_reducible exact H2_) | (have H2_ := (Option.bind_some _ _).symm.trans H; with_reducible exact H2_) | with_reducible exact H | (rw [hy176]; exact H) | exact H); (have Ny176 := Aside0.mk hy176); clear hy176
  by_cases c2 : y176.length + l0.length < 8796093022208
  · rw [if_pos c2] at H
    (have LMc2 := Aside0.mk c2); clear c2; (obtain ⟨y179, hy179⟩ : ∃ y_ : List ByteArray, y_ = (y176 ++ l0) := ⟨_, rfl⟩); (replace H : (some y179) = some r := by first | (rw [hy179]; with_reducible exact H) | (have H2_ := (Option.bind_some _ _).symm.trans H; rw [hy179]; with_reducible exact H2_) | (have H2_ := (Option.bind_some _ _).symm.trans H; with_reducible exact H2_) | with_reducible exact H | (rw [hy179]; exact H) | exact H); (have Ny179 := Aside0.mk hy179); clear hy179; (obtain rfl := Option.some.inj H)
    go_enter Tryd.func23, Tryd.ntmps23
    go_wp2_with (first | ((with_reducible refine gate_dst (N := 5) rfl ?_); refine Kd.R_lit Kd.string _ 9 ?hg (N := 5) ?hd (xs := ([] : List ByteArray)) (inner := []) (ok := fun _ => True) (okp := fun _ => True) ?hr ?hp (fun _ hk => hk) trivial (Below.refl _ _) (Nat.le_refl _) (by simp) ?_; (case hd => rfl); (case hg => rfl); (case hr => first | (go_simp; done) | (go_simp; rfl)); (case hp => exact (Reps.none _ _)); intro v177 w3 ho4 hb hg_ hnew_; clear hg_ hnew_; (first | rw [← Ny176.out] at ho4 | (simp only [Int.reduceToNat] at ho4; rw [← Ny176.out] at ho4)); have n0_ := Aside0.mk (Kd.R_lower ho4 (below_size (by repeat (first | (with_reducible first | exact HB.out | apply below_alloc | apply pw_below_drewN | apply below_drew1) | exact HB.out)))); have n1_ := Aside0.mk (below_step (by repeat (first | (with_reducible first | exact HB.out | apply below_alloc | apply pw_below_drewN | apply below_drew1) | exact HB.out)) hb); clear HB; have HO178 := n0_; have HB := n1_; clear n0_ n1_; clear hb ho4) | ((with_reducible refine gate_builtin (b := .append) (xs := #[.tmp 5, .tmp 6]) rfl ?_); at_builtin; refine Kd.R_append_rows Kd.string (w0 := w) w.heap.size rfl (.tmp 5) (.tmp 6) 29 9 (.string ⟨#[]⟩) 16 rfl Tryd.underlying29 info9 rfl (by decide) (by omega) v177 y176 l0 _ _ _ (fun _ => True) (fun _ => False) rfl rfl ?aO ?aR (fun _ _ h => h) (fun _ h => h.elim) ?aF ?aB ?aS ?aL ?_; (case aR => repeat (first | exact (Kd.C_below HR0.out HB.out) | (with_reducible refine Kd.C_alloc ?_ _) | (with_reducible refine Kd.C_drewN ?_ _) | (with_reducible refine Kd.C_drew ?_))); (case aB => exact (by repeat (first | (with_reducible first | exact HB.out | apply below_alloc | apply pw_below_drewN | apply below_drew1) | exact HB.out))); (case aF => exact (fun _ _ => trivial)); (case aO => exact HO178.out); (case aS => exact (below_size (by repeat (first | (with_reducible first | exact HB.out | apply below_alloc | apply pw_below_drewN | apply below_drew1) | exact HB.out)))); (case aL => have := LMc2.out; omega); intro v180 w5 ho hb hg hat; rw [← Ny179.out] at ho; have n0_ := Aside0.mk (hb); have n1_ := Aside0.mk (ho); clear HB; clear HO178; have HB := n0_; have HO181 := n1_; clear n0_ n1_; clear ho hb hg hat))
    go_ret
    exact ⟨_, by first | rfl | (simp [errW_none, errW_some] <;> rfl) | (simp [*, errW_none, errW_some] <;> rfl), by exact HO181.out, by repeat (first | (with_reducible first | exact HB.out | apply below_alloc | apply pw_below_drewN | apply below_drew1) | exact HB.out)⟩
  · rw [if_neg c2] at H
    exact absurd H (by simp)

/-! ### strings_Join: function 24 -/
def strings_Join.f (k : Nat) (l0 : List ByteArray) (a1 : ByteArray) : Option (ByteArray) := if (Lib.join (l0.map (·.data.toList)) a1.data.toList).length ≤ 140737488355328 ∧ l0.length ≤ 140737488355328 then some ⟨(Lib.join (l0.map (·.data.toList)) a1.data.toList).toArray⟩ else none
theorem strings_Join.mono : ∀ a0 a1 k, LeO (strings_Join.f k a0 a1) (strings_Join.f (k + 1) a0 a1) := fun _ _ _ => LeO.refl _
theorem strings_Join.calls (k : Nat) (A0 : Option Addr) (c0 : Nat) (l0 : List ByteArray) (a1 : ByteArray) (r : ByteArray) (w : World) (hr0 : Kd.C Kd.string w A0 l0.length l0) (hc0 : l0.length ≤ c0) (h : strings_Join.f k l0 a1 = some r) :
    Calls Tryd.prog 24 #[.slice A0 l0.length c0, .string a1] w fun e w' => e = .returned (.string r) ∧ Below w.heap.size w w' := by
  unfold strings_Join.f at h
  by_cases hc : (Lib.join (l0.map (·.data.toList)) a1.data.toList).length ≤ 140737488355328 ∧ l0.length ≤ 140737488355328
  · rw [if_pos hc] at h
    (obtain rfl := Option.some.inj h); (obtain ⟨e1, hN, hcell⟩ := hr0)
    by_cases hn : 0 < l0.length
    · obtain ⟨⟨bk, o, sp⟩, rfl, hcs⟩ := hcell hn
      have hj : ∀ (j : Nat) x, l0[j]? = some x → w.cell? ((⟨bk, o, sp⟩ : Addr).add j) = some (.string x) := fun j x hx => by
        (obtain ⟨c, hs, hr, hcl⟩ := hcs j x hx); (have hr' : c = [Value.string x] := hr); (subst hr'); (have z := hcl 0 (.string x) rfl); (have e2 : j * Kd.string.sz + 0 = j := Nat.mul_one j); (rw [e2] at z)
        exact z
      (obtain ⟨x0, hx0⟩ : ∃ x, l0[0]? = some x := ⟨l0[0], List.getElem?_eq_getElem hn⟩); (have z0 : w.cell? ⟨bk, o, sp⟩ = some (.string x0) := hj 0 x0 hx0)
      have hsp : sp = none := by
        unfold World.cell? at z0
        split at z0
        · by_cases hs : sp.isSome
          · rw [if_pos hs] at z0
            cases z0
          · exact Option.not_isSome_iff_eq_none.1 hs
        · cases z0
      subst hsp
      refine (Tryd.strings_Join bk o c0 l0 a1 w (fun j x hx => ?_) (World.block_lt_of_cell? w _ z0) hc.2 hc0 hc.1)
      have z := hj j x hx
      unfold Addr.add at z
      split at z
      · rename_i h0
        subst h0
        exact z
      · exact z
    · have h0 : l0 = [] := List.length_eq_zero_iff.1 (by omega)
      subst h0
      exact (Tryd.strings_Join_none A0 c0 a1 w).mono fun e w' ⟨he, hw⟩ => ⟨he, hw ▸ Below.refl _ _⟩
  · rw [if_neg hc] at h
    cases h

end Go.Proofs.YtmlejakajcmbdaaDoor.PFnTopics
