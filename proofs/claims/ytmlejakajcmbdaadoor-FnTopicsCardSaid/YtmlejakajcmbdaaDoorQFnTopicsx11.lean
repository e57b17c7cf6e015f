-- Written by this session's own program for the law FnTopics; it began as the print's text.
import Derived.Test.YtmlejakajcmbdaaDoorQFnTopicsx0
import Derived.Test.YtmlejakajcmbdaaDoorQFnTopicsx1
import Derived.Test.YtmlejakajcmbdaaDoorQFnTopicsx2
import Derived.Test.YtmlejakajcmbdaaDoorQFnTopicsx3
import Derived.Test.YtmlejakajcmbdaaDoorQFnTopicsx5
import Derived.Test.YtmlejakajcmbdaaDoorQFnTopicsx7
import Derived.Test.YtmlejakajcmbdaaDoorQFnTopicsx9
import Derived.Test.YtmlejakajcmbdaaDoorQFnTopicsx10
namespace Go.Proofs.YtmlejakajcmbdaaDoor.PFnTopics
open Go.RowKit Go.Proofs.YtmlejakajcmbdaaDoorW.PrintWords Go.Proofs.YtmlejakajcmbdaaDoorW.PrintLast Go.Proofs.YtmlejakajcmbdaaDoorW.PrintMore
attribute [local go_sem] max2_int min2_int max_two min_two max_three min_three max_four min_four   -- for this text's walks alone
set_option linter.unusedVariables false
set_option linter.unusedSimpArgs false

/-! ### spec_DrawTopicFits: function 14 -/
def spec_DrawTopicFits.l0 : Nat → ByteArray → ByteArray → List ByteArray → Int → Int → List Int → Int → Int → Option (ByteArray × ByteArray)
  | 0, _, _, _, _, _, _, _, _ => none
  | k + 1, x5, x6, x20, x21, x22, x281000, x281001, x281002 => if x22 < x21 then (if 0 ≤ x22 then (if x22 < (x20.length : Int) then ((spec_l1Cur_pick.f x281000 x281001 x281002 6).bind fun bt294 => (if bt294.1 = 0 then (if 1 + 1 ≤ 9223372036854775807 then (if x6.size + 2 ≤ 9223372036854775807 then (spec_DrawTopicFits.l0 k x5 (x6 ++ ((⟨#[47]⟩ : ByteArray) ++ (⟨#[42]⟩ : ByteArray))) x20 x21 (wrap64 (x22 + 1)) x281000 bt294.2.1 bt294.2.2) else (none)) else (none)) else (if bt294.1 = 1 then (if 1 + 2 ≤ 9223372036854775807 then (if x6.size + 3 ≤ 9223372036854775807 then (spec_DrawTopicFits.l0 k x5 (x6 ++ ((⟨#[47]⟩ : ByteArray) ++ (⟨#[42, 42]⟩ : ByteArray))) x20 x21 (wrap64 (x22 + 1)) x281000 bt294.2.1 bt294.2.2) else (none)) else (none)) else (if bt294.1 = 2 then (if x6.size + 3 ≤ 9223372036854775807 then (if 1 + (rdOf ByteArray.empty x20 x22).size ≤ 9223372036854775807 then (if (x6 ++ (⟨#[47, 42, 42]⟩ : ByteArray)).size + ((⟨#[47]⟩ : ByteArray) ++ (rdOf ByteArray.empty x20 x22)).size ≤ 9223372036854775807 then (spec_DrawTopicFits.l0 k x5 ((x6 ++ (⟨#[47, 42, 42]⟩ : ByteArray)) ++ ((⟨#[47]⟩ : ByteArray) ++ (rdOf ByteArray.empty x20 x22))) x20 x21 (wrap64 (x22 + 1)) x281000 bt294.2.1 bt294.2.2) else (none)) else (none)) else (none)) else (if bt294.1 = 3 then ((spec_l1Cur_one.f x281000 bt294.2.1 bt294.2.2 3).bind fun bt297 => (if bt297.1 = true then (spec_DrawTopicFits.l0 k x5 x6 x20 x21 (wrap64 (x22 + 1)) x281000 bt297.2.1 bt297.2.2) else (if 1 + (rdOf ByteArray.empty x20 x22).size ≤ 9223372036854775807 then (if x6.size + ((⟨#[47]⟩ : ByteArray) ++ (rdOf ByteArray.empty x20 x22)).size ≤ 9223372036854775807 then (spec_DrawTopicFits.l0 k x5 (x6 ++ ((⟨#[47]⟩ : ByteArray) ++ (rdOf ByteArray.empty x20 x22))) x20 x21 (wrap64 (x22 + 1)) x281000 bt297.2.1 bt297.2.2) else (none)) else (none)))) else (if 1 + (rdOf ByteArray.empty x20 x22).size ≤ 9223372036854775807 then (if x6.size + ((⟨#[47]⟩ : ByteArray) ++ (rdOf ByteArray.empty x20 x22)).size ≤ 9223372036854775807 then (spec_DrawTopicFits.l0 k x5 (x6 ++ ((⟨#[47]⟩ : ByteArray) ++ (rdOf ByteArray.empty x20 x22))) x20 x21 (wrap64 (x22 + 1)) x281000 bt294.2.1 bt294.2.2) else (none)) else (none))))))) else (none)) else (none)) else (some (x6, x5))
def spec_DrawTopicFits.f (k : Nat) (l0 : List Int) : Option (ByteArray × ByteArray) := (spec_l1Cur_topic.f k l0 0 0).bind fun bt281 => ((spec_l1Cur_one.f l0 bt281.2.1 bt281.2.2 4).bind fun bt284 => (if bt284.1 = true then ((spec_l1Cur_topic.f k l0 bt284.2.1 bt284.2.2).bind fun bt287 => (some (bt287.1, bt281.1))) else ((spec_l24Parts.f k bt281.1).bind fun t290 => (spec_DrawTopicFits.l0 k bt281.1 (⟨#[]⟩ : ByteArray) t290 (t290.length : Int) 0 l0 bt284.2.1 bt284.2.2))))
theorem spec_DrawTopicFits.mono_l : ∀ k, (∀ y0 y1 y2 y3 y4 y5 y6 y7, LeO (spec_DrawTopicFits.l0 k y0 y1 y2 y3 y4 y5 y6 y7) (spec_DrawTopicFits.l0 (k + 1) y0 y1 y2 y3 y4 y5 y6 y7))
  | 0 => fun _ _ _ _ _ _ _ _ r h => by simp [spec_DrawTopicFits.l0] at h
  | k + 1 => by
    have ih0 := spec_DrawTopicFits.mono_l k
    · intro y0 y1 y2 y3 y4 y5 y6 y7
      unfold spec_DrawTopicFits.l0
      repeat' first
      | (with_reducible exact ih0 _ _ _ _ _ _ _ _)
      | (with_reducible exact spec_l1Cur_topic.mono _ _ _ _)
      | (with_reducible exact spec_l24Parts.mono _ _)
      | (with_reducible exact LeO.refl _)
      | (with_reducible exact LeO.none _)
      | (with_reducible refine LeO.ite ?_ ?_)
      | (with_reducible refine LeO.bind ?_ (fun _ => ?_))
      | exact ih0 _ _ _ _ _ _ _ _
      | exact spec_l1Cur_topic.mono _ _ _ _
      | exact spec_l24Parts.mono _ _
      | exact LeO.none _
      | refine LeO.ite ?_ ?_
      | refine LeO.bind ?_ (fun _ => ?_)
theorem spec_DrawTopicFits.mono : ∀ a0 k, LeO (spec_DrawTopicFits.f k a0) (spec_DrawTopicFits.f (k + 1) a0) := by
  intro a0 k
  have ih0 := spec_DrawTopicFits.mono_l k
  unfold spec_DrawTopicFits.f
  repeat' first
      | (with_reducible exact ih0 _ _ _ _ _ _ _ _)
      | (with_reducible exact spec_l1Cur_topic.mono _ _ _ _)
      | (with_reducible exact spec_l24Parts.mono _ _)
      | (with_reducible exact LeO.refl _)
      | (with_reducible exact LeO.none _)
      | (with_reducible refine LeO.ite ?_ ?_)
      | (with_reducible refine LeO.bind ?_ (fun _ => ?_))
      | exact ih0 _ _ _ _ _ _ _ _
      | exact spec_l1Cur_topic.mono _ _ _ _
      | exact spec_l24Parts.mono _ _
      | exact LeO.none _
      | refine LeO.ite ?_ ?_
      | refine LeO.bind ?_ (fun _ => ?_)
set_option maxHeartbeats 8000000 in
set_option maxRecDepth 100000 in
theorem spec_DrawTopicFits.calls (k : Nat) (A0 : Option Addr) (c0 : Nat) (l0 : List Int) (r1 : ByteArray) (r2 : ByteArray) (w : World) (hr0 : Kd.C (Kd.int .u8) w A0 l0.length l0) (hc0 : l0.length ≤ c0) (h : spec_DrawTopicFits.f k l0 = some (r1, r2)) :
    Calls Tryd.prog 14 #[.slice A0 l0.length c0] w fun e w' => e = .returned (.tuple #[.string r1, .string r2]) ∧ Below w.heap.size w w' := by
  have hu41 := Tryd.underlying41; (have HR0 := Aside0.mk hr0); (have HC0 := Aside0.mk hc0); clear hr0 hc0; (have HB := Aside0.mk (Below.refl w.heap.size w)); (have H : ((spec_l1Cur_topic.f k l0 0 0).bind fun bt281 => ((spec_l1Cur_one.f l0 bt281.2.1 bt281.2.2 4).bind fun bt284 => (if bt284.1 = true then ((spec_l1Cur_topic.f k l0 bt284.2.1 bt284.2.2).bind fun bt287 => (some (bt287.1, bt281.1))) else ((spec_l24Parts.f k bt281.1).bind fun t290 => (spec_DrawTopicFits.l0 k bt281.1 (⟨#[]⟩ : ByteArray) t290 (t290.length : Int) 0 l0 bt284.2.1 bt284.2.2))))) = some (r1, r2) := h); clear h; (replace H := Option.bind_eq_some_iff.mp H); (obtain ⟨⟨t281, t282, t283⟩, A20, H⟩ := H); (replace H : ((spec_l1Cur_one.f l0 t282 t283 4).bind fun bt284 => (if bt284.1 = true then ((spec_l1Cur_topic.f k l0 bt284.2.1 bt284.2.2).bind fun bt287 => (some (bt287.1, t281))) else ((spec_l24Parts.f k t281).bind fun t290 => (spec_DrawTopicFits.l0 k t281 (⟨#[]⟩ : ByteArray) t290 (t290.length : Int) 0 l0 bt284.2.1 bt284.2.2)))) = some (r1, r2) := H); (have A2 := Aside0.mk A20); clear A20; (replace H := Option.bind_eq_some_iff.mp H); (obtain ⟨⟨t284, t285, t286⟩, A30, H⟩ := H); (replace H : (if t284 = true then ((spec_l1Cur_topic.f k l0 t285 t286).bind fun bt287 => (some (bt287.1, t281))) else ((spec_l24Parts.f k t281).bind fun t290 => (spec_DrawTopicFits.l0 k t281 (⟨#[]⟩ : ByteArray) t290 (t290.length : Int) 0 l0 t285 t286))) = some (r1, r2) := H); (have A3 := Aside0.mk A30); clear A30
  by_cases c4 : t284 = true
  · subst c4
    (have H1 : ((spec_l1Cur_topic.f k l0 t285 t286).bind fun bt287 => (some (bt287.1, t281))) = some (r1, r2) := by rw [if_pos rfl] at H; exact H); clear H; have H := H1; clear H1; (replace H := Option.bind_eq_some_iff.mp H); (obtain ⟨⟨t287, t288, t289⟩, A50, H⟩ := H); (replace H : (some (t287, t281)) = some (r1, r2) := H); (have A5 := Aside0.mk A50); clear A50; (simp only [Option.some.injEq, Prod.mk.injEq] at H); (obtain ⟨rfl, rfl⟩ := H)
    go_enter Tryd.func14, Tryd.ntmps14
    go_wp2_with (first | ((with_reducible refine gate_dst (N := 11) rfl ?_); refine box_event ?hg (N := 11) ?hd (cs := #[.slice A0 l0.length c0, .int .i64 0, .int .u64 0]) (t := 41) ?hr ?_; (case hd => rfl); (case hg => rfl); (case hr => first | (go_simp; done) | (go_simp; rfl)); intro gb280 hg w6 hbox hb; have n0_ := Aside0.mk (below_step (by repeat (first | (with_reducible first | exact HB.out | apply below_alloc | apply pw_below_drewN | apply below_drew1) | exact HB.out)) hb); have n1_ := Aside0.mk (hbox); have n2_ := Aside0.mk ((by rw [hg]; exact (below_size (by repeat (first | (with_reducible first | exact HB.out | apply below_alloc | apply pw_below_drewN | apply below_drew1) | exact HB.out))) : w.heap.size ≤ gb280)); have n3_ := Aside0.mk ((by rw [hg]; exact (below_size (by repeat (first | (with_reducible first | exact HB.out | apply below_alloc | apply pw_below_drewN | apply below_drew1) | exact HB.out))) : w.heap.size ≤ gb280)); clear HB; have HB := n0_; have BK280 := n1_; have GW280 := n2_; have GE280 := n3_; clear n0_ n1_ n2_ n3_; clear hb hbox hg) | ((with_reducible refine gate_callee (f := 26) rfl ?_); refine goesL_ (some 13) rfl rfl Tryd.func26 (by kernel_rfl) rfl #[.pointer (some ⟨gb280, 0, none⟩)] rfl (by (try simp only [List.map_toArray, List.map_cons, List.map_nil]); first | done | rfl | (simp only [List.length_drop, List.length_take]; rfl)) ?_; have HI280 := Aside0.mk (show IsS41 w w6 gb280 l0 0 0 from ⟨A0, c0, BK280.out, GE280.out, HR0.out⟩); (try clear BK280); (with_reducible refine (spec_l1Cur_topic.calls k gb280 l0 0 0 t281 t282 t283 w _ ?side1 ?side2 A2.out).mono ?_); (case side1 => repeat (first | (with_reducible first | exact HI280.out | apply IsS41.alloc | apply IsS41.drewN | apply IsS41.drew | apply IsS41.set_1 | apply IsS41.set_2) | exact HI280.out)); (case side2 => repeat (first | (with_reducible first | exact HB.out | apply below_alloc | apply pw_below_drewN | apply below_drew1 | refine below_set ?_ (IsS41.ge HI280.out)) | exact HB.out)); rintro e w7 ⟨rfl, hi, hb, hk⟩; refine ⟨_, rfl, ?_⟩; have n0_ := Aside0.mk (hb); have n1_ := Aside0.mk (hi); clear HB; clear HI280; have HB := n0_; have HI280 := n1_; clear n0_ n1_; (try clear hb); (try clear hb2); (try clear hk); (try clear hi)) | ((with_reducible refine gate_callee (f := 27) rfl ?_); refine goesL_ (some 15) rfl rfl Tryd.func27 (by kernel_rfl) rfl #[.pointer (some ⟨gb280, 0, none⟩), .int .i64 4] rfl (by (try simp only [List.map_toArray, List.map_cons, List.map_nil]); first | done | rfl | (simp only [List.length_drop, List.length_take]; rfl)) ?_; (with_reducible refine (spec_l1Cur_one.calls gb280 l0 t282 t283 4 true t285 t286 w _ ?side1 ?side2 A3.out).mono ?_); (case side1 => repeat (first | (with_reducible first | exact HI280.out | apply IsS41.alloc | apply IsS41.drewN | apply IsS41.drew | apply IsS41.set_1 | apply IsS41.set_2) | exact HI280.out)); (case side2 => repeat (first | (with_reducible first | exact HB.out | apply below_alloc | apply pw_below_drewN | apply below_drew1 | refine below_set ?_ (IsS41.ge HI280.out)) | exact HB.out)); rintro e w8 ⟨rfl, hi, hb, hk⟩; refine ⟨_, rfl, ?_⟩; have n0_ := Aside0.mk (hb); have n1_ := Aside0.mk (hi); clear HB; clear HI280; have HB := n0_; have HI280 := n1_; clear n0_ n1_; (try clear hb); (try clear hb2); (try clear hk); (try clear hi)) | ((with_reducible refine gate_callee (f := 26) rfl ?_); refine goesL_ (some 17) rfl rfl Tryd.func26 (by kernel_rfl) rfl #[.pointer (some ⟨gb280, 0, none⟩)] rfl (by (try simp only [List.map_toArray, List.map_cons, List.map_nil]); first | done | rfl | (simp only [List.length_drop, List.length_take]; rfl)) ?_; (with_reducible refine (spec_l1Cur_topic.calls k gb280 l0 t285 t286 t287 t288 t289 w _ ?side1 ?side2 A5.out).mono ?_); (case side1 => repeat (first | (with_reducible first | exact HI280.out | apply IsS41.alloc | apply IsS41.drewN | apply IsS41.drew | apply IsS41.set_1 | apply IsS41.set_2) | exact HI280.out)); (case side2 => repeat (first | (with_reducible first | exact HB.out | apply below_alloc | apply pw_below_drewN | apply below_drew1 | refine below_set ?_ (IsS41.ge HI280.out)) | exact HB.out)); rintro e w9 ⟨rfl, hi, hb, hk⟩; refine ⟨_, rfl, ?_⟩; have n0_ := Aside0.mk (hb); have n1_ := Aside0.mk (hi); clear HB; clear HI280; have HB := n0_; have HI280 := n1_; clear n0_ n1_; (try clear hb); (try clear hb2); (try clear hk); (try clear hi)))
    go_ret2
    exact ⟨by first | rfl | (simp [errW_none, errW_some] <;> rfl) | (simp [*, errW_none, errW_some] <;> rfl), by repeat (first | (with_reducible first | exact HB.out | apply below_alloc | apply pw_below_drewN | apply below_drew1 | refine below_set ?_ (IsS41.ge HI280.out)) | exact HB.out)⟩
  · replace c4 := Bool.eq_false_iff.mpr c4
    subst c4; (have H1 : ((spec_l24Parts.f k t281).bind fun t290 => (spec_DrawTopicFits.l0 k t281 (⟨#[]⟩ : ByteArray) t290 (t290.length : Int) 0 l0 t285 t286)) = some (r1, r2) := by rw [if_neg (show ¬ (false = true) by decide)] at H; exact H); clear H; have H := H1; clear H1; (replace H := Option.bind_eq_some_iff.mp H); (obtain ⟨t290, A100, H⟩ := H); (replace H : (spec_DrawTopicFits.l0 k t281 (⟨#[]⟩ : ByteArray) t290 (t290.length : Int) 0 l0 t285 t286) = some (r1, r2) := H); (have A10 := Aside0.mk A100); clear A100; (have H' := Aside0.mk H); clear H
    go_enter Tryd.func14, Tryd.ntmps14
    go_wp2_with (first | ((with_reducible refine gate_dst (N := 11) rfl ?_); refine box_event ?hg (N := 11) ?hd (cs := #[.slice A0 l0.length c0, .int .i64 0, .int .u64 0]) (t := 41) ?hr ?_; (case hd => rfl); (case hg => rfl); (case hr => first | (go_simp; done) | (go_simp; rfl)); intro gb280 hg w11 hbox hb; have n0_ := Aside0.mk (below_step (by repeat (first | (with_reducible first | exact HB.out | apply below_alloc | apply pw_below_drewN | apply below_drew1) | exact HB.out)) hb); have n1_ := Aside0.mk (hbox); have n2_ := Aside0.mk ((by rw [hg]; exact (below_size (by repeat (first | (with_reducible first | exact HB.out | apply below_alloc | apply pw_below_drewN | apply below_drew1) | exact HB.out))) : w.heap.size ≤ gb280)); have n3_ := Aside0.mk ((by rw [hg]; exact (below_size (by repeat (first | (with_reducible first | exact HB.out | apply below_alloc | apply pw_below_drewN | apply below_drew1) | exact HB.out))) : w.heap.size ≤ gb280)); clear HB; have HB := n0_; have BK280 := n1_; have GW280 := n2_; have GE280 := n3_; clear n0_ n1_ n2_ n3_; clear hb hbox hg) | ((with_reducible refine gate_callee (f := 26) rfl ?_); refine goesL_ (some 13) rfl rfl Tryd.func26 (by kernel_rfl) rfl #[.pointer (some ⟨gb280, 0, none⟩)] rfl (by (try simp only [List.map_toArray, List.map_cons, List.map_nil]); first | done | rfl | (simp only [List.length_drop, List.length_take]; rfl)) ?_; have HI280 := Aside0.mk (show IsS41 w w11 gb280 l0 0 0 from ⟨A0, c0, BK280.out, GE280.out, HR0.out⟩); (try clear BK280); (with_reducible refine (spec_l1Cur_topic.calls k gb280 l0 0 0 t281 t282 t283 w _ ?side1 ?side2 A2.out).mono ?_); (case side1 => repeat (first | (with_reducible first | exact HI280.out | apply IsS41.alloc | apply IsS41.drewN | apply IsS41.drew | apply IsS41.set_1 | apply IsS41.set_2) | exact HI280.out)); (case side2 => repeat (first | (with_reducible first | exact HB.out | apply below_alloc | apply pw_below_drewN | apply below_drew1 | refine below_set ?_ (IsS41.ge HI280.out)) | exact HB.out)); rintro e w12 ⟨rfl, hi, hb, hk⟩; refine ⟨_, rfl, ?_⟩; have n0_ := Aside0.mk (hb); have n1_ := Aside0.mk (hi); clear HB; clear HI280; have HB := n0_; have HI280 := n1_; clear n0_ n1_; (try clear hb); (try clear hb2); (try clear hk); (try clear hi)) | ((with_reducible refine gate_callee (f := 27) rfl ?_); refine goesL_ (some 15) rfl rfl Tryd.func27 (by kernel_rfl) rfl #[.pointer (some ⟨gb280, 0, none⟩), .int .i64 4] rfl (by (try simp only [List.map_toArray, List.map_cons, List.map_nil]); first | done | rfl | (simp only [List.length_drop, List.length_take]; rfl)) ?_; (with_reducible refine (spec_l1Cur_one.calls gb280 l0 t282 t283 4 false t285 t286 w _ ?side1 ?side2 A3.out).mono ?_); (case side1 => repeat (first | (with_reducible first | exact HI280.out | apply IsS41.alloc | apply IsS41.drewN | apply IsS41.drew | apply IsS41.set_1 | apply IsS41.set_2) | exact HI280.out)); (case side2 => repeat (first | (with_reducible first | exact HB.out | apply below_alloc | apply pw_below_drewN | apply below_drew1 | refine below_set ?_ (IsS41.ge HI280.out)) | exact HB.out)); rintro e w13 ⟨rfl, hi, hb, hk⟩; refine ⟨_, rfl, ?_⟩; have n0_ := Aside0.mk (hb); have n1_ := Aside0.mk (hi); clear HB; clear HI280; have HB := n0_; have HI280 := n1_; clear n0_ n1_; (try clear hb); (try clear hb2); (try clear hk); (try clear hi)) | ((with_reducible refine gate_callee (f := 15) rfl ?_); refine goesL_ (some 20) rfl rfl Tryd.func15 (by kernel_rfl) rfl #[.string t281] rfl (by (try simp only [List.map_toArray, List.map_cons, List.map_nil]); first | done | rfl | (simp only [List.length_drop, List.length_take]; rfl)) ?_; (with_reducible refine (spec_l24Parts.calls k t281 t290 _ A10.out).mono ?_); rintro e w14 ⟨v291, rfl, ho0, hb⟩; refine ⟨_, rfl, ?_⟩; have n0_ := Aside0.mk (Kd.R_lower ho0 (below_size (by repeat (first | (with_reducible first | exact HB.out | apply below_alloc | apply pw_below_drewN | apply below_drew1 | refine below_set ?_ (IsS41.ge HI280.out)) | exact HB.out)))); have n1_ := Aside0.mk (IsS41.below (by repeat (first | (with_reducible first | exact HI280.out | apply IsS41.alloc | apply IsS41.drewN | apply IsS41.drew | apply IsS41.set_1 | apply IsS41.set_2) | exact HI280.out)) hb); have n2_ := Aside0.mk (below_step (by repeat (first | (with_reducible first | exact HB.out | apply below_alloc | apply pw_below_drewN | apply below_drew1 | refine below_set ?_ (IsS41.ge HI280.out)) | exact HB.out)) hb); clear HI280; clear HB; have HO292 := n0_; have HI280 := n1_; have HB := n2_; clear n0_ n1_ n2_; (try clear hb); (try clear hb2); (try clear hk); (try clear hi); (try clear ho0); obtain ⟨Ao15, co15, eo15⟩ := Kd.R_slice HO292.out; subst eo15))
    go_loopg [6, 22] k (fun kq v6 v22 w' => ∃ (x6_1 : ByteArray) (x22_1 : Int) (x281001_1 : Int) (x281002_1 : Int), v6 = .string x6_1 ∧ v22 = .int .i64 x22_1 ∧ Aside0 (spec_DrawTopicFits.l0 kq t281 x6_1 t290 (t290.length : Int) x22_1 l0 x281001_1 x281002_1 = some (r1, r2)) ∧ Aside0 (kq ≤ k) ∧ Aside0 (Kd.R Kd.string 9 w' w.heap.size (fun _ => True) (.slice Ao15 t290.length co15) t290) ∧ Aside0 (IsS41 w w' gb280 l0 x281001_1 x281002_1) ∧ Aside0 (Below w.heap.size w w'))
    case atStart => exact ⟨((⟨#[]⟩ : ByteArray)), (0), (t285), (t286), (by first | rfl | (simp; done) | (simp [*]; done)), (by first | rfl | (simp; done) | (simp [*]; done)), H', ⟨Nat.le_refl _⟩, ⟨by exact HO292.out⟩, ⟨by repeat (first | (with_reducible first | exact HI280.out | apply IsS41.alloc | apply IsS41.drewN | apply IsS41.drew | apply IsS41.set_1 | apply IsS41.set_2) | exact HI280.out)⟩, ⟨by repeat (first | (with_reducible first | exact HB.out | apply below_alloc | apply pw_below_drewN | apply below_drew1 | refine below_set ?_ (IsS41.ge HI280.out)) | exact HB.out)⟩⟩
    case round =>
      clear H'; (try clear c1); (try clear c2); (try clear p2); (try clear c4); (try clear c14); (try clear c15); (obtain ⟨x6_1, x22_1, x281001_1, x281002_1, rfl, rfl, HA, HK1, HO_20, HI280, HB⟩ := hrel)
      cases gk with
      | zero => exact absurd HA.out (by simp [spec_DrawTopicFits.l0])
      | succ k1 =>
        have H := HA.out; clear HA; (simp only [spec_DrawTopicFits.l0] at H)
        by_cases c16 : x22_1 < (t290.length : Int)
        · rw [if_pos c16] at H
          (have c16b0 : decide (x22_1 < (t290.length : Int)) = true := decide_eq_true c16); clear c16
          by_cases c17 : 0 ≤ x22_1
          · rw [if_pos c17] at H
            (have c17b0 : decide (0 ≤ x22_1) = true := decide_eq_true c17); clear c17
            by_cases c18 : x22_1 < (t290.length : Int)
            · rw [if_pos c18] at H
              (have c18b0 : decide (x22_1 < (t290.length : Int)) = true := decide_eq_true c18); clear c18; (replace H := Option.bind_eq_some_iff.mp H); (obtain ⟨⟨t294, t295, t296⟩, A190, H⟩ := H)
              (replace H : (if t294 = 0 then (if 1 + 1 ≤ 9223372036854775807 then (if x6_1.size + 2 ≤ 9223372036854775807 then (spec_DrawTopicFits.l0 k1 t281 (x6_1 ++ ((⟨#[47]⟩ : ByteArray) ++ (⟨#[42]⟩ : ByteArray))) t290 (t290.length : Int) (wrap64 (x22_1 + 1)) l0 t295 t296) else (none)) else (none)) else (if t294 = 1 then (if 1 + 2 ≤ 9223372036854775807 then (if x6_1.size + 3 ≤ 9223372036854775807 then (spec_DrawTopicFits.l0 k1 t281 (x6_1 ++ ((⟨#[47]⟩ : ByteArray) ++ (⟨#[42, 42]⟩ : ByteArray))) t290 (t290.length : Int) (wrap64 (x22_1 + 1)) l0 t295 t296) else (none)) else (none)) else (if t294 = 2 then (if x6_1.size + 3 ≤ 9223372036854775807 then (if 1 + (rdOf ByteArray.empty t290 x22_1).size ≤ 9223372036854775807 then (if (x6_1 ++ (⟨#[47, 42, 42]⟩ : ByteArray)).size + ((⟨#[47]⟩ : ByteArray) ++ (rdOf ByteArray.empty t290 x22_1)).size ≤ 9223372036854775807 then (spec_DrawTopicFits.l0 k1 t281 ((x6_1 ++ (⟨#[47, 42, 42]⟩ : ByteArray)) ++ ((⟨#[47]⟩ : ByteArray) ++ (rdOf ByteArray.empty t290 x22_1))) t290 (t290.length : Int) (wrap64 (x22_1 + 1)) l0 t295 t296) else (none)) else (none)) else (none)) else (if t294 = 3 then ((spec_l1Cur_one.f l0 t295 t296 3).bind fun bt297 => (if bt297.1 = true then (spec_DrawTopicFits.l0 k1 t281 x6_1 t290 (t290.length : Int) (wrap64 (x22_1 + 1)) l0 bt297.2.1 bt297.2.2) else (if 1 + (rdOf ByteArray.empty t290 x22_1).size ≤ 9223372036854775807 then (if x6_1.size + ((⟨#[47]⟩ : ByteArray) ++ (rdOf ByteArray.empty t290 x22_1)).size ≤ 9223372036854775807 then (spec_DrawTopicFits.l0 k1 t281 (x6_1 ++ ((⟨#[47]⟩ : ByteArray) ++ (rdOf ByteArray.empty t290 x22_1))) t290 (t290.length : Int) (wrap64 (x22_1 + 1)) l0 bt297.2.1 bt297.2.2) else (none)) else (none)))) else (if 1 + (rdOf ByteArray.empty t290 x22_1).size ≤ 9223372036854775807 then (if x6_1.size + ((⟨#[47]⟩ : ByteArray) ++ (rdOf ByteArray.empty t290 x22_1)).size ≤ 9223372036854775807 then (spec_DrawTopicFits.l0 k1 t281 (x6_1 ++ ((⟨#[47]⟩ : ByteArray) ++ (rdOf ByteArray.empty t290 x22_1))) t290 (t290.length : Int) (wrap64 (x22_1 + 1)) l0 t295 t296) else (none)) else (none)))))) = some (r1, r2) := H)
              (have A19 := Aside0.mk A190); clear A190
              by_cases c20 : t294 = 0
              · rw [if_pos c20] at H
                (have c20b0 : (t294 == 0) = true := beq_iff_eq.mpr c20); (have c20b1 : (t294 != 0) = false := bne_eq_false_iff_eq.mpr c20); clear c20
                by_cases c21 : 1 + 1 ≤ 9223372036854775807
                · rw [if_pos c21] at H
                  (have c21b0 := eq_true c21); (have c21b1 : decide (1 + 1 ≤ 9223372036854775807) = true := decide_eq_true c21)
                  try have c21b2 : (9223372036854775807 < 1 + 1) = False := eq_false (Nat.not_lt.2 c21)
                  by_cases c22 : x6_1.size + 2 ≤ 9223372036854775807
                  · rw [if_pos c22] at H
                    (have c22b0 := eq_true c22); (have c22b1 : decide (x6_1.size + 2 ≤ 9223372036854775807) = true := decide_eq_true c22)
                    try have c22b2 : (9223372036854775807 < x6_1.size + 2) = False := eq_false (Nat.not_lt.2 c22)
                    (have H' := Aside0.mk H); clear H; (have p293 : 0 ≤ (x22_1 : Int) := of_decide_eq_true (by first | (with_reducible assumption) | assumption)); (have q293 : x22_1 < (t290.length : Int) := of_decide_eq_true (by first | (with_reducible assumption) | assumption)); (obtain ⟨ad293, e293, hx293_0⟩ := Kd.at_string (Kd.R_reads' HO_20.out).2.2 x22_1 p293 q293)
                    cases e293
                    (replace p293 := eq_true p293); (replace q293 := eq_true q293)
                    go_wp2_with (first | ((with_reducible refine gate_callee (f := 28) rfl ?_); refine goesL_ (some 27) rfl rfl Tryd.func28 (by kernel_rfl) rfl #[.pointer (some ⟨gb280, 0, none⟩), .int .i64 6] rfl (by (try simp only [List.map_toArray, List.map_cons, List.map_nil]); first | done | rfl | (simp only [List.length_drop, List.length_take]; rfl)) ?_; (with_reducible refine (spec_l1Cur_pick.calls gb280 l0 x281001_1 x281002_1 6 t294 t295 t296 w _ ?side1 ?side2 A19.out).mono ?_); (case side1 => repeat (first | (with_reducible first | exact HI280.out | apply IsS41.alloc | apply IsS41.drewN | apply IsS41.drew | apply IsS41.set_1 | apply IsS41.set_2) | exact HI280.out)); (case side2 => repeat (first | (with_reducible first | exact HB.out | apply below_alloc | apply pw_below_drewN | apply below_drew1 | refine below_set ?_ (IsS41.ge HI280.out)) | exact HB.out)); rintro e w23 ⟨rfl, hi, hb, hk⟩; refine ⟨_, rfl, ?_⟩; have n0_ := Aside0.mk (Kd.R_mono (Kd.R_keep (IsS41.apart (show IsS41 w _ gb280 l0 x281001_1 x281002_1 from by repeat (first | (with_reducible first | exact HI280.out | apply IsS41.alloc | apply IsS41.drewN | apply IsS41.drew | apply IsS41.set_1 | apply IsS41.set_2) | exact HI280.out)) HO_20.out (by decide)) hk (fun _ h => h.2)) (fun _ h => h.1)); have n1_ := Aside0.mk (hb); have n2_ := Aside0.mk (hi); clear HO_20; clear HB; clear HI280; have HO_20 := n0_; have HB := n1_; have HI280 := n2_; clear n0_ n1_ n2_; (try clear hb); (try clear hb2); (try clear hk); (try clear hi)))
                    go_roundg k1
                    case measure => have := HK1.out; omega
                    case rel => exact ⟨(x6_1 ++ ((⟨#[47]⟩ : ByteArray) ++ (⟨#[42]⟩ : ByteArray))), (wrap64 (x22_1 + 1)), (t295), (t296), (by first | rfl | (simp; done) | (simp [*]; done)), (by first | rfl | (simp; done) | (simp [*]; done)), H', ⟨by have := HK1.out; omega⟩, ⟨by exact HO_20.out⟩, ⟨by repeat (first | (with_reducible first | exact HI280.out | apply IsS41.alloc | apply IsS41.drewN | apply IsS41.drew | apply IsS41.set_1 | apply IsS41.set_2) | exact HI280.out)⟩, ⟨by repeat (first | (with_reducible first | exact HB.out | apply below_alloc | apply pw_below_drewN | apply below_drew1 | refine below_set ?_ (IsS41.ge HI280.out)) | exact HB.out)⟩⟩
                  · rw [if_neg c22] at H
                    exact absurd H (by simp)
                · rw [if_neg c21] at H
                  exact absurd H (by simp)
              · rw [if_neg c20] at H
                (have c20b0 : (t294 == 0) = false := beq_eq_false_iff_ne.mpr c20); (have c20b1 : (t294 != 0) = true := bne_iff_ne.mpr c20)
                by_cases c24 : t294 = 1
                · rw [if_pos c24] at H
                  (have c24b0 : (t294 == 1) = true := beq_iff_eq.mpr c24); (have c24b1 : (t294 != 1) = false := bne_eq_false_iff_eq.mpr c24); clear c24
                  by_cases c25 : 1 + 2 ≤ 9223372036854775807
                  · rw [if_pos c25] at H
                    (have c25b0 := eq_true c25); (have c25b1 : decide (1 + 2 ≤ 9223372036854775807) = true := decide_eq_true c25)
                    try have c25b2 : (9223372036854775807 < 1 + 2) = False := eq_false (Nat.not_lt.2 c25)
                    by_cases c26 : x6_1.size + 3 ≤ 9223372036854775807
                    · rw [if_pos c26] at H
                      (have c26b0 := eq_true c26); (have c26b1 : decide (x6_1.size + 3 ≤ 9223372036854775807) = true := decide_eq_true c26)
                      try have c26b2 : (9223372036854775807 < x6_1.size + 3) = False := eq_false (Nat.not_lt.2 c26)
                      (have H' := Aside0.mk H); clear H; (have p293 : 0 ≤ (x22_1 : Int) := of_decide_eq_true (by first | (with_reducible assumption) | assumption)); (have q293 : x22_1 < (t290.length : Int) := of_decide_eq_true (by first | (with_reducible assumption) | assumption)); (obtain ⟨ad293, e293, hx293_0⟩ := Kd.at_string (Kd.R_reads' HO_20.out).2.2 x22_1 p293 q293)
                      cases e293
                      (replace p293 := eq_true p293); (replace q293 := eq_true q293)
                      go_wp2_with (first | ((with_reducible refine gate_callee (f := 28) rfl ?_); refine goesL_ (some 27) rfl rfl Tryd.func28 (by kernel_rfl) rfl #[.pointer (some ⟨gb280, 0, none⟩), .int .i64 6] rfl (by (try simp only [List.map_toArray, List.map_cons, List.map_nil]); first | done | rfl | (simp only [List.length_drop, List.length_take]; rfl)) ?_; (with_reducible refine (spec_l1Cur_pick.calls gb280 l0 x281001_1 x281002_1 6 t294 t295 t296 w _ ?side1 ?side2 A19.out).mono ?_); (case side1 => repeat (first | (with_reducible first | exact HI280.out | apply IsS41.alloc | apply IsS41.drewN | apply IsS41.drew | apply IsS41.set_1 | apply IsS41.set_2) | exact HI280.out)); (case side2 => repeat (first | (with_reducible first | exact HB.out | apply below_alloc | apply pw_below_drewN | apply below_drew1 | refine below_set ?_ (IsS41.ge HI280.out)) | exact HB.out)); rintro e w27 ⟨rfl, hi, hb, hk⟩; refine ⟨_, rfl, ?_⟩; have n0_ := Aside0.mk (Kd.R_mono (Kd.R_keep (IsS41.apart (show IsS41 w _ gb280 l0 x281001_1 x281002_1 from by repeat (first | (with_reducible first | exact HI280.out | apply IsS41.alloc | apply IsS41.drewN | apply IsS41.drew | apply IsS41.set_1 | apply IsS41.set_2) | exact HI280.out)) HO_20.out (by decide)) hk (fun _ h => h.2)) (fun _ h => h.1)); have n1_ := Aside0.mk (hb); have n2_ := Aside0.mk (hi); clear HO_20; clear HB; clear HI280; have HO_20 := n0_; have HB := n1_; have HI280 := n2_; clear n0_ n1_ n2_; (try clear hb); (try clear hb2); (try clear hk); (try clear hi)))
                      go_roundg k1
                      case measure => have := HK1.out; omega
                      case rel => exact ⟨(x6_1 ++ ((⟨#[47]⟩ : ByteArray) ++ (⟨#[42, 42]⟩ : ByteArray))), (wrap64 (x22_1 + 1)), (t295), (t296), (by first | rfl | (simp; done) | (simp [*]; done)), (by first | rfl | (simp; done) | (simp [*]; done)), H', ⟨by have := HK1.out; omega⟩, ⟨by exact HO_20.out⟩, ⟨by repeat (first | (with_reducible first | exact HI280.out | apply IsS41.alloc | apply IsS41.drewN | apply IsS41.drew | apply IsS41.set_1 | apply IsS41.set_2) | exact HI280.out)⟩, ⟨by repeat (first | (with_reducible first | exact HB.out | apply below_alloc | apply pw_below_drewN | apply below_drew1 | refine below_set ?_ (IsS41.ge HI280.out)) | exact HB.out)⟩⟩
                    · rw [if_neg c26] at H
                      exact absurd H (by simp)
                  · rw [if_neg c25] at H
                    exact absurd H (by simp)
                · rw [if_neg c24] at H
                  (have c24b0 : (t294 == 1) = false := beq_eq_false_iff_ne.mpr c24); (have c24b1 : (t294 != 1) = true := bne_iff_ne.mpr c24)
                  by_cases c28 : t294 = 2
                  · rw [if_pos c28] at H
                    (have c28b0 : (t294 == 2) = true := beq_iff_eq.mpr c28); (have c28b1 : (t294 != 2) = false := bne_eq_false_iff_eq.mpr c28); clear c28
                    by_cases c29 : x6_1.size + 3 ≤ 9223372036854775807
                    · rw [if_pos c29] at H
                      (have c29b0 := eq_true c29); (have c29b1 : decide (x6_1.size + 3 ≤ 9223372036854775807) = true := decide_eq_true c29)
                      try have c29b2 : (9223372036854775807 < x6_1.size + 3) = False := eq_false (Nat.not_lt.2 c29)
                      by_cases c30 : 1 + (rdOf ByteArray.empty t290 x22_1).size ≤ 9223372036854775807
                      · rw [if_pos c30] at H
                        (have c30b0 := eq_true c30); (have c30b1 : decide (1 + (rdOf ByteArray.empty t290 x22_1).size ≤ 9223372036854775807) = true := decide_eq_true c30)
                        try have c30b2 : (9223372036854775807 < 1 + (rdOf ByteArray.empty t290 x22_1).size) = False := eq_false (Nat.not_lt.2 c30)
                        by_cases c31 : (x6_1 ++ (⟨#[47, 42, 42]⟩ : ByteArray)).size + ((⟨#[47]⟩ : ByteArray) ++ (rdOf ByteArray.empty t290 x22_1)).size ≤ 9223372036854775807
                        · rw [if_pos c31] at H
                          (have c31b0 := eq_true c31); (have c31b1 : decide ((x6_1 ++ (⟨#[47, 42, 42]⟩ : ByteArray)).size + ((⟨#[47]⟩ : ByteArray) ++ (rdOf ByteArray.empty t290 x22_1)).size ≤ 9223372036854775807) = true := decide_eq_true c31)
                          try have c31b2 : (9223372036854775807 < (x6_1 ++ (⟨#[47, 42, 42]⟩ : ByteArray)).size + ((⟨#[47]⟩ : ByteArray) ++ (rdOf ByteArray.empty t290 x22_1)).size) = False := eq_false (Nat.not_lt.2 c31)
                          (have H' := Aside0.mk H); clear H; (have p293 : 0 ≤ (x22_1 : Int) := of_decide_eq_true (by first | (with_reducible assumption) | assumption)); (have q293 : x22_1 < (t290.length : Int) := of_decide_eq_true (by first | (with_reducible assumption) | assumption)); (obtain ⟨ad293, e293, hx293_0⟩ := Kd.at_string (Kd.R_reads' HO_20.out).2.2 x22_1 p293 q293)
                          cases e293
                          (replace p293 := eq_true p293); (replace q293 := eq_true q293)
                          go_wp2_with (first | ((with_reducible refine gate_callee (f := 28) rfl ?_); refine goesL_ (some 27) rfl rfl Tryd.func28 (by kernel_rfl) rfl #[.pointer (some ⟨gb280, 0, none⟩), .int .i64 6] rfl (by (try simp only [List.map_toArray, List.map_cons, List.map_nil]); first | done | rfl | (simp only [List.length_drop, List.length_take]; rfl)) ?_; (with_reducible refine (spec_l1Cur_pick.calls gb280 l0 x281001_1 x281002_1 6 t294 t295 t296 w _ ?side1 ?side2 A19.out).mono ?_); (case side1 => repeat (first | (with_reducible first | exact HI280.out | apply IsS41.alloc | apply IsS41.drewN | apply IsS41.drew | apply IsS41.set_1 | apply IsS41.set_2) | exact HI280.out)); (case side2 => repeat (first | (with_reducible first | exact HB.out | apply below_alloc | apply pw_below_drewN | apply below_drew1 | refine below_set ?_ (IsS41.ge HI280.out)) | exact HB.out)); rintro e w32 ⟨rfl, hi, hb, hk⟩; refine ⟨_, rfl, ?_⟩; have n0_ := Aside0.mk (Kd.R_mono (Kd.R_keep (IsS41.apart (show IsS41 w _ gb280 l0 x281001_1 x281002_1 from by repeat (first | (with_reducible first | exact HI280.out | apply IsS41.alloc | apply IsS41.drewN | apply IsS41.drew | apply IsS41.set_1 | apply IsS41.set_2) | exact HI280.out)) HO_20.out (by decide)) hk (fun _ h => h.2)) (fun _ h => h.1)); have n1_ := Aside0.mk (hb); have n2_ := Aside0.mk (hi); clear HO_20; clear HB; clear HI280; have HO_20 := n0_; have HB := n1_; have HI280 := n2_; clear n0_ n1_ n2_; (try clear hb); (try clear hb2); (try clear hk); (try clear hi)))
                          go_roundg k1
                          case measure => have := HK1.out; omega
                          case rel => exact ⟨((x6_1 ++ (⟨#[47, 42, 42]⟩ : ByteArray)) ++ ((⟨#[47]⟩ : ByteArray) ++ (rdOf ByteArray.empty t290 x22_1))), (wrap64 (x22_1 + 1)), (t295), (t296), (by first | rfl | (simp; done) | (simp [*]; done)), (by first | rfl | (simp; done) | (simp [*]; done)), H', ⟨by have := HK1.out; omega⟩, ⟨by exact HO_20.out⟩, ⟨by repeat (first | (with_reducible first | exact HI280.out | apply IsS41.alloc | apply IsS41.drewN | apply IsS41.drew | apply IsS41.set_1 | apply IsS41.set_2) | exact HI280.out)⟩, ⟨by repeat (first | (with_reducible first | exact HB.out | apply below_alloc | apply pw_below_drewN | apply below_drew1 | refine below_set ?_ (IsS41.ge HI280.out)) | exact HB.out)⟩⟩
                        · rw [if_neg c31] at H
                          exact absurd H (by simp)
                      · rw [if_neg c30] at H
                        exact absurd H (by simp)
                    · rw [if_neg c29] at H
                      exact absurd H (by simp)
                  · rw [if_neg c28] at H
                    (have c28b0 : (t294 == 2) = false := beq_eq_false_iff_ne.mpr c28); (have c28b1 : (t294 != 2) = true := bne_iff_ne.mpr c28)
                    by_cases c33 : t294 = 3
                    · rw [if_pos c33] at H
                      (have c33b0 : (t294 == 3) = true := beq_iff_eq.mpr c33); (have c33b1 : (t294 != 3) = false := bne_eq_false_iff_eq.mpr c33); clear c33; (replace H := Option.bind_eq_some_iff.mp H); (obtain ⟨⟨t297, t298, t299⟩, A340, H⟩ := H); (replace H : (if t297 = true then (spec_DrawTopicFits.l0 k1 t281 x6_1 t290 (t290.length : Int) (wrap64 (x22_1 + 1)) l0 t298 t299) else (if 1 + (rdOf ByteArray.empty t290 x22_1).size ≤ 9223372036854775807 then (if x6_1.size + ((⟨#[47]⟩ : ByteArray) ++ (rdOf ByteArray.empty t290 x22_1)).size ≤ 9223372036854775807 then (spec_DrawTopicFits.l0 k1 t281 (x6_1 ++ ((⟨#[47]⟩ : ByteArray) ++ (rdOf ByteArray.empty t290 x22_1))) t290 (t290.length : Int) (wrap64 (x22_1 + 1)) l0 t298 t299) else (none)) else (none))) = some (r1, r2) := H); (have A34 := Aside0.mk A340); clear A340
                      by_cases c35 : t297 = true
                      · subst c35
                        (have H1 : (spec_DrawTopicFits.l0 k1 t281 x6_1 t290 (t290.length : Int) (wrap64 (x22_1 + 1)) l0 t298 t299) = some (r1, r2) := by rw [if_pos rfl] at H; exact H); clear H; have H := H1; clear H1; (have H' := Aside0.mk H); clear H; (have p293 : 0 ≤ (x22_1 : Int) := of_decide_eq_true (by first | (with_reducible assumption) | assumption)); (have q293 : x22_1 < (t290.length : Int) := of_decide_eq_true (by first | (with_reducible assumption) | assumption)); (obtain ⟨ad293, e293, hx293_0⟩ := Kd.at_string (Kd.R_reads' HO_20.out).2.2 x22_1 p293 q293)
                        cases e293
                        (replace p293 := eq_true p293); (replace q293 := eq_true q293)
                        go_wp2_with (first | ((with_reducible refine gate_callee (f := 28) rfl ?_); refine goesL_ (some 27) rfl rfl Tryd.func28 (by kernel_rfl) rfl #[.pointer (some ⟨gb280, 0, none⟩), .int .i64 6] rfl (by (try simp only [List.map_toArray, List.map_cons, List.map_nil]); first | done | rfl | (simp only [List.length_drop, List.length_take]; rfl)) ?_; (with_reducible refine (spec_l1Cur_pick.calls gb280 l0 x281001_1 x281002_1 6 t294 t295 t296 w _ ?side1 ?side2 A19.out).mono ?_); (case side1 => repeat (first | (with_reducible first | exact HI280.out | apply IsS41.alloc | apply IsS41.drewN | apply IsS41.drew | apply IsS41.set_1 | apply IsS41.set_2) | exact HI280.out)); (case side2 => repeat (first | (with_reducible first | exact HB.out | apply below_alloc | apply pw_below_drewN | apply below_drew1 | refine below_set ?_ (IsS41.ge HI280.out)) | exact HB.out)); rintro e w36 ⟨rfl, hi, hb, hk⟩; refine ⟨_, rfl, ?_⟩; have n0_ := Aside0.mk (Kd.R_mono (Kd.R_keep (IsS41.apart (show IsS41 w _ gb280 l0 x281001_1 x281002_1 from by repeat (first | (with_reducible first | exact HI280.out | apply IsS41.alloc | apply IsS41.drewN | apply IsS41.drew | apply IsS41.set_1 | apply IsS41.set_2) | exact HI280.out)) HO_20.out (by decide)) hk (fun _ h => h.2)) (fun _ h => h.1)); have n1_ := Aside0.mk (hb); have n2_ := Aside0.mk (hi); clear HO_20; clear HB; clear HI280; have HO_20 := n0_; have HB := n1_; have HI280 := n2_; clear n0_ n1_ n2_; (try clear hb); (try clear hb2); (try clear hk); (try clear hi)) | ((with_reducible refine gate_callee (f := 27) rfl ?_); refine goesL_ (some 39) rfl rfl Tryd.func27 (by kernel_rfl) rfl #[.pointer (some ⟨gb280, 0, none⟩), .int .i64 3] rfl (by (try simp only [List.map_toArray, List.map_cons, List.map_nil]); first | done | rfl | (simp only [List.length_drop, List.length_take]; rfl)) ?_; (with_reducible refine (spec_l1Cur_one.calls gb280 l0 t295 t296 3 true t298 t299 w _ ?side1 ?side2 A34.out).mono ?_); (case side1 => repeat (first | (with_reducible first | exact HI280.out | apply IsS41.alloc | apply IsS41.drewN | apply IsS41.drew | apply IsS41.set_1 | apply IsS41.set_2) | exact HI280.out)); (case side2 => repeat (first | (with_reducible first | exact HB.out | apply below_alloc | apply pw_below_drewN | apply below_drew1 | refine below_set ?_ (IsS41.ge HI280.out)) | exact HB.out)); rintro e w37 ⟨rfl, hi, hb, hk⟩; refine ⟨_, rfl, ?_⟩; have n0_ := Aside0.mk (Kd.R_mono (Kd.R_keep (IsS41.apart (show IsS41 w _ gb280 l0 t295 t296 from by repeat (first | (with_reducible first | exact HI280.out | apply IsS41.alloc | apply IsS41.drewN | apply IsS41.drew | apply IsS41.set_1 | apply IsS41.set_2) | exact HI280.out)) HO_20.out (by decide)) hk (fun _ h => h.2)) (fun _ h => h.1)); have n1_ := Aside0.mk (hb); have n2_ := Aside0.mk (hi); clear HO_20; clear HB; clear HI280; have HO_20 := n0_; have HB := n1_; have HI280 := n2_; clear n0_ n1_ n2_; (try clear hb); (try clear hb2); (try clear hk); (try clear hi)))
                        go_roundg k1
                        case measure => have := HK1.out; omega
                        case rel => exact ⟨(x6_1), (wrap64 (x22_1 + 1)), (t298), (t299), (by first | rfl | (simp; done) | (simp [*]; done)), (by first | rfl | (simp; done) | (simp [*]; done)), H', ⟨by have := HK1.out; omega⟩, ⟨by exact HO_20.out⟩, ⟨by repeat (first | (with_reducible first | exact HI280.out | apply IsS41.alloc | apply IsS41.drewN | apply IsS41.drew | apply IsS41.set_1 | apply IsS41.set_2) | exact HI280.out)⟩, ⟨by repeat (first | (with_reducible first | exact HB.out | apply below_alloc | apply pw_below_drewN | apply below_drew1 | refine below_set ?_ (IsS41.ge HI280.out)) | exact HB.out)⟩⟩
                      · replace c35 := Bool.eq_false_iff.mpr c35
                        subst c35; (have H1 : (if 1 + (rdOf ByteArray.empty t290 x22_1).size ≤ 9223372036854775807 then (if x6_1.size + ((⟨#[47]⟩ : ByteArray) ++ (rdOf ByteArray.empty t290 x22_1)).size ≤ 9223372036854775807 then (spec_DrawTopicFits.l0 k1 t281 (x6_1 ++ ((⟨#[47]⟩ : ByteArray) ++ (rdOf ByteArray.empty t290 x22_1))) t290 (t290.length : Int) (wrap64 (x22_1 + 1)) l0 t298 t299) else (none)) else (none)) = some (r1, r2) := by rw [if_neg (show ¬ (false = true) by decide)] at H; exact H); clear H; have H := H1; clear H1
                        by_cases c38 : 1 + (rdOf ByteArray.empty t290 x22_1).size ≤ 9223372036854775807
                        · rw [if_pos c38] at H
                          (have c38b0 := eq_true c38); (have c38b1 : decide (1 + (rdOf ByteArray.empty t290 x22_1).size ≤ 9223372036854775807) = true := decide_eq_true c38)
                          try have c38b2 : (9223372036854775807 < 1 + (rdOf ByteArray.empty t290 x22_1).size) = False := eq_false (Nat.not_lt.2 c38)
                          by_cases c39 : x6_1.size + ((⟨#[47]⟩ : ByteArray) ++ (rdOf ByteArray.empty t290 x22_1)).size ≤ 9223372036854775807
                          · rw [if_pos c39] at H
                            (have c39b0 := eq_true c39); (have c39b1 : decide (x6_1.size + ((⟨#[47]⟩ : ByteArray) ++ (rdOf ByteArray.empty t290 x22_1)).size ≤ 9223372036854775807) = true := decide_eq_true c39)
                            try have c39b2 : (9223372036854775807 < x6_1.size + ((⟨#[47]⟩ : ByteArray) ++ (rdOf ByteArray.empty t290 x22_1)).size) = False := eq_false (Nat.not_lt.2 c39)
                            (have H' := Aside0.mk H); clear H; (have p293 : 0 ≤ (x22_1 : Int) := of_decide_eq_true (by first | (with_reducible assumption) | assumption)); (have q293 : x22_1 < (t290.length : Int) := of_decide_eq_true (by first | (with_reducible assumption) | assumption)); (obtain ⟨ad293, e293, hx293_0⟩ := Kd.at_string (Kd.R_reads' HO_20.out).2.2 x22_1 p293 q293)
                            cases e293
                            (replace p293 := eq_true p293); (replace q293 := eq_true q293)
                            go_wp2_with (first | ((with_reducible refine gate_callee (f := 28) rfl ?_); refine goesL_ (some 27) rfl rfl Tryd.func28 (by kernel_rfl) rfl #[.pointer (some ⟨gb280, 0, none⟩), .int .i64 6] rfl (by (try simp only [List.map_toArray, List.map_cons, List.map_nil]); first | done | rfl | (simp only [List.length_drop, List.length_take]; rfl)) ?_; (with_reducible refine (spec_l1Cur_pick.calls gb280 l0 x281001_1 x281002_1 6 t294 t295 t296 w _ ?side1 ?side2 A19.out).mono ?_); (case side1 => repeat (first | (with_reducible first | exact HI280.out | apply IsS41.alloc | apply IsS41.drewN | apply IsS41.drew | apply IsS41.set_1 | apply IsS41.set_2) | exact HI280.out)); (case side2 => repeat (first | (with_reducible first | exact HB.out | apply below_alloc | apply pw_below_drewN | apply below_drew1 | refine below_set ?_ (IsS41.ge HI280.out)) | exact HB.out)); rintro e w40 ⟨rfl, hi, hb, hk⟩; refine ⟨_, rfl, ?_⟩; have n0_ := Aside0.mk (Kd.R_mono (Kd.R_keep (IsS41.apart (show IsS41 w _ gb280 l0 x281001_1 x281002_1 from by repeat (first | (with_reducible first | exact HI280.out | apply IsS41.alloc | apply IsS41.drewN | apply IsS41.drew | apply IsS41.set_1 | apply IsS41.set_2) | exact HI280.out)) HO_20.out (by decide)) hk (fun _ h => h.2)) (fun _ h => h.1)); have n1_ := Aside0.mk (hb); have n2_ := Aside0.mk (hi); clear HO_20; clear HB; clear HI280; have HO_20 := n0_; have HB := n1_; have HI280 := n2_; clear n0_ n1_ n2_; (try clear hb); (try clear hb2); (try clear hk); (try clear hi)) | ((with_reducible refine gate_callee (f := 27) rfl ?_); refine goesL_ (some 39) rfl rfl Tryd.func27 (by kernel_rfl) rfl #[.pointer (some ⟨gb280, 0, none⟩), .int .i64 3] rfl (by (try simp only [List.map_toArray, List.map_cons, List.map_nil]); first | done | rfl | (simp only [List.length_drop, List.length_take]; rfl)) ?_; (with_reducible refine (spec_l1Cur_one.calls gb280 l0 t295 t296 3 false t298 t299 w _ ?side1 ?side2 A34.out).mono ?_); (case side1 => repeat (first | (with_reducible first | exact HI280.out | apply IsS41.alloc | apply IsS41.drewN | apply IsS41.drew | apply IsS41.set_1 | apply IsS41.set_2) | exact HI280.out)); (case side2 => repeat (first | (with_reducible first | exact HB.out | apply below_alloc | apply pw_below_drewN | apply below_drew1 | refine below_set ?_ (IsS41.ge HI280.out)) | exact HB.out)); rintro e w41 ⟨rfl, hi, hb, hk⟩; refine ⟨_, rfl, ?_⟩; have n0_ := Aside0.mk (Kd.R_mono (Kd.R_keep (IsS41.apart (show IsS41 w _ gb280 l0 t295 t296 from by repeat (first | (with_reducible first | exact HI280.out | apply IsS41.alloc | apply IsS41.drewN | apply IsS41.drew | apply IsS41.set_1 | apply IsS41.set_2) | exact HI280.out)) HO_20.out (by decide)) hk (fun _ h => h.2)) (fun _ h => h.1)); have n1_ := Aside0.mk (hb); have n2_ := Aside0.mk (hi); clear HO_20; clear HB; clear HI280; have HO_20 := n0_; have HB := n1_; have HI280 := n2_; clear n0_ n1_ n2_; (try clear hb); (try clear hb2); (try clear hk); (try clear hi)))
                            go_roundg k1
                            case measure => have := HK1.out; omega
                            case rel => exact ⟨(x6_1 ++ ((⟨#[47]⟩ : ByteArray) ++ (rdOf ByteArray.empty t290 x22_1))), (wrap64 (x22_1 + 1)), (t298), (t299), (by first | rfl | (simp; done) | (simp [*]; done)), (by first | rfl | (simp; done) | (simp [*]; done)), H', ⟨by have := HK1.out; omega⟩, ⟨by exact HO_20.out⟩, ⟨by repeat (first | (with_reducible first | exact HI280.out | apply IsS41.alloc | apply IsS41.drewN | apply IsS41.drew | apply IsS41.set_1 | apply IsS41.set_2) | exact HI280.out)⟩, ⟨by repeat (first | (with_reducible first | exact HB.out | apply below_alloc | apply pw_below_drewN | apply below_drew1 | refine below_set ?_ (IsS41.ge HI280.out)) | exact HB.out)⟩⟩
                          · rw [if_neg c39] at H
                            exact absurd H (by simp)
                        · rw [if_neg c38] at H
                          exact absurd H (by simp)
                    · rw [if_neg c33] at H
                      (have c33b0 : (t294 == 3) = false := beq_eq_false_iff_ne.mpr c33); (have c33b1 : (t294 != 3) = true := bne_iff_ne.mpr c33)
                      by_cases c42 : 1 + (rdOf ByteArray.empty t290 x22_1).size ≤ 9223372036854775807
                      · rw [if_pos c42] at H
                        (have c42b0 := eq_true c42); (have c42b1 : decide (1 + (rdOf ByteArray.empty t290 x22_1).size ≤ 9223372036854775807) = true := decide_eq_true c42)
                        try have c42b2 : (9223372036854775807 < 1 + (rdOf ByteArray.empty t290 x22_1).size) = False := eq_false (Nat.not_lt.2 c42)
                        by_cases c43 : x6_1.size + ((⟨#[47]⟩ : ByteArray) ++ (rdOf ByteArray.empty t290 x22_1)).size ≤ 9223372036854775807
                        · rw [if_pos c43] at H
                          (have c43b0 := eq_true c43); (have c43b1 : decide (x6_1.size + ((⟨#[47]⟩ : ByteArray) ++ (rdOf ByteArray.empty t290 x22_1)).size ≤ 9223372036854775807) = true := decide_eq_true c43)
                          try have c43b2 : (9223372036854775807 < x6_1.size + ((⟨#[47]⟩ : ByteArray) ++ (rdOf ByteArray.empty t290 x22_1)).size) = False := eq_false (Nat.not_lt.2 c43)
                          (have H' := Aside0.mk H); clear H; (have p293 : 0 ≤ (x22_1 : Int) := of_decide_eq_true (by first | (with_reducible assumption) | assumption)); (have q293 : x22_1 < (t290.length : Int) := of_decide_eq_true (by first | (with_reducible assumption) | assumption)); (obtain ⟨ad293, e293, hx293_0⟩ := Kd.at_string (Kd.R_reads' HO_20.out).2.2 x22_1 p293 q293)
                          cases e293
                          (replace p293 := eq_true p293); (replace q293 := eq_true q293)
                          go_wp2_with (first | ((with_reducible refine gate_callee (f := 28) rfl ?_); refine goesL_ (some 27) rfl rfl Tryd.func28 (by kernel_rfl) rfl #[.pointer (some ⟨gb280, 0, none⟩), .int .i64 6] rfl (by (try simp only [List.map_toArray, List.map_cons, List.map_nil]); first | done | rfl | (simp only [List.length_drop, List.length_take]; rfl)) ?_; (with_reducible refine (spec_l1Cur_pick.calls gb280 l0 x281001_1 x281002_1 6 t294 t295 t296 w _ ?side1 ?side2 A19.out).mono ?_); (case side1 => repeat (first | (with_reducible first | exact HI280.out | apply IsS41.alloc | apply IsS41.drewN | apply IsS41.drew | apply IsS41.set_1 | apply IsS41.set_2) | exact HI280.out)); (case side2 => repeat (first | (with_reducible first | exact HB.out | apply below_alloc | apply pw_below_drewN | apply below_drew1 | refine below_set ?_ (IsS41.ge HI280.out)) | exact HB.out)); rintro e w44 ⟨rfl, hi, hb, hk⟩; refine ⟨_, rfl, ?_⟩; have n0_ := Aside0.mk (Kd.R_mono (Kd.R_keep (IsS41.apart (show IsS41 w _ gb280 l0 x281001_1 x281002_1 from by repeat (first | (with_reducible first | exact HI280.out | apply IsS41.alloc | apply IsS41.drewN | apply IsS41.drew | apply IsS41.set_1 | apply IsS41.set_2) | exact HI280.out)) HO_20.out (by decide)) hk (fun _ h => h.2)) (fun _ h => h.1)); have n1_ := Aside0.mk (hb); have n2_ := Aside0.mk (hi); clear HO_20; clear HB; clear HI280; have HO_20 := n0_; have HB := n1_; have HI280 := n2_; clear n0_ n1_ n2_; (try clear hb); (try clear hb2); (try clear hk); (try clear hi)))
                          go_roundg k1
                          case measure => have := HK1.out; omega
                          case rel => exact ⟨(x6_1 ++ ((⟨#[47]⟩ : ByteArray) ++ (rdOf ByteArray.empty t290 x22_1))), (wrap64 (x22_1 + 1)), (t295), (t296), (by first | rfl | (simp; done) | (simp [*]; done)), (by first | rfl | (simp; done) | (simp [*]; done)), H', ⟨by have := HK1.out; omega⟩, ⟨by exact HO_20.out⟩, ⟨by repeat (first | (with_reducible first | exact HI280.out | apply IsS41.alloc | apply IsS41.drewN | apply IsS41.drew | apply IsS41.set_1 | apply IsS41.set_2) | exact HI280.out)⟩, ⟨by repeat (first | (with_reducible first | exact HB.out | apply below_alloc | apply pw_below_drewN | apply below_drew1 | refine below_set ?_ (IsS41.ge HI280.out)) | exact HB.out)⟩⟩
                        · rw [if_neg c43] at H
                          exact absurd H (by simp)
                      · rw [if_neg c42] at H
                        exact absurd H (by simp)
            · rw [if_neg c18] at H
              exact absurd H (by simp)
          · rw [if_neg c17] at H
            exact absurd H (by simp)
        · rw [if_neg c16] at H
          (have c16b0 : decide (x22_1 < (t290.length : Int)) = false := decide_eq_false c16); clear c16; (simp only [Option.some.injEq, Prod.mk.injEq] at H); (obtain ⟨rfl, rfl⟩ := H)
          go_wp2
          go_ret2
          exact ⟨by first | rfl | (simp [errW_none, errW_some] <;> rfl) | (simp [*, errW_none, errW_some] <;> rfl), by repeat (first | (with_reducible first | exact HB.out | apply below_alloc | apply pw_below_drewN | apply below_drew1 | refine below_set ?_ (IsS41.ge HI280.out)) | exact HB.out)⟩

/-! ### laws_FnTopics: function 6 -/
mutual
def laws_FnTopics.j0 : Nat → List Int → List Int → Bool → Option (Bool)
  | 0, _, _, _ => none
  | k + 1, x0, x1, x17 => if x17 = true then (some true) else ((spec_DrawResolveTopic.f k x0).bind fun bt300 => ((impl_ResolveTopic.f k bt300.1 bt300.2).bind fun t302 => ((spec_ResolveTopic.f k bt300.1 bt300.2).bind fun t303 => (if t302.toList = t303.toList then (if t302.toList = ([] : List UInt8) then (laws_FnTopics.j1 k x1 t302 false) else ((impl_GoodTopic.f k t302).bind fun t304 => (laws_FnTopics.j1 k x1 t302 (!t304)))) else (laws_FnTopics.j1 k x1 t302 true)))))
def laws_FnTopics.j1 : Nat → List Int → ByteArray → Bool → Option (Bool)
  | 0, _, _, _ => none
  | k + 1, x1, x7, x39 => if x39 = true then (some false) else (if x7.toList = ([] : List UInt8) then (some true) else ((spec_DrawTopicFits.f k x1).bind fun bt305 => ((impl_TopicFits.f k x7 x7).bind fun t307 => (if t307 = true then ((impl_TopicFits.f k (⟨#[47, 42, 42]⟩ : ByteArray) x7).bind fun t308 => (if t308 = true then ((impl_TopicFits.f k bt305.1 bt305.2).bind fun t309 => ((spec_TopicFits.f k bt305.1 bt305.2).bind fun t310 => (some (t309 == t310)))) else (some false))) else (some false)))))
end
def laws_FnTopics.f (k : Nat) (l0 : List Int) (l1 : List Int) : Option (Bool) := if (l0.length : Int) > 1048576 then (laws_FnTopics.j0 k l0 l1 true) else (laws_FnTopics.j0 k l0 l1 (decide ((l1.length : Int) > 1048576)))
theorem laws_FnTopics.mono_l : ∀ k, (∀ y0 y1 y2, LeO (laws_FnTopics.j0 k y0 y1 y2) (laws_FnTopics.j0 (k + 1) y0 y1 y2)) ∧ (∀ y0 y1 y2, LeO (laws_FnTopics.j1 k y0 y1 y2) (laws_FnTopics.j1 (k + 1) y0 y1 y2))
  | 0 => ⟨fun _ _ _ r h => by simp [laws_FnTopics.j0] at h, fun _ _ _ r h => by simp [laws_FnTopics.j1] at h⟩
  | k + 1 => by
    obtain ⟨ih0, ih1⟩ := laws_FnTopics.mono_l k
    refine ⟨?_, ?_⟩
    · intro y0 y1 y2
      unfold laws_FnTopics.j0
      repeat' first
      | (with_reducible exact ih0 _ _ _)
      | (with_reducible exact ih1 _ _ _)
      | (with_reducible exact impl_GoodTopic.mono _ _)
      | (with_reducible exact impl_ResolveTopic.mono _ _ _)
      | (with_reducible exact impl_TopicFits.mono _ _ _)
      | (with_reducible exact spec_DrawResolveTopic.mono _ _)
      | (with_reducible exact spec_DrawTopicFits.mono _ _)
      | (with_reducible exact spec_ResolveTopic.mono _ _ _)
      | (with_reducible exact spec_TopicFits.mono _ _ _)
      | (with_reducible exact LeO.refl _)
      | (with_reducible exact LeO.none _)
      | (with_reducible refine LeO.ite ?_ ?_)
      | (with_reducible refine LeO.bind ?_ (fun _ => ?_))
      | exact ih0 _ _ _
      | exact ih1 _ _ _
      | exact impl_GoodTopic.mono _ _
      | exact impl_ResolveTopic.mono _ _ _
      | exact impl_TopicFits.mono _ _ _
      | exact spec_DrawResolveTopic.mono _ _
      | exact spec_DrawTopicFits.mono _ _
      | exact spec_ResolveTopic.mono _ _ _
      | exact spec_TopicFits.mono _ _ _
      | exact LeO.none _
      | refine LeO.ite ?_ ?_
      | refine LeO.bind ?_ (fun _ => ?_)
    · intro y0 y1 y2
      unfold laws_FnTopics.j1
      repeat' first
      | (with_reducible exact ih0 _ _ _)
      | (with_reducible exact ih1 _ _ _)
      | (with_reducible exact impl_GoodTopic.mono _ _)
      | (with_reducible exact impl_ResolveTopic.mono _ _ _)
      | (with_reducible exact impl_TopicFits.mono _ _ _)
      | (with_reducible exact spec_DrawResolveTopic.mono _ _)
      | (with_reducible exact spec_DrawTopicFits.mono _ _)
      | (with_reducible exact spec_ResolveTopic.mono _ _ _)
      | (with_reducible exact spec_TopicFits.mono _ _ _)
      | (with_reducible exact LeO.refl _)
      | (with_reducible exact LeO.none _)
      | (with_reducible refine LeO.ite ?_ ?_)
      | (with_reducible refine LeO.bind ?_ (fun _ => ?_))
      | exact ih0 _ _ _
      | exact ih1 _ _ _
      | exact impl_GoodTopic.mono _ _
      | exact impl_ResolveTopic.mono _ _ _
      | exact impl_TopicFits.mono _ _ _
      | exact spec_DrawResolveTopic.mono _ _
      | exact spec_DrawTopicFits.mono _ _
      | exact spec_ResolveTopic.mono _ _ _
      | exact spec_TopicFits.mono _ _ _
      | exact LeO.none _
      | refine LeO.ite ?_ ?_
      | refine LeO.bind ?_ (fun _ => ?_)
theorem laws_FnTopics.mono : ∀ a0 a1 k, LeO (laws_FnTopics.f k a0 a1) (laws_FnTopics.f (k + 1) a0 a1) := by
  intro a0 a1 k
  obtain ⟨ih0, ih1⟩ := laws_FnTopics.mono_l k
  unfold laws_FnTopics.f
  repeat' first
      | (with_reducible exact ih0 _ _ _)
      | (with_reducible exact ih1 _ _ _)
      | (with_reducible exact impl_GoodTopic.mono _ _)
      | (with_reducible exact impl_ResolveTopic.mono _ _ _)
      | (with_reducible exact impl_TopicFits.mono _ _ _)
      | (with_reducible exact spec_DrawResolveTopic.mono _ _)
      | (with_reducible exact spec_DrawTopicFits.mono _ _)
      | (with_reducible exact spec_ResolveTopic.mono _ _ _)
      | (with_reducible exact spec_TopicFits.mono _ _ _)
      | (with_reducible exact LeO.refl _)
      | (with_reducible exact LeO.none _)
      | (with_reducible refine LeO.ite ?_ ?_)
      | (with_reducible refine LeO.bind ?_ (fun _ => ?_))
      | exact ih0 _ _ _
      | exact ih1 _ _ _
      | exact impl_GoodTopic.mono _ _
      | exact impl_ResolveTopic.mono _ _ _
      | exact impl_TopicFits.mono _ _ _
      | exact spec_DrawResolveTopic.mono _ _
      | exact spec_DrawTopicFits.mono _ _
      | exact spec_ResolveTopic.mono _ _ _
      | exact spec_TopicFits.mono _ _ _
      | exact LeO.none _
      | refine LeO.ite ?_ ?_
      | refine LeO.bind ?_ (fun _ => ?_)
set_option maxHeartbeats 8000000 in
set_option maxRecDepth 100000 in
theorem laws_FnTopics.calls (k : Nat) (A0 : Option Addr) (c0 : Nat) (l0 : List Int) (A1 : Option Addr) (c1 : Nat) (l1 : List Int) (r : Bool) (w : World) (hr0 : Kd.C (Kd.int .u8) w A0 l0.length l0) (hc0 : l0.length ≤ c0) (hr1 : Kd.C (Kd.int .u8) w A1 l1.length l1) (hc1 : l1.length ≤ c1) (h : laws_FnTopics.f k l0 l1 = some r) :
    Calls Tryd.prog 6 #[.slice A0 l0.length c0, .slice A1 l1.length c1] w fun e w' => e = .returned (.bool r) ∧ Below w.heap.size w w' := by
  (have HR0 := Aside0.mk hr0); (have HC0 := Aside0.mk hc0); clear hr0 hc0; (have HR1 := Aside0.mk hr1); (have HC1 := Aside0.mk hc1); clear hr1 hc1; (have HB := Aside0.mk (Below.refl w.heap.size w)); (have H : (if (l0.length : Int) > 1048576 then (laws_FnTopics.j0 k l0 l1 true) else (laws_FnTopics.j0 k l0 l1 (decide ((l1.length : Int) > 1048576)))) = some r := h); clear h; (have HC3 := Aside0.mk H); clear H
  go_enter Tryd.func6, Tryd.ntmps6
  go_upto_region 1 with (fail)
  go_cut [17] (fun v17 wc => ∃ (kq : Nat) (x17_2 : Bool), v17 = .bool x17_2 ∧ Aside0 (laws_FnTopics.j0 kq l0 l1 x17_2 = some r) ∧ Aside0 (kq ≤ k) ∧ Aside0 (Below w.heap.size w wc))
  case first =>
    have H := HC3.out; clear HC3
    by_cases c4 : (l0.length : Int) > 1048576
    · rw [if_pos c4] at H
      (have c4b0 : decide (1048576 < (l0.length : Int)) = true := decide_eq_true c4); (have c4b1 : decide (1048576 < l0.length) = true := decide_eq_true (by omega)); clear c4
      (first | rw [c4b0] | (simp only [i64_w, i32_w]; rw [c4b0]) | skip)
      (have H' := Aside0.mk H); clear H
      go_wp2
      go_meet
      case rel => exact ⟨_, (true), (by first | rfl | (simp; done) | (simp [*]; done)), H', ⟨by first | omega | exact Nat.le_refl _⟩, ⟨by repeat (first | (with_reducible first | exact HB.out | apply below_alloc | apply pw_below_drewN | apply below_drew1) | exact HB.out)⟩⟩
    · rw [if_neg c4] at H
      (have c4b0 : decide (1048576 < (l0.length : Int)) = false := decide_eq_false c4); (have c4b1 : decide (1048576 < l0.length) = false := decide_eq_false (by omega)); clear c4
      (first | rw [c4b0] | (simp only [i64_w, i32_w]; rw [c4b0]) | skip)
      (have H' := Aside0.mk H); clear H
      go_wp2
      go_meet
      case rel => exact ⟨_, (decide ((l1.length : Int) > 1048576)), (by first | rfl | (simp; done) | (simp [*]; done)), H', ⟨by first | omega | exact Nat.le_refl _⟩, ⟨by repeat (first | (with_reducible first | exact HB.out | apply below_alloc | apply pw_below_drewN | apply below_drew1) | exact HB.out)⟩⟩
  case rest =>
    clear HC3; (try clear c1); (try clear p2); (try clear c4); (try clear c4b0); (try clear c4b1); (obtain ⟨kq, x17_2, rfl, HA, HJ2, HB⟩ := hcut)
    cases kq with
    | zero => exact absurd HA.out (by simp [laws_FnTopics.j0])
    | succ kj2 =>
      have H := HA.out; clear HA; (simp only [laws_FnTopics.j0] at H)
      by_cases c5 : x17_2 = true
      · subst c5
        (have H1 : (some true) = some r := by rw [if_pos rfl] at H; exact H); clear H; have H := H1; clear H1; (obtain rfl := Option.some.inj H)
        go_wp2
        go_ret
        exact ⟨by first | rfl | (simp [errW_none, errW_some] <;> rfl) | (simp [*, errW_none, errW_some] <;> rfl), by repeat (first | (with_reducible first | exact HB.out | apply below_alloc | apply pw_below_drewN | apply below_drew1) | exact HB.out)⟩
      · replace c5 := Bool.eq_false_iff.mpr c5
        subst c5; (have H1 : ((spec_DrawResolveTopic.f kj2 l0).bind fun bt300 => ((impl_ResolveTopic.f kj2 bt300.1 bt300.2).bind fun t302 => ((spec_ResolveTopic.f kj2 bt300.1 bt300.2).bind fun t303 => (if t302.toList = t303.toList then (if t302.toList = ([] : List UInt8) then (laws_FnTopics.j1 kj2 l1 t302 false) else ((impl_GoodTopic.f kj2 t302).bind fun t304 => (laws_FnTopics.j1 kj2 l1 t302 (!t304)))) else (laws_FnTopics.j1 kj2 l1 t302 true))))) = some r := by rw [if_neg (show ¬ (false = true) by decide)] at H; exact H); clear H; have H := H1; clear H1; (replace H := Option.bind_eq_some_iff.mp H); (obtain ⟨⟨t300, t301⟩, A60, H⟩ := H); (replace H : ((impl_ResolveTopic.f kj2 t300 t301).bind fun t302 => ((spec_ResolveTopic.f kj2 t300 t301).bind fun t303 => (if t302.toList = t303.toList then (if t302.toList = ([] : List UInt8) then (laws_FnTopics.j1 kj2 l1 t302 false) else ((impl_GoodTopic.f kj2 t302).bind fun t304 => (laws_FnTopics.j1 kj2 l1 t302 (!t304)))) else (laws_FnTopics.j1 kj2 l1 t302 true)))) = some r := H); (have A6 := Aside0.mk A60); clear A60; (replace H := Option.bind_eq_some_iff.mp H); (obtain ⟨t302, A70, H⟩ := H); (replace H : ((spec_ResolveTopic.f kj2 t300 t301).bind fun t303 => (if t302.toList = t303.toList then (if t302.toList = ([] : List UInt8) then (laws_FnTopics.j1 kj2 l1 t302 false) else ((impl_GoodTopic.f kj2 t302).bind fun t304 => (laws_FnTopics.j1 kj2 l1 t302 (!t304)))) else (laws_FnTopics.j1 kj2 l1 t302 true))) = some r := H); (have A7 := Aside0.mk A70)
        clear A70; (have HC8 := Aside0.mk H); clear H
        go_upto_region 5 with (first | ((with_reducible refine gate_callee (f := 13) rfl ?_); refine goesL_ (some 20) rfl rfl Tryd.func13 (by kernel_rfl) rfl #[.slice A0 l0.length c0] rfl (by (try simp only [List.map_toArray, List.map_cons, List.map_nil]); first | done | rfl | (simp only [List.length_drop, List.length_take]; rfl)) ?_; (with_reducible refine (spec_DrawResolveTopic.calls kj2 _ _ l0 t300 t301 _ ?side1 ?side2 A6.out).mono ?_); (case side1 => repeat (first | exact (Kd.C_below HR0.out HB.out) | (with_reducible refine Kd.C_alloc ?_ _) | (with_reducible refine Kd.C_drewN ?_ _) | (with_reducible refine Kd.C_drew ?_))); (case side2 => exact HC0.out); rintro e w9 ⟨rfl, hb⟩; refine ⟨_, rfl, ?_⟩; have n0_ := Aside0.mk (below_step (by repeat (first | (with_reducible first | exact HB.out | apply below_alloc | apply pw_below_drewN | apply below_drew1) | exact HB.out)) hb); clear HB; have HB := n0_; clear n0_; (try clear hb); (try clear hb2); (try clear hk); (try clear hi)) | ((with_reducible refine gate_callee (f := 10) rfl ?_); refine goesL_ (some 25) rfl rfl Tryd.func10 (by kernel_rfl) rfl #[.string t300, .string t301] rfl (by (try simp only [List.map_toArray, List.map_cons, List.map_nil]); first | done | rfl | (simp only [List.length_drop, List.length_take]; rfl)) ?_; (with_reducible refine (impl_ResolveTopic.calls kj2 t300 t301 t302 _ A7.out).mono ?_); rintro e w10 ⟨rfl, hb⟩; refine ⟨_, rfl, ?_⟩; have n0_ := Aside0.mk (below_step (by repeat (first | (with_reducible first | exact HB.out | apply below_alloc | apply pw_below_drewN | apply below_drew1) | exact HB.out)) hb); clear HB; have HB := n0_; clear n0_; (try clear hb); (try clear hb2); (try clear hk); (try clear hi)))
        (try simp only [Act.put, List.setIfInBounds_toArray, List.set_cons_zero, List.set_cons_succ])
        go_cut [39] (fun v39 wc => ∃ (kq : Nat) (x39_7 : Bool), v39 = .bool x39_7 ∧ Aside0 (laws_FnTopics.j1 kq l1 t302 x39_7 = some r) ∧ Aside0 (kq ≤ kj2) ∧ Aside0 (Below w.heap.size w wc))
        case first =>
          have H := HC8.out; clear HC8; (replace H := Option.bind_eq_some_iff.mp H); (obtain ⟨t303, A110, H⟩ := H); (replace H : (if t302.toList = t303.toList then (if t302.toList = ([] : List UInt8) then (laws_FnTopics.j1 kj2 l1 t302 false) else ((impl_GoodTopic.f kj2 t302).bind fun t304 => (laws_FnTopics.j1 kj2 l1 t302 (!t304)))) else (laws_FnTopics.j1 kj2 l1 t302 true)) = some r := H); (have A11 := Aside0.mk A110); clear A110
          by_cases c12 : t302.toList = t303.toList
          · rw [if_pos c12] at H
            (have c12b0 : (t302.toList == t303.toList) = true := beq_iff_eq.mpr c12); (have c12b1 : (t302.toList != t303.toList) = false := bne_eq_false_iff_eq.mpr c12); clear c12
            (first | rw [c12b0] | (simp only [i64_w, i32_w]; rw [c12b0]) | skip)
            by_cases c13 : t302.toList = ([] : List UInt8)
            · rw [if_pos c13] at H
              (have c13b0 : (t302.toList == ([] : List UInt8)) = true := beq_iff_eq.mpr c13); (have c13b1 : (t302.toList != ([] : List UInt8)) = false := bne_eq_false_iff_eq.mpr c13); clear c13; (have H' := Aside0.mk H); clear H
              go_wp2_with (first | ((with_reducible refine gate_callee (f := 9) rfl ?_); refine goesL_ (some 29) rfl rfl Tryd.func9 (by kernel_rfl) rfl #[.string t300, .string t301] rfl (by (try simp only [List.map_toArray, List.map_cons, List.map_nil]); first | done | rfl | (simp only [List.length_drop, List.length_take]; rfl)) ?_; (with_reducible refine (spec_ResolveTopic.calls kj2 t300 t301 t303 _ A11.out).mono ?_); rintro e w14 ⟨rfl, hb⟩; refine ⟨_, rfl, ?_⟩; have n0_ := Aside0.mk (below_step (by repeat (first | (with_reducible first | exact HB.out | apply below_alloc | apply pw_below_drewN | apply below_drew1) | exact HB.out)) hb); clear HB; have HB := n0_; clear n0_; (try clear hb); (try clear hb2); (try clear hk); (try clear hi)))
              go_meet
              case rel => exact ⟨_, (false), (by first | rfl | (simp; done) | (simp [*]; done)), H', ⟨by have := HJ2.out; first | omega | exact Nat.le_refl _⟩, ⟨by repeat (first | (with_reducible first | exact HB.out | apply below_alloc | apply pw_below_drewN | apply below_drew1) | exact HB.out)⟩⟩
            · rw [if_neg c13] at H
              (have c13b0 : (t302.toList == ([] : List UInt8)) = false := beq_eq_false_iff_ne.mpr c13); (have c13b1 : (t302.toList != ([] : List UInt8)) = true := bne_iff_ne.mpr c13); (replace H := Option.bind_eq_some_iff.mp H); (obtain ⟨t304, A150, H⟩ := H); (replace H : (laws_FnTopics.j1 kj2 l1 t302 (!t304)) = some r := H); (have A15 := Aside0.mk A150); clear A150; (have H' := Aside0.mk H); clear H
              go_wp2_with (first | ((with_reducible refine gate_callee (f := 9) rfl ?_); refine goesL_ (some 29) rfl rfl Tryd.func9 (by kernel_rfl) rfl #[.string t300, .string t301] rfl (by (try simp only [List.map_toArray, List.map_cons, List.map_nil]); first | done | rfl | (simp only [List.length_drop, List.length_take]; rfl)) ?_; (with_reducible refine (spec_ResolveTopic.calls kj2 t300 t301 t303 _ A11.out).mono ?_); rintro e w16 ⟨rfl, hb⟩; refine ⟨_, rfl, ?_⟩; have n0_ := Aside0.mk (below_step (by repeat (first | (with_reducible first | exact HB.out | apply below_alloc | apply pw_below_drewN | apply below_drew1) | exact HB.out)) hb); clear HB; have HB := n0_; clear n0_; (try clear hb); (try clear hb2); (try clear hk); (try clear hi)) | (go_at_call 8; (with_reducible refine (impl_GoodTopic.calls kj2 t302 t304 _ A15.out).mono ?_); rintro e w17 ⟨rfl, hb⟩; have n0_ := Aside0.mk (below_step (by repeat (first | (with_reducible first | exact HB.out | apply below_alloc | apply pw_below_drewN | apply below_drew1) | exact HB.out)) hb); clear HB; have HB := n0_; clear n0_; (try clear hb); (try clear hb2); (try clear hk); (try clear hi)))
              go_meet
              case rel => exact ⟨_, (!t304), (by first | rfl | (simp; done) | (simp [*]; done)), H', ⟨by have := HJ2.out; first | omega | exact Nat.le_refl _⟩, ⟨by repeat (first | (with_reducible first | exact HB.out | apply below_alloc | apply pw_below_drewN | apply below_drew1) | exact HB.out)⟩⟩
          · rw [if_neg c12] at H
            (have c12b0 : (t302.toList == t303.toList) = false := beq_eq_false_iff_ne.mpr c12); (have c12b1 : (t302.toList != t303.toList) = true := bne_iff_ne.mpr c12)
            (first | rw [c12b0] | (simp only [i64_w, i32_w]; rw [c12b0]) | skip)
            (have H' := Aside0.mk H); clear H
            go_wp2_with (first | ((with_reducible refine gate_callee (f := 9) rfl ?_); refine goesL_ (some 29) rfl rfl Tryd.func9 (by kernel_rfl) rfl #[.string t300, .string t301] rfl (by (try simp only [List.map_toArray, List.map_cons, List.map_nil]); first | done | rfl | (simp only [List.length_drop, List.length_take]; rfl)) ?_; (with_reducible refine (spec_ResolveTopic.calls kj2 t300 t301 t303 _ A11.out).mono ?_); rintro e w18 ⟨rfl, hb⟩; refine ⟨_, rfl, ?_⟩; have n0_ := Aside0.mk (below_step (by repeat (first | (with_reducible first | exact HB.out | apply below_alloc | apply pw_below_drewN | apply below_drew1) | exact HB.out)) hb); clear HB; have HB := n0_; clear n0_; (try clear hb); (try clear hb2); (try clear hk); (try clear hi)))
            go_meet
            case rel => exact ⟨_, (true), (by first | rfl | (simp; done) | (simp [*]; done)), H', ⟨by have := HJ2.out; first | omega | exact Nat.le_refl _⟩, ⟨by repeat (first | (with_reducible first | exact HB.out | apply below_alloc | apply pw_below_drewN | apply below_drew1) | exact HB.out)⟩⟩
        case rest =>
          clear HC8; (try clear c1); (try clear p2); (try clear c4); (try clear c4b0); (try clear c4b1); (try clear c5); (try clear c6); (try clear c9); (try clear c10); (try clear c12); (try clear c12b0); (try clear c12b1); (try clear c13); (try clear c13b0); (try clear c13b1); (try clear p2); (obtain ⟨kq, x39_7, rfl, HA, HJ7, HB⟩ := hcut)
          cases kq with
          | zero => exact absurd HA.out (by simp [laws_FnTopics.j1])
          | succ kj7 =>
            have H := HA.out; clear HA; (simp only [laws_FnTopics.j1] at H)
            by_cases c19 : x39_7 = true
            · subst c19
              (have H1 : (some false) = some r := by rw [if_pos rfl] at H; exact H); clear H; have H := H1; clear H1; (obtain rfl := Option.some.inj H)
              go_wp2
              go_ret
              exact ⟨by first | rfl | (simp [errW_none, errW_some] <;> rfl) | (simp [*, errW_none, errW_some] <;> rfl), by repeat (first | (with_reducible first | exact HB.out | apply below_alloc | apply pw_below_drewN | apply below_drew1) | exact HB.out)⟩
            · replace c19 := Bool.eq_false_iff.mpr c19
              subst c19; (have H1 : (if t302.toList = ([] : List UInt8) then (some true) else ((spec_DrawTopicFits.f kj7 l1).bind fun bt305 => ((impl_TopicFits.f kj7 t302 t302).bind fun t307 => (if t307 = true then ((impl_TopicFits.f kj7 (⟨#[47, 42, 42]⟩ : ByteArray) t302).bind fun t308 => (if t308 = true then ((impl_TopicFits.f kj7 bt305.1 bt305.2).bind fun t309 => ((spec_TopicFits.f kj7 bt305.1 bt305.2).bind fun t310 => (some (t309 == t310)))) else (some false))) else (some false))))) = some r := by rw [if_neg (show ¬ (false = true) by decide)] at H; exact H); clear H; have H := H1; clear H1
              by_cases c20 : t302.toList = ([] : List UInt8)
              · rw [if_pos c20] at H
                (have c20b0 : (t302.toList == ([] : List UInt8)) = true := beq_iff_eq.mpr c20); (have c20b1 : (t302.toList != ([] : List UInt8)) = false := bne_eq_false_iff_eq.mpr c20); clear c20; (obtain rfl := Option.some.inj H)
                go_wp2
                go_ret
                exact ⟨by first | rfl | (simp [errW_none, errW_some] <;> rfl) | (simp [*, errW_none, errW_some] <;> rfl), by repeat (first | (with_reducible first | exact HB.out | apply below_alloc | apply pw_below_drewN | apply below_drew1) | exact HB.out)⟩
              · rw [if_neg c20] at H
                (have c20b0 : (t302.toList == ([] : List UInt8)) = false := beq_eq_false_iff_ne.mpr c20); (have c20b1 : (t302.toList != ([] : List UInt8)) = true := bne_iff_ne.mpr c20); (replace H := Option.bind_eq_some_iff.mp H); (obtain ⟨⟨t305, t306⟩, A210, H⟩ := H); (replace H : ((impl_TopicFits.f kj7 t302 t302).bind fun t307 => (if t307 = true then ((impl_TopicFits.f kj7 (⟨#[47, 42, 42]⟩ : ByteArray) t302).bind fun t308 => (if t308 = true then ((impl_TopicFits.f kj7 t305 t306).bind fun t309 => ((spec_TopicFits.f kj7 t305 t306).bind fun t310 => (some (t309 == t310)))) else (some false))) else (some false))) = some r := H); (have A21 := Aside0.mk A210); clear A210; (replace H := Option.bind_eq_some_iff.mp H); (obtain ⟨t307, A220, H⟩ := H); (replace H : (if t307 = true then ((impl_TopicFits.f kj7 (⟨#[47, 42, 42]⟩ : ByteArray) t302).bind fun t308 => (if t308 = true then ((impl_TopicFits.f kj7 t305 t306).bind fun t309 => ((spec_TopicFits.f kj7 t305 t306).bind fun t310 => (some (t309 == t310)))) else (some false))) else (some false)) = some r := H); (have A22 := Aside0.mk A220); clear A220
                by_cases c23 : t307 = true
                · subst c23
                  (have H1 : ((impl_TopicFits.f kj7 (⟨#[47, 42, 42]⟩ : ByteArray) t302).bind fun t308 => (if t308 = true then ((impl_TopicFits.f kj7 t305 t306).bind fun t309 => ((spec_TopicFits.f kj7 t305 t306).bind fun t310 => (some (t309 == t310)))) else (some false))) = some r := by rw [if_pos rfl] at H; exact H); clear H; have H := H1; clear H1; (replace H := Option.bind_eq_some_iff.mp H); (obtain ⟨t308, A240, H⟩ := H); (replace H : (if t308 = true then ((impl_TopicFits.f kj7 t305 t306).bind fun t309 => ((spec_TopicFits.f kj7 t305 t306).bind fun t310 => (some (t309 == t310)))) else (some false)) = some r := H); (have A24 := Aside0.mk A240); clear A240
                  by_cases c25 : t308 = true
                  · subst c25
                    (have H1 : ((impl_TopicFits.f kj7 t305 t306).bind fun t309 => ((spec_TopicFits.f kj7 t305 t306).bind fun t310 => (some (t309 == t310)))) = some r := by rw [if_pos rfl] at H; exact H); clear H; have H := H1; clear H1; (replace H := Option.bind_eq_some_iff.mp H); (obtain ⟨t309, A260, H⟩ := H); (replace H : ((spec_TopicFits.f kj7 t305 t306).bind fun t310 => (some (t309 == t310))) = some r := H); (have A26 := Aside0.mk A260); clear A260; (replace H := Option.bind_eq_some_iff.mp H); (obtain ⟨t310, A270, H⟩ := H); (replace H : (some (t309 == t310)) = some r := H); (have A27 := Aside0.mk A270); clear A270; (obtain rfl := Option.some.inj H)
                    go_wp2_with (first | ((with_reducible refine gate_callee (f := 14) rfl ?_); refine goesL_ (some 44) rfl rfl Tryd.func14 (by kernel_rfl) rfl #[.slice A1 l1.length c1] rfl (by (try simp only [List.map_toArray, List.map_cons, List.map_nil]); first | done | rfl | (simp only [List.length_drop, List.length_take]; rfl)) ?_; (with_reducible refine (spec_DrawTopicFits.calls kj7 _ _ l1 t305 t306 _ ?side1 ?side2 A21.out).mono ?_); (case side1 => repeat (first | exact (Kd.C_below HR1.out HB.out) | (with_reducible refine Kd.C_alloc ?_ _) | (with_reducible refine Kd.C_drewN ?_ _) | (with_reducible refine Kd.C_drew ?_))); (case side2 => exact HC1.out); rintro e w28 ⟨rfl, hb⟩; refine ⟨_, rfl, ?_⟩; have n0_ := Aside0.mk (below_step (by repeat (first | (with_reducible first | exact HB.out | apply below_alloc | apply pw_below_drewN | apply below_drew1) | exact HB.out)) hb); clear HB; have HB := n0_; clear n0_; (try clear hb); (try clear hb2); (try clear hk); (try clear hi)) | ((with_reducible refine gate_callee (f := 12) rfl ?_); refine goesL_ (some 49) rfl rfl Tryd.func12 (by kernel_rfl) rfl #[.string t302, .string t302] rfl (by (try simp only [List.map_toArray, List.map_cons, List.map_nil]); first | done | rfl | (simp only [List.length_drop, List.length_take]; rfl)) ?_; (with_reducible refine (impl_TopicFits.calls kj7 t302 t302 true _ A22.out).mono ?_); rintro e w29 ⟨rfl, hb⟩; refine ⟨_, rfl, ?_⟩; have n0_ := Aside0.mk (below_step (by repeat (first | (with_reducible first | exact HB.out | apply below_alloc | apply pw_below_drewN | apply below_drew1) | exact HB.out)) hb); clear HB; have HB := n0_; clear n0_; (try clear hb); (try clear hb2); (try clear hk); (try clear hi)) | (go_at_call 12; (with_reducible refine (impl_TopicFits.calls kj7 (⟨#[47, 42, 42]⟩ : ByteArray) t302 true _ A24.out).mono ?_); rintro e w30 ⟨rfl, hb⟩; have n0_ := Aside0.mk (below_step (by repeat (first | (with_reducible first | exact HB.out | apply below_alloc | apply pw_below_drewN | apply below_drew1) | exact HB.out)) hb); clear HB; have HB := n0_; clear n0_; (try clear hb); (try clear hb2); (try clear hk); (try clear hi)) | (go_at_call 12; (with_reducible refine (impl_TopicFits.calls kj7 t305 t306 t309 _ A26.out).mono ?_); rintro e w31 ⟨rfl, hb⟩; have n0_ := Aside0.mk (below_step (by repeat (first | (with_reducible first | exact HB.out | apply below_alloc | apply pw_below_drewN | apply below_drew1) | exact HB.out)) hb); clear HB; have HB := n0_; clear n0_; (try clear hb); (try clear hb2); (try clear hk); (try clear hi)) | (go_at_call 11; (with_reducible refine (spec_TopicFits.calls kj7 t305 t306 t310 _ A27.out).mono ?_); rintro e w32 ⟨rfl, hb⟩; have n0_ := Aside0.mk (below_step (by repeat (first | (with_reducible first | exact HB.out | apply below_alloc | apply pw_below_drewN | apply below_drew1) | exact HB.out)) hb); clear HB; have HB := n0_; clear n0_; (try clear hb); (try clear hb2); (try clear hk); (try clear hi)))
                    go_ret
                    exact ⟨by first | rfl | (simp [errW_none, errW_some] <;> rfl) | (simp [*, errW_none, errW_some] <;> rfl), by repeat (first | (with_reducible first | exact HB.out | apply below_alloc | apply pw_below_drewN | apply below_drew1) | exact HB.out)⟩
                  · replace c25 := Bool.eq_false_iff.mpr c25
                    subst c25; (have H1 : (some false) = some r := by rw [if_neg (show ¬ (false = true) by decide)] at H; exact H); clear H; have H := H1; clear H1; (obtain rfl := Option.some.inj H)
                    go_wp2_with (first | ((with_reducible refine gate_callee (f := 14) rfl ?_); refine goesL_ (some 44) rfl rfl Tryd.func14 (by kernel_rfl) rfl #[.slice A1 l1.length c1] rfl (by (try simp only [List.map_toArray, List.map_cons, List.map_nil]); first | done | rfl | (simp only [List.length_drop, List.length_take]; rfl)) ?_; (with_reducible refine (spec_DrawTopicFits.calls kj7 _ _ l1 t305 t306 _ ?side1 ?side2 A21.out).mono ?_); (case side1 => repeat (first | exact (Kd.C_below HR1.out HB.out) | (with_reducible refine Kd.C_alloc ?_ _) | (with_reducible refine Kd.C_drewN ?_ _) | (with_reducible refine Kd.C_drew ?_))); (case side2 => exact HC1.out); rintro e w33 ⟨rfl, hb⟩; refine ⟨_, rfl, ?_⟩; have n0_ := Aside0.mk (below_step (by repeat (first | (with_reducible first | exact HB.out | apply below_alloc | apply pw_below_drewN | apply below_drew1) | exact HB.out)) hb); clear HB; have HB := n0_; clear n0_; (try clear hb); (try clear hb2); (try clear hk); (try clear hi)) | ((with_reducible refine gate_callee (f := 12) rfl ?_); refine goesL_ (some 49) rfl rfl Tryd.func12 (by kernel_rfl) rfl #[.string t302, .string t302] rfl (by (try simp only [List.map_toArray, List.map_cons, List.map_nil]); first | done | rfl | (simp only [List.length_drop, List.length_take]; rfl)) ?_; (with_reducible refine (impl_TopicFits.calls kj7 t302 t302 true _ A22.out).mono ?_); rintro e w34 ⟨rfl, hb⟩; refine ⟨_, rfl, ?_⟩; have n0_ := Aside0.mk (below_step (by repeat (first | (with_reducible first | exact HB.out | apply below_alloc | apply pw_below_drewN | apply below_drew1) | exact HB.out)) hb); clear HB; have HB := n0_; clear n0_; (try clear hb); (try clear hb2); (try clear hk); (try clear hi)) | (go_at_call 12; (with_reducible refine (impl_TopicFits.calls kj7 (⟨#[47, 42, 42]⟩ : ByteArray) t302 false _ A24.out).mono ?_); rintro e w35 ⟨rfl, hb⟩; have n0_ := Aside0.mk (below_step (by repeat (first | (with_reducible first | exact HB.out | apply below_alloc | apply pw_below_drewN | apply below_drew1) | exact HB.out)) hb); clear HB; have HB := n0_; clear n0_; (try clear hb); (try clear hb2); (try clear hk); (try clear hi)))
                    go_ret
                    exact ⟨by first | rfl | (simp [errW_none, errW_some] <;> rfl) | (simp [*, errW_none, errW_some] <;> rfl), by repeat (first | (with_reducible first | exact HB.out | apply below_alloc | apply pw_below_drewN | apply below_drew1) | exact HB.out)⟩
                · replace c23 := Bool.eq_false_iff.mpr c23
                  subst c23; (have H1 : (some false) = some r := by rw [if_neg (show ¬ (false = true) by decide)] at H; exact H); clear H; have H := H1; clear H1; (obtain rfl := Option.some.inj H)
                  go_wp2_with (first | ((with_reducible refine gate_callee (f := 14) rfl ?_); refine goesL_ (some 44) rfl rfl Tryd.func14 (by kernel_rfl) rfl #[.slice A1 l1.length c1] rfl (by (try simp only [List.map_toArray, List.map_cons, List.map_nil]); first | done | rfl | (simp only [List.length_drop, List.length_take]; rfl)) ?_; (with_reducible refine (spec_DrawTopicFits.calls kj7 _ _ l1 t305 t306 _ ?side1 ?side2 A21.out).mono ?_); (case side1 => repeat (first | exact (Kd.C_below HR1.out HB.out) | (with_reducible refine Kd.C_alloc ?_ _) | (with_reducible refine Kd.C_drewN ?_ _) | (with_reducible refine Kd.C_drew ?_))); (case side2 => exact HC1.out); rintro e w36 ⟨rfl, hb⟩; refine ⟨_, rfl, ?_⟩; have n0_ := Aside0.mk (below_step (by repeat (first | (with_reducible first | exact HB.out | apply below_alloc | apply pw_below_drewN | apply below_drew1) | exact HB.out)) hb); clear HB; have HB := n0_; clear n0_; (try clear hb); (try clear hb2); (try clear hk); (try clear hi)) | ((with_reducible refine gate_callee (f := 12) rfl ?_); refine goesL_ (some 49) rfl rfl Tryd.func12 (by kernel_rfl) rfl #[.string t302, .string t302] rfl (by (try simp only [List.map_toArray, List.map_cons, List.map_nil]); first | done | rfl | (simp only [List.length_drop, List.length_take]; rfl)) ?_; (with_reducible refine (impl_TopicFits.calls kj7 t302 t302 false _ A22.out).mono ?_); rintro e w37 ⟨rfl, hb⟩; refine ⟨_, rfl, ?_⟩; have n0_ := Aside0.mk (below_step (by repeat (first | (with_reducible first | exact HB.out | apply below_alloc | apply pw_below_drewN | apply below_drew1) | exact HB.out)) hb); clear HB; have HB := n0_; clear n0_; (try clear hb); (try clear hb2); (try clear hk); (try clear hi)))
                  go_ret
                  exact ⟨by first | rfl | (simp [errW_none, errW_some] <;> rfl) | (simp [*, errW_none, errW_some] <;> rfl), by repeat (first | (with_reducible first | exact HB.out | apply below_alloc | apply pw_below_drewN | apply below_drew1) | exact HB.out)⟩

/-- THE ONE PURE STATEMENT of laws_FnTopics: yours. -/
def laws_FnTopics.Pure : Prop := ∀ (l0 : List Int) (l1 : List Int), l0.length ≤ maxLen → l0.length * 1 ≤ 140737488351232 → (∀ x ∈ l0, (Lit.int .u8 x).wf = true) → l1.length ≤ maxLen → l1.length * 1 ≤ 140737488351232 → (∀ x ∈ l1, (Lit.int .u8 x).wf = true) → ∃ k, laws_FnTopics.f k l0 l1 = some true
theorem laws_FnTopics.walk (P : laws_FnTopics.Pure) (a0 : Option Addr) (len0 cap0 : Nat) (z0 : List Int) (a1 : Option Addr) (len1 cap1 : Nat) (z1 : List Int) (w : World) (w0 : (a0 = none ∧ len0 = 0 ∧ cap0 = 0 ∧ z0 = []) ∨ ∃ x, a0 = some x ∧ len0 ≤ cap0 ∧ cap0 ≤ maxLen ∧ z0.length = cap0 ∧ (∀ i, i < z0.length → w.cell? (x.add i) = some (.int .u8 (z0.getD i 0))) ∧ ∀ n ∈ z0, (Lit.int .u8 n).wf = true) (y0 : len0 * 1 ≤ 140737488351232) (w1 : (a1 = none ∧ len1 = 0 ∧ cap1 = 0 ∧ z1 = []) ∨ ∃ x, a1 = some x ∧ len1 ≤ cap1 ∧ cap1 ≤ maxLen ∧ z1.length = cap1 ∧ (∀ i, i < z1.length → w.cell? (x.add i) = some (.int .u8 (z1.getD i 0))) ∧ ∀ n ∈ z1, (Lit.int .u8 n).wf = true) (y1 : len1 * 1 ≤ 140737488351232) :
    Calls Tryd.prog 6 #[.slice a0 len0 cap0, .slice a1 len1 cap1] w fun e w' => e = .returned (.bool true) ∧ Below w.heap.size w w' := by
  (obtain ⟨l0, rfl, hr0, hm0, hw0, hc0⟩ := ReadsInt.ofRowC w0); (obtain ⟨l1, rfl, hr1, hm1, hw1, hc1⟩ := ReadsInt.ofRowC w1); (obtain ⟨k, h⟩ := P l0 l1 hm0 y0 hw0 hm1 y1 hw1)
  refine (laws_FnTopics.calls k _ _ l0 _ _ l1 true w (Kd.C_of_reads (d := (0 : Int)) (h1 := fun _ => rfl) hr0) hc0 (Kd.C_of_reads (d := (0 : Int)) (h1 := fun _ => rfl) hr1) hc1 h).mono ?_
  rintro e w' ⟨rfl, hd⟩
  exact ⟨rfl, hd⟩

end Go.Proofs.YtmlejakajcmbdaaDoor.PFnTopics
