-- Written by this session's own program for the law FnRanked; it began as the print's text.
import Derived.Test.YtdbcoojibbboiaaQFnRankedx0
import Derived.Test.YtdbcoojibbboiaaQFnRankedx3
import Derived.Test.YtdbcoojibbboiaaQFnRankedx5
import Derived.Test.YtdbcoojibbboiaaQFnRankedx7
import Derived.Test.YtdbcoojibbboiaaQFnRankedx8
import Derived.Test.YtdbcoojibbboiaaQFnRankedx9
namespace Go.Proofs.Ytdbcoojibbboiaa.PFnRanked
open Go.RowKit Go.Proofs.YtdbcoojibbboiaaW.PrintWords Go.Proofs.YtdbcoojibbboiaaW.PrintLast Go.Proofs.YtdbcoojibbboiaaW.PrintMore
attribute [local go_sem] max2_int min2_int max_two min_two max_three min_three max_four min_four   -- for this text's walks alone
set_option linter.unusedVariables false
set_option linter.unusedSimpArgs false

/-! ### laws_FnRanked: function 3 -/
mutual
def laws_FnRanked.j0 : Nat → List (S62) → List Int → Bool → Option (Bool)
 | 0, _, _, _ => none
 | k + 1, x3, x7, x58 => if x58 = true then (some false) else ((impl_AnswerTimes.f k x3).bind fun bt380 => (if (bt380.1.length : Int) = (x3.length : Int) then (laws_FnRanked.l0 k x7 bt380.1 (bt380.1.length : Int) 0) else (some false)))
def laws_FnRanked.l0 : Nat → List Int → List Int → Int → Int → Option (Bool)
 | 0, _, _, _, _ => none
 | k + 1, x7, x69, x70, x71 => if x71 < x70 then (if 0 ≤ x71 then (if x71 < (x69.length : Int) then (if (rd x69 x71) ≥ 0 then (if x71 < (x7.length : Int) then (if (rd x7 x71) > (rd x69 x71) then (some false) else (laws_FnRanked.l0 k x7 x69 x70 (wrap64 (x71 + 1)))) else (none)) else (laws_FnRanked.l0 k x7 x69 x70 (wrap64 (x71 + 1)))) else (none)) else (none)) else (some true)
end
def laws_FnRanked.f (k : Nat) (l0 : List Int) : Option (Bool) := if (l0.length : Int) > 1048576 then (some true) else ((spec_DrawRunRanked.f k l0).bind fun bt358 => ((impl_RunRanked.f k bt358.1 bt358.2.1 bt358.2.2).bind fun bt365 => ((spec_RunRanked.f k bt358.1 bt358.2.1 bt358.2.2).bind fun bt372 => (if (bt365.2.2 != bt372.2.2) = true then (some false) else (if bt365.2.2 = true then (if (bt365.2.1.length : Int) = (bt358.1.length : Int) then ((spec_SlicesFine.f k bt358.1 bt358.2.1 bt365.1 bt358.2.2).bind fun t379 => (laws_FnRanked.j0 k bt358.1 bt365.2.1 (!t379))) else (laws_FnRanked.j0 k bt358.1 bt365.2.1 true)) else (some true))))))
theorem laws_FnRanked.mono_l : ∀ k, (∀ y0 y1 y2, LeO (laws_FnRanked.j0 k y0 y1 y2) (laws_FnRanked.j0 (k + 1) y0 y1 y2)) ∧ (∀ y0 y1 y2 y3, LeO (laws_FnRanked.l0 k y0 y1 y2 y3) (laws_FnRanked.l0 (k + 1) y0 y1 y2 y3))
 | 0 => ⟨fun _ _ _ r h => by simp [laws_FnRanked.j0] at h, fun _ _ _ _ r h => by simp [laws_FnRanked.l0] at h⟩
 | k + 1 => by
  obtain ⟨ih0, ih1⟩ := laws_FnRanked.mono_l k
  refine ⟨?_, ?_⟩
  · intro y0 y1 y2
    unfold laws_FnRanked.j0
    repeat' first
    | (with_reducible exact ih0 _ _ _)
    | (with_reducible exact ih1 _ _ _ _)
    | (with_reducible exact impl_AnswerTimes.mono _ _)
    | (with_reducible exact impl_RunRanked.mono _ _ _ _)
    | (with_reducible exact spec_DrawRunRanked.mono _ _)
    | (with_reducible exact spec_RunRanked.mono _ _ _ _)
    | (with_reducible exact spec_SlicesFine.mono _ _ _ _ _)
    | (with_reducible exact LeO.refl _)
    | (with_reducible exact LeO.none _)
    | (with_reducible refine LeO.ite ?_ ?_)
    | (with_reducible refine LeO.bind ?_ (fun _ => ?_))
    | exact ih0 _ _ _
    | exact ih1 _ _ _ _
    | exact impl_AnswerTimes.mono _ _
    | exact impl_RunRanked.mono _ _ _ _
    | exact spec_DrawRunRanked.mono _ _
    | exact spec_RunRanked.mono _ _ _ _
    | exact spec_SlicesFine.mono _ _ _ _ _
    | exact LeO.none _
    | refine LeO.ite ?_ ?_
    | refine LeO.bind ?_ (fun _ => ?_)
  · intro y0 y1 y2 y3
    unfold laws_FnRanked.l0
    repeat' first
    | (with_reducible exact ih0 _ _ _)
    | (with_reducible exact ih1 _ _ _ _)
    | (with_reducible exact impl_AnswerTimes.mono _ _)
    | (with_reducible exact impl_RunRanked.mono _ _ _ _)
    | (with_reducible exact spec_DrawRunRanked.mono _ _)
    | (with_reducible exact spec_RunRanked.mono _ _ _ _)
    | (with_reducible exact spec_SlicesFine.mono _ _ _ _ _)
    | (with_reducible exact LeO.refl _)
    | (with_reducible exact LeO.none _)
    | (with_reducible refine LeO.ite ?_ ?_)
    | (with_reducible refine LeO.bind ?_ (fun _ => ?_))
    | exact ih0 _ _ _
    | exact ih1 _ _ _ _
    | exact impl_AnswerTimes.mono _ _
    | exact impl_RunRanked.mono _ _ _ _
    | exact spec_DrawRunRanked.mono _ _
    | exact spec_RunRanked.mono _ _ _ _
    | exact spec_SlicesFine.mono _ _ _ _ _
    | exact LeO.none _
    | refine LeO.ite ?_ ?_
    | refine LeO.bind ?_ (fun _ => ?_)
theorem laws_FnRanked.mono : ∀ a0 k, LeO (laws_FnRanked.f k a0) (laws_FnRanked.f (k + 1) a0) := by
 intro a0 k
 obtain ⟨ih0, ih1⟩ := laws_FnRanked.mono_l k
 unfold laws_FnRanked.f
 repeat' first
  | (with_reducible exact ih0 _ _ _)
  | (with_reducible exact ih1 _ _ _ _)
  | (with_reducible exact impl_AnswerTimes.mono _ _)
  | (with_reducible exact impl_RunRanked.mono _ _ _ _)
  | (with_reducible exact spec_DrawRunRanked.mono _ _)
  | (with_reducible exact spec_RunRanked.mono _ _ _ _)
  | (with_reducible exact spec_SlicesFine.mono _ _ _ _ _)
  | (with_reducible exact LeO.refl _)
  | (with_reducible exact LeO.none _)
  | (with_reducible refine LeO.ite ?_ ?_)
  | (with_reducible refine LeO.bind ?_ (fun _ => ?_))
  | exact ih0 _ _ _
  | exact ih1 _ _ _ _
  | exact impl_AnswerTimes.mono _ _
  | exact impl_RunRanked.mono _ _ _ _
  | exact spec_DrawRunRanked.mono _ _
  | exact spec_RunRanked.mono _ _ _ _
  | exact spec_SlicesFine.mono _ _ _ _ _
  | exact LeO.none _
  | refine LeO.ite ?_ ?_
  | refine LeO.bind ?_ (fun _ => ?_)
set_option maxHeartbeats 8000000 in
set_option maxRecDepth 100000 in
theorem laws_FnRanked.calls (k : Nat) (A0 : Option Addr) (c0 : Nat) (l0 : List Int) (r : Bool) (w : World) (hr0 : Kd.C (Kd.int .u8) w A0 l0.length l0) (hc0 : l0.length ≤ c0) (h : laws_FnRanked.f k l0 = some r) :
 Calls Try.prog 3 #[.slice A0 l0.length c0] w fun e w' => e = .returned (.bool r) ∧ Below w.heap.size w w' := by
 (have HR0 := Aside0.mk hr0); (have HC0 := Aside0.mk hc0); clear hr0 hc0; (have HB := Aside0.mk (Below.refl w.heap.size w)); (have H : (if (l0.length : Int) > 1048576 then (some true) else ((spec_DrawRunRanked.f k l0).bind fun bt358 => ((impl_RunRanked.f k bt358.1 bt358.2.1 bt358.2.2).bind fun bt365 => ((spec_RunRanked.f k bt358.1 bt358.2.1 bt358.2.2).bind fun bt372 => (if (bt365.2.2 != bt372.2.2) = true then (some false) else (if bt365.2.2 = true then (if (bt365.2.1.length : Int) = (bt358.1.length : Int) then ((spec_SlicesFine.f k bt358.1 bt358.2.1 bt365.1 bt358.2.2).bind fun t379 => (laws_FnRanked.j0 k bt358.1 bt365.2.1 (!t379))) else (laws_FnRanked.j0 k bt358.1 bt365.2.1 true)) else (some true))))))) = some r := h); clear h
 by_cases c2 : (l0.length : Int) > 1048576
 · rw [if_pos c2] at H
   (have c2b0 : decide (1048576 < (l0.length : Int)) = true := decide_eq_true c2); (have c2b1 : decide (1048576 < l0.length) = true := decide_eq_true (by omega)); clear c2; (obtain rfl := Option.some.inj H)
   go_enter Try.func3, Try.ntmps3
   go_wp2
   go_ret
   exact ⟨by first | rfl | (simp [errW_none, errW_some] <;> rfl) | (simp [*, errW_none, errW_some] <;> rfl), by repeat (first | (with_reducible first | exact HB.out | apply below_alloc | apply pw_below_drewN | apply below_drew1) | exact HB.out)⟩
 · rw [if_neg c2] at H
   (have c2b0 : decide (1048576 < (l0.length : Int)) = false := decide_eq_false c2); (have c2b1 : decide (1048576 < l0.length) = false := decide_eq_false (by omega)); clear c2; (replace H := Option.bind_eq_some_iff.mp H); (obtain ⟨⟨t358, t359, t360⟩, A30, H⟩ := H); (replace H : ((impl_RunRanked.f k t358 t359 t360).bind fun bt365 => ((spec_RunRanked.f k t358 t359 t360).bind fun bt372 => (if (bt365.2.2 != bt372.2.2) = true then (some false) else (if bt365.2.2 = true then (if (bt365.2.1.length : Int) = (t358.length : Int) then ((spec_SlicesFine.f k t358 t359 bt365.1 t360).bind fun t379 => (laws_FnRanked.j0 k t358 bt365.2.1 (!t379))) else (laws_FnRanked.j0 k t358 bt365.2.1 true)) else (some true))))) = some r := H); (have A3 := Aside0.mk A30); clear A30; (replace H := Option.bind_eq_some_iff.mp H); (obtain ⟨⟨t365, t366, t367⟩, A40, H⟩ := H); (replace H : ((spec_RunRanked.f k t358 t359 t360).bind fun bt372 => (if (t367 != bt372.2.2) = true then (some false) else (if t367 = true then (if (t366.length : Int) = (t358.length : Int) then ((spec_SlicesFine.f k t358 t359 t365 t360).bind fun t379 => (laws_FnRanked.j0 k t358 t366 (!t379))) else (laws_FnRanked.j0 k t358 t366 true)) else (some true)))) = some r := H); (have A4 := Aside0.mk A40); clear A40; (replace H := Option.bind_eq_some_iff.mp H); (obtain ⟨⟨t372, t373, t374⟩, A50, H⟩ := H)
   (replace H : (if (t367 != t374) = true then (some false) else (if t367 = true then (if (t366.length : Int) = (t358.length : Int) then ((spec_SlicesFine.f k t358 t359 t365 t360).bind fun t379 => (laws_FnRanked.j0 k t358 t366 (!t379))) else (laws_FnRanked.j0 k t358 t366 true)) else (some true))) = some r := H); (have A5 := Aside0.mk A50); clear A50
   by_cases c6 : (t367 != t374) = true
   · rw [if_pos c6] at H
     (have c6b0 : (t367 != t374) = true := c6); ((try (have c6b1 : decide (t367 = t374) = false := by simpa using c6))); ((try (have c6b2 : (t367 == t374) = false := by simpa using c6))); ((try (have c6b3 : ¬ (t367 = t374) := by simpa using c6))); clear c6; (obtain rfl := Option.some.inj H)
     go_enter Try.func3, Try.ntmps3
     go_wp2_with (first | ((with_reducible refine gate_callee (f := 6) rfl ?_); refine goesL_ (some 21) rfl rfl Try.func6 (by kernel_rfl) rfl #[.slice A0 l0.length c0] rfl (by (try simp only [List.map_toArray, List.map_cons, List.map_nil]); first | done | rfl | (simp only [List.length_drop, List.length_take]; rfl)) ?_; (with_reducible refine (spec_DrawRunRanked.calls k _ _ l0 t358 t359 t360 _ ?side1 ?side2 A3.out).mono ?_); (case side1 => repeat (first | exact HR0.out | (with_reducible refine Kd.C_alloc ?_ _) | (with_reducible refine Kd.C_drewN ?_ _) | (with_reducible refine Kd.C_drew ?_))); (case side2 => exact HC0.out); rintro e w7 ⟨v361, v363, rfl, ho0, ho1, hb⟩; refine ⟨_, rfl, ?_⟩; have n0_ := Aside0.mk (Kd.R_lower ho0 (below_size (by repeat (first | (with_reducible first | exact HB.out | apply below_alloc | apply pw_below_drewN | apply below_drew1) | exact HB.out)))); have n1_ := Aside0.mk (Kd.R_lower ho1 (below_size (by repeat (first | (with_reducible first | exact HB.out | apply below_alloc | apply pw_below_drewN | apply below_drew1) | exact HB.out)))); have n2_ := Aside0.mk (below_step (by repeat (first | (with_reducible first | exact HB.out | apply below_alloc | apply pw_below_drewN | apply below_drew1) | exact HB.out)) hb); clear HB; have HO362 := n0_; have HO364 := n1_; have HB := n2_; clear n0_ n1_ n2_; (try clear hb); (try clear hb2); (try clear hk); (try clear hi); (try clear ho0); (try clear ho1); obtain ⟨Ao8, co8, eo8⟩ := Kd.R_slice HO362.out; subst eo8; obtain ⟨Ao9, co9, eo9⟩ := Kd.R_slice HO364.out; subst eo9) | ((with_reducible refine gate_callee (f := 7) rfl ?_); refine goesL_ (some 29) rfl rfl Try.func7 (by kernel_rfl) rfl #[.slice Ao8 t358.length co8, .slice Ao9 t359.length co9, .int .i64 t360] rfl (by (try simp only [List.map_toArray, List.map_cons, List.map_nil]); first | done | rfl | (simp only [List.length_drop, List.length_take]; rfl)) ?_; (with_reducible refine (impl_RunRanked.calls k _ _ t358 _ _ t359 t360 t365 t366 t367 _ ?side1 ?side2 ?side3 ?side4 A4.out).mono ?_); (case side1 => repeat (first | exact (Kd.R_reads' HO362.out).2.2 | (with_reducible refine Kd.C_alloc ?_ _) | (with_reducible refine Kd.C_drewN ?_ _) | (with_reducible refine Kd.C_drew ?_))); (case side2 => exact (Kd.R_reads' HO362.out).2.1); (case side3 => repeat (first | exact (Kd.R_reads' HO364.out).2.2 | (with_reducible refine Kd.C_alloc ?_ _) | (with_reducible refine Kd.C_drewN ?_ _) | (with_reducible refine Kd.C_drew ?_))); (case side4 => exact (Kd.R_reads' HO364.out).2.1); rintro e w10 ⟨v368, v370, rfl, ho0, ho1, hb⟩; refine ⟨_, rfl, ?_⟩; have n0_ := Aside0.mk (Kd.R_below HO362.out hb); have n1_ := Aside0.mk (Kd.R_elder' HO364.out (Kd.R_base ho1) hb); have n2_ := Aside0.mk (Kd.R_lower ho0 (below_size (by repeat (first | (with_reducible first | exact HB.out | apply below_alloc | apply pw_below_drewN | apply below_drew1) | exact HB.out)))); have n3_ := Aside0.mk (Kd.R_lower (Kd.R_new' ho1 (Kd.R_lt HO364.out)) (below_size (by repeat (first | (with_reducible first | exact HB.out | apply below_alloc | apply pw_below_drewN | apply below_drew1) | exact HB.out)))); have n4_ := Aside0.mk (below_step (by repeat (first | (with_reducible first | exact HB.out | apply below_alloc | apply pw_below_drewN | apply below_drew1) | exact HB.out)) hb); clear HO362; clear HO364; clear HB; have HO362 := n0_; have HO364 := n1_; have HO369 := n2_; have HO371 := n3_; have HB := n4_; clear n0_ n1_ n2_ n3_ n4_; (try clear hb); (try clear hb2); (try clear hk); (try clear hi); (try clear ho0); (try clear ho1)) | ((with_reducible refine gate_callee (f := 8) rfl ?_); refine goesL_ (some 37) rfl rfl Try.func8 (by kernel_rfl) rfl #[.slice Ao8 t358.length co8, .slice Ao9 t359.length co9, .int .i64 t360] rfl (by (try simp only [List.map_toArray, List.map_cons, List.map_nil]); first | done | rfl | (simp only [List.length_drop, List.length_take]; rfl)) ?_; (with_reducible refine (spec_RunRanked.calls k _ _ t358 _ _ t359 t360 t372 t373 t374 _ ?side1 ?side2 ?side3 ?side4 A5.out).mono ?_); (case side1 => repeat (first | exact (Kd.R_reads' HO362.out).2.2 | (with_reducible refine Kd.C_alloc ?_ _) | (with_reducible refine Kd.C_drewN ?_ _) | (with_reducible refine Kd.C_drew ?_))); (case side2 => exact (Kd.R_reads' HO362.out).2.1); (case side3 => repeat (first | exact (Kd.R_reads' HO364.out).2.2 | (with_reducible refine Kd.C_alloc ?_ _) | (with_reducible refine Kd.C_drewN ?_ _) | (with_reducible refine Kd.C_drew ?_))); (case side4 => exact (Kd.R_reads' HO364.out).2.1); rintro e w11 ⟨v375, v377, rfl, ho0, ho1, hb⟩; refine ⟨_, rfl, ?_⟩; have n0_ := Aside0.mk (Kd.R_below HO362.out hb); have n1_ := Aside0.mk (Kd.R_elder' HO364.out (Kd.R_base ho1) hb); have n2_ := Aside0.mk (Kd.R_elder' HO369.out (Kd.R_base ho0) hb); have n3_ := Aside0.mk (Kd.R_elder' HO371.out (Kd.R_base ho1) hb); have n4_ := Aside0.mk (Kd.R_lower (Kd.R_new' ho0 (Kd.R_lt HO369.out)) (below_size (by repeat (first | (with_reducible first | exact HB.out | apply below_alloc | apply pw_below_drewN | apply below_drew1) | exact HB.out)))); have n5_ := Aside0.mk (Kd.R_lower (Kd.R_new' (Kd.R_new' ho1 (Kd.R_lt HO364.out)) (Kd.R_lt HO371.out)) (below_size (by repeat (first | (with_reducible first | exact HB.out | apply below_alloc | apply pw_below_drewN | apply below_drew1) | exact HB.out)))); have n6_ := Aside0.mk (below_step (by repeat (first | (with_reducible first | exact HB.out | apply below_alloc | apply pw_below_drewN | apply below_drew1) | exact HB.out)) hb); clear HO362; clear HO364; clear HO369; clear HO371; clear HB; have HO362 := n0_; have HO364 := n1_; have HO369 := n2_; have HO371 := n3_; have HO376 := n4_; have HO378 := n5_; have HB := n6_; clear n0_ n1_ n2_ n3_ n4_ n5_ n6_; (try clear hb); (try clear hb2); (try clear hk); (try clear hi); (try clear ho0); (try clear ho1)))
     go_ret
     exact ⟨by first | rfl | (simp [errW_none, errW_some] <;> rfl) | (simp [*, errW_none, errW_some] <;> rfl), by repeat (first | (with_reducible first | exact HB.out | apply below_alloc | apply pw_below_drewN | apply below_drew1) | exact HB.out)⟩
   · rw [if_neg c6] at H
     (have c6b0 : (t367 != t374) = false := by simpa using c6); ((try (have c6b1 : decide (t367 = t374) = true := by simpa using c6))); ((try (have c6b2 : (t367 == t374) = true := by simpa using c6))); clear c6
     by_cases c12 : t367 = true
     · subst c12
       (have H1 : (if (t366.length : Int) = (t358.length : Int) then ((spec_SlicesFine.f k t358 t359 t365 t360).bind fun t379 => (laws_FnRanked.j0 k t358 t366 (!t379))) else (laws_FnRanked.j0 k t358 t366 true)) = some r := by rw [if_pos rfl] at H; exact H); clear H; have H := H1; clear H1; (have HC13 := Aside0.mk H); clear H
       go_enter Try.func3, Try.ntmps3
       go_upto_region 10 with (first | ((with_reducible refine gate_callee (f := 6) rfl ?_); refine goesL_ (some 21) rfl rfl Try.func6 (by kernel_rfl) rfl #[.slice A0 l0.length c0] rfl (by (try simp only [List.map_toArray, List.map_cons, List.map_nil]); first | done | rfl | (simp only [List.length_drop, List.length_take]; rfl)) ?_; (with_reducible refine (spec_DrawRunRanked.calls k _ _ l0 t358 t359 t360 _ ?side1 ?side2 A3.out).mono ?_); (case side1 => repeat (first | exact HR0.out | (with_reducible refine Kd.C_alloc ?_ _) | (with_reducible refine Kd.C_drewN ?_ _) | (with_reducible refine Kd.C_drew ?_))); (case side2 => exact HC0.out); rintro e w14 ⟨v361, v363, rfl, ho0, ho1, hb⟩; refine ⟨_, rfl, ?_⟩; have n0_ := Aside0.mk (Kd.R_lower ho0 (below_size (by repeat (first | (with_reducible first | exact HB.out | apply below_alloc | apply pw_below_drewN | apply below_drew1) | exact HB.out)))); have n1_ := Aside0.mk (Kd.R_lower ho1 (below_size (by repeat (first | (with_reducible first | exact HB.out | apply below_alloc | apply pw_below_drewN | apply below_drew1) | exact HB.out)))); have n2_ := Aside0.mk (below_step (by repeat (first | (with_reducible first | exact HB.out | apply below_alloc | apply pw_below_drewN | apply below_drew1) | exact HB.out)) hb); clear HB; have HO362 := n0_; have HO364 := n1_; have HB := n2_; clear n0_ n1_ n2_; (try clear hb); (try clear hb2); (try clear hk); (try clear hi); (try clear ho0); (try clear ho1); obtain ⟨Ao15, co15, eo15⟩ := Kd.R_slice HO362.out; subst eo15; obtain ⟨Ao16, co16, eo16⟩ := Kd.R_slice HO364.out; subst eo16) | ((with_reducible refine gate_callee (f := 7) rfl ?_); refine goesL_ (some 29) rfl rfl Try.func7 (by kernel_rfl) rfl #[.slice Ao15 t358.length co15, .slice Ao16 t359.length co16, .int .i64 t360] rfl (by (try simp only [List.map_toArray, List.map_cons, List.map_nil]); first | done | rfl | (simp only [List.length_drop, List.length_take]; rfl)) ?_; (with_reducible refine (impl_RunRanked.calls k _ _ t358 _ _ t359 t360 t365 t366 true _ ?side1 ?side2 ?side3 ?side4 A4.out).mono ?_); (case side1 => repeat (first | exact (Kd.R_reads' HO362.out).2.2 | (with_reducible refine Kd.C_alloc ?_ _) | (with_reducible refine Kd.C_drewN ?_ _) | (with_reducible refine Kd.C_drew ?_))); (case side2 => exact (Kd.R_reads' HO362.out).2.1); (case side3 => repeat (first | exact (Kd.R_reads' HO364.out).2.2 | (with_reducible refine Kd.C_alloc ?_ _) | (with_reducible refine Kd.C_drewN ?_ _) | (with_reducible refine Kd.C_drew ?_))); (case side4 => exact (Kd.R_reads' HO364.out).2.1); rintro e w17 ⟨v368, v370, rfl, ho0, ho1, hb⟩; refine ⟨_, rfl, ?_⟩; have n0_ := Aside0.mk (Kd.R_below HO362.out hb); have n1_ := Aside0.mk (Kd.R_elder' HO364.out (Kd.R_base ho1) hb); have n2_ := Aside0.mk (Kd.R_lower ho0 (below_size (by repeat (first | (with_reducible first | exact HB.out | apply below_alloc | apply pw_below_drewN | apply below_drew1) | exact HB.out)))); have n3_ := Aside0.mk (Kd.R_lower (Kd.R_new' ho1 (Kd.R_lt HO364.out)) (below_size (by repeat (first | (with_reducible first | exact HB.out | apply below_alloc | apply pw_below_drewN | apply below_drew1) | exact HB.out)))); have n4_ := Aside0.mk (below_step (by repeat (first | (with_reducible first | exact HB.out | apply below_alloc | apply pw_below_drewN | apply below_drew1) | exact HB.out)) hb); clear HO362; clear HO364; clear HB; have HO362 := n0_; have HO364 := n1_; have HO369 := n2_; have HO371 := n3_; have HB := n4_; clear n0_ n1_ n2_ n3_ n4_; (try clear hb); (try clear hb2); (try clear hk); (try clear hi); (try clear ho0); (try clear ho1)) | ((with_reducible refine gate_callee (f := 8) rfl ?_); refine goesL_ (some 37) rfl rfl Try.func8 (by kernel_rfl) rfl #[.slice Ao15 t358.length co15, .slice Ao16 t359.length co16, .int .i64 t360] rfl (by (try simp only [List.map_toArray, List.map_cons, List.map_nil]); first | done | rfl | (simp only [List.length_drop, List.length_take]; rfl)) ?_; (with_reducible refine (spec_RunRanked.calls k _ _ t358 _ _ t359 t360 t372 t373 t374 _ ?side1 ?side2 ?side3 ?side4 A5.out).mono ?_); (case side1 => repeat (first | exact (Kd.R_reads' HO362.out).2.2 | (with_reducible refine Kd.C_alloc ?_ _) | (with_reducible refine Kd.C_drewN ?_ _) | (with_reducible refine Kd.C_drew ?_))); (case side2 => exact (Kd.R_reads' HO362.out).2.1); (case side3 => repeat (first | exact (Kd.R_reads' HO364.out).2.2 | (with_reducible refine Kd.C_alloc ?_ _) | (with_reducible refine Kd.C_drewN ?_ _) | (with_reducible refine Kd.C_drew ?_))); (case side4 => exact (Kd.R_reads' HO364.out).2.1); rintro e w18 ⟨v375, v377, rfl, ho0, ho1, hb⟩; refine ⟨_, rfl, ?_⟩; have n0_ := Aside0.mk (Kd.R_below HO362.out hb); have n1_ := Aside0.mk (Kd.R_elder' HO364.out (Kd.R_base ho1) hb); have n2_ := Aside0.mk (Kd.R_elder' HO369.out (Kd.R_base ho0) hb); have n3_ := Aside0.mk (Kd.R_elder' HO371.out (Kd.R_base ho1) hb); have n4_ := Aside0.mk (Kd.R_lower (Kd.R_new' ho0 (Kd.R_lt HO369.out)) (below_size (by repeat (first | (with_reducible first | exact HB.out | apply below_alloc | apply pw_below_drewN | apply below_drew1) | exact HB.out)))); have n5_ := Aside0.mk (Kd.R_lower (Kd.R_new' (Kd.R_new' ho1 (Kd.R_lt HO364.out)) (Kd.R_lt HO371.out)) (below_size (by repeat (first | (with_reducible first | exact HB.out | apply below_alloc | apply pw_below_drewN | apply below_drew1) | exact HB.out)))); have n6_ := Aside0.mk (below_step (by repeat (first | (with_reducible first | exact HB.out | apply below_alloc | apply pw_below_drewN | apply below_drew1) | exact HB.out)) hb); clear HO362; clear HO364; clear HO369; clear HO371; clear HB; have HO362 := n0_; have HO364 := n1_; have HO369 := n2_; have HO371 := n3_; have HO376 := n4_; have HO378 := n5_; have HB := n6_; clear n0_ n1_ n2_ n3_ n4_ n5_ n6_; (try clear hb); (try clear hb2); (try clear hk); (try clear hi); (try clear ho0); (try clear ho1)))
       (try simp only [Act.put, List.setIfInBounds_toArray, List.set_cons_zero, List.set_cons_succ])
       go_cut [58] (fun v58 wc => ∃ (kq : Nat) (x58_12 : Bool), v58 = .bool x58_12 ∧ Aside0 (laws_FnRanked.j0 kq t358 t366 x58_12 = some r) ∧ Aside0 (kq ≤ k) ∧ Aside0 (Kd.R k62 62 wc w.heap.size (fun _ => True) (.slice Ao15 t358.length co15) t358) ∧ Aside0 (Kd.R (Kd.int .i64) 3 wc w.heap.size (fun _ => True) v370 t366) ∧ Aside0 (Below w.heap.size w wc))
       case first =>
        have H := HC13.out; clear HC13
        by_cases c19 : (t366.length : Int) = (t358.length : Int)
        · rw [if_pos c19] at H
          (have c19b0 : ((t366.length : Int) == (t358.length : Int)) = true := beq_iff_eq.mpr c19); (have c19b1 : ((t366.length : Int) != (t358.length : Int)) = false := bne_eq_false_iff_eq.mpr c19); (have c19b2 : (t366.length == t358.length) = true := by first | simpa using c19 | (simp at c19 ⊢; omega)); clear c19
          (first | rw [c19b0] | (simp only [i64_w, i32_w]; rw [c19b0]) | skip)
          (replace H := Option.bind_eq_some_iff.mp H); (obtain ⟨t379, A200, H⟩ := H); (replace H : (laws_FnRanked.j0 k t358 t366 (!t379)) = some r := H); (have A20 := Aside0.mk A200); clear A200; (have H' := Aside0.mk H); clear H; (obtain ⟨Ao21, co21, eo21⟩ := Kd.R_slice HO371.out); subst eo21; (obtain ⟨Ao22, co22, eo22⟩ := Kd.R_slice HO369.out); subst eo22
          go_wp2_with (first | (go_at_call 9; (with_reducible refine (spec_SlicesFine.calls k _ _ t358 _ _ t359 _ _ t365 t360 t379 _ ?side1 ?side2 ?side3 ?side4 ?side5 ?side6 A20.out).mono ?_); (case side1 => repeat (first | exact (Kd.R_reads' HO362.out).2.2 | (with_reducible refine Kd.C_alloc ?_ _) | (with_reducible refine Kd.C_drewN ?_ _) | (with_reducible refine Kd.C_drew ?_))); (case side2 => exact (Kd.R_reads' HO362.out).2.1); (case side3 => repeat (first | exact (Kd.R_reads' HO364.out).2.2 | (with_reducible refine Kd.C_alloc ?_ _) | (with_reducible refine Kd.C_drewN ?_ _) | (with_reducible refine Kd.C_drew ?_))); (case side4 => exact (Kd.R_reads' HO364.out).2.1); (case side5 => repeat (first | exact (Kd.R_reads' HO369.out).2.2 | (with_reducible refine Kd.C_alloc ?_ _) | (with_reducible refine Kd.C_drewN ?_ _) | (with_reducible refine Kd.C_drew ?_))); (case side6 => exact (Kd.R_reads' HO369.out).2.1); rintro e w23 ⟨rfl, hb⟩; have n0_ := Aside0.mk (Kd.R_below HO362.out hb); have n1_ := Aside0.mk (Kd.R_below HO364.out hb); have n2_ := Aside0.mk (Kd.R_below HO369.out hb); have n3_ := Aside0.mk (Kd.R_below HO371.out hb); have n4_ := Aside0.mk (Kd.R_below HO376.out hb); have n5_ := Aside0.mk (Kd.R_below HO378.out hb); have n6_ := Aside0.mk (below_step (by repeat (first | (with_reducible first | exact HB.out | apply below_alloc | apply pw_below_drewN | apply below_drew1) | exact HB.out)) hb); clear HO362; clear HO364; clear HO369; clear HO371; clear HO376; clear HO378; clear HB; have HO362 := n0_; have HO364 := n1_; have HO369 := n2_; have HO371 := n3_; have HO376 := n4_; have HO378 := n5_; have HB := n6_; clear n0_ n1_ n2_ n3_ n4_ n5_ n6_; (try clear hb); (try clear hb2); (try clear hk); (try clear hi)))
          go_meet
          case rel => exact ⟨_, (!t379), (by first | rfl | (simp; done) | (simp [*]; done)), H', ⟨by first | omega | exact Nat.le_refl _⟩, ⟨by exact HO362.out⟩, ⟨by exact Kd.R_mono HO371.out (fun _ hk => trivial)⟩, ⟨by repeat (first | (with_reducible first | exact HB.out | apply below_alloc | apply pw_below_drewN | apply below_drew1) | exact HB.out)⟩⟩
        · rw [if_neg c19] at H
          (have c19b0 : ((t366.length : Int) == (t358.length : Int)) = false := beq_eq_false_iff_ne.mpr c19); (have c19b1 : ((t366.length : Int) != (t358.length : Int)) = true := bne_iff_ne.mpr c19); (have c19b2 : (t366.length == t358.length) = false := by first | simpa using c19 | (simp at c19 ⊢; omega))
          (first | rw [c19b0] | (simp only [i64_w, i32_w]; rw [c19b0]) | skip)
          (have H' := Aside0.mk H); clear H; (obtain ⟨Ao24, co24, eo24⟩ := Kd.R_slice HO371.out); subst eo24
          go_wp2
          go_meet
          case rel => exact ⟨_, (true), (by first | rfl | (simp; done) | (simp [*]; done)), H', ⟨by first | omega | exact Nat.le_refl _⟩, ⟨by exact HO362.out⟩, ⟨by exact Kd.R_mono HO371.out (fun _ hk => trivial)⟩, ⟨by repeat (first | (with_reducible first | exact HB.out | apply below_alloc | apply pw_below_drewN | apply below_drew1) | exact HB.out)⟩⟩
       case rest =>
        clear HC13; (try clear c1); (try clear c2); (try clear c2b0); (try clear c2b1); (try clear p2); (try clear c3); (try clear c6); (try clear c6b0); (try clear c6b1); (try clear c6b2); (try clear c7); (try clear c8); (try clear c12); (try clear c19); (try clear c19b0); (try clear c19b1); (try clear c19b2); (obtain ⟨kq, x58_12, rfl, HA, HJ12, HO_3, HO_7, HB⟩ := hcut)
        cases kq with
        | zero => exact absurd HA.out (by simp [laws_FnRanked.j0])
        | succ kj12 =>
         have H := HA.out; clear HA; (simp only [laws_FnRanked.j0] at H)
         by_cases c25 : x58_12 = true
         · subst c25
           (have H1 : (some false) = some r := by rw [if_pos rfl] at H; exact H); clear H; have H := H1; clear H1; (obtain rfl := Option.some.inj H)
           go_wp2
           go_ret
           exact ⟨by first | rfl | (simp [errW_none, errW_some] <;> rfl) | (simp [*, errW_none, errW_some] <;> rfl), by repeat (first | (with_reducible first | exact HB.out | apply below_alloc | apply pw_below_drewN | apply below_drew1) | exact HB.out)⟩
         · replace c25 := Bool.eq_false_iff.mpr c25
           subst c25; (have H1 : ((impl_AnswerTimes.f kj12 t358).bind fun bt380 => (if (bt380.1.length : Int) = (t358.length : Int) then (laws_FnRanked.l0 kj12 t366 bt380.1 (bt380.1.length : Int) 0) else (some false))) = some r := by rw [if_neg (show ¬ (false = true) by decide)] at H; exact H); clear H; have H := H1; clear H1; (replace H := Option.bind_eq_some_iff.mp H); (obtain ⟨⟨t380, t381⟩, A260, H⟩ := H); (replace H : (if (t380.length : Int) = (t358.length : Int) then (laws_FnRanked.l0 kj12 t366 t380 (t380.length : Int) 0) else (some false)) = some r := H); (have A26 := Aside0.mk A260); clear A260
           by_cases c27 : (t380.length : Int) = (t358.length : Int)
           · rw [if_pos c27] at H
             (have c27b0 : ((t380.length : Int) == (t358.length : Int)) = true := beq_iff_eq.mpr c27); (have c27b1 : ((t380.length : Int) != (t358.length : Int)) = false := bne_eq_false_iff_eq.mpr c27); (have c27b2 : (t380.length == t358.length) = true := by first | simpa using c27 | (simp at c27 ⊢; omega)); clear c27; (have H' := Aside0.mk H); clear H
             go_wp2_with (first | ((with_reducible refine gate_callee (f := 10) rfl ?_); refine goesL_ (some 61) rfl rfl Try.func10 (by kernel_rfl) rfl #[.slice Ao15 t358.length co15] rfl (by (try simp only [List.map_toArray, List.map_cons, List.map_nil]); first | done | rfl | (simp only [List.length_drop, List.length_take]; rfl)) ?_; (with_reducible refine (impl_AnswerTimes.calls kj12 _ _ t358 t380 t381 _ ?side1 ?side2 A26.out).mono ?_); (case side1 => repeat (first | exact (Kd.R_reads' HO_3.out).2.2 | (with_reducible refine Kd.C_alloc ?_ _) | (with_reducible refine Kd.C_drewN ?_ _) | (with_reducible refine Kd.C_drew ?_))); (case side2 => exact (Kd.R_reads' HO_3.out).2.1); rintro e w28 ⟨v382, rfl, ho0, hb⟩; refine ⟨_, rfl, ?_⟩; have n0_ := Aside0.mk (Kd.R_below HO_3.out hb); have n1_ := Aside0.mk (Kd.R_elder' HO_7.out (Kd.R_base ho0) hb); have n2_ := Aside0.mk (Kd.R_lower (Kd.R_new' ho0 (Kd.R_lt HO_7.out)) (below_size (by repeat (first | (with_reducible first | exact HB.out | apply below_alloc | apply pw_below_drewN | apply below_drew1) | exact HB.out)))); have n3_ := Aside0.mk (below_step (by repeat (first | (with_reducible first | exact HB.out | apply below_alloc | apply pw_below_drewN | apply below_drew1) | exact HB.out)) hb); clear HO_3; clear HO_7; clear HB; have HO_3 := n0_; have HO_7 := n1_; have HO383 := n2_; have HB := n3_; clear n0_ n1_ n2_ n3_; (try clear hb); (try clear hb2); (try clear hk); (try clear hi); (try clear ho0); obtain ⟨Ao29, co29, eo29⟩ := Kd.R_slice HO383.out; subst eo29))
             go_loopg [71] kj12 (fun kq v71 w' => ∃ (x71_2 : Int), v71 = .int .i64 x71_2 ∧ Aside0 (laws_FnRanked.l0 kq t366 t380 (t380.length : Int) x71_2 = some r) ∧ Aside0 (kq ≤ kj12) ∧ Aside0 (Kd.R (Kd.int .i64) 3 w' w.heap.size (fun k_ => some k_ ≠ ((.slice Ao29 t380.length co29) : Value).ownBlock) v370 t366) ∧ Aside0 (Kd.R (Kd.int .i64) 3 w' w.heap.size (fun k_ => some k_ ≠ (v370 : Value).ownBlock) (.slice Ao29 t380.length co29) t380) ∧ Aside0 (Below w.heap.size w w'))
             case atStart => exact ⟨(0), (by first | rfl | (simp; done) | (simp [*]; done)), H', ⟨Nat.le_refl _⟩, ⟨by exact Kd.R_mono HO_7.out (fun _ hk => hk.2)⟩, ⟨by exact Kd.R_mono HO383.out (fun _ hk => hk.2)⟩, ⟨by repeat (first | (with_reducible first | exact HB.out | apply below_alloc | apply pw_below_drewN | apply below_drew1) | exact HB.out)⟩⟩
             case round =>
              clear H'; (try clear c1); (try clear c2); (try clear c2b0); (try clear c2b1); (try clear p2); (try clear c3); (try clear c6); (try clear c6b0); (try clear c6b1); (try clear c6b2); (try clear c7); (try clear c8); (try clear c10); (try clear c12); (try clear c19); (try clear c19b0); (try clear c19b1); (try clear c19b2); (try clear c25); (try clear c27); (try clear c27b0); (try clear c27b1); (try clear c27b2); (try clear p2); (obtain ⟨x71_2, rfl, HA, HK2, HO_7, HO_69, HB⟩ := hrel)
              cases gk with
              | zero => exact absurd HA.out (by simp [laws_FnRanked.l0])
              | succ k2 =>
               have H := HA.out; clear HA; (simp only [laws_FnRanked.l0] at H)
               by_cases c30 : x71_2 < (t380.length : Int)
               · rw [if_pos c30] at H
                 (have c30b0 : decide (x71_2 < (t380.length : Int)) = true := decide_eq_true c30); clear c30
                 by_cases c31 : 0 ≤ x71_2
                 · rw [if_pos c31] at H
                   (have c31b0 : decide (0 ≤ x71_2) = true := decide_eq_true c31); clear c31
                   by_cases c32 : x71_2 < (t380.length : Int)
                   · rw [if_pos c32] at H
                     (have c32b0 : decide (x71_2 < (t380.length : Int)) = true := decide_eq_true c32); clear c32
                     by_cases c33 : (rd t380 x71_2) ≥ 0
                     · rw [if_pos c33] at H
                       (have c33b0 : decide (0 ≤ (rd t380 x71_2)) = true := decide_eq_true c33); clear c33
                       by_cases c34 : x71_2 < (t366.length : Int)
                       · rw [if_pos c34] at H
                         (have c34b0 : decide (x71_2 < (t366.length : Int)) = true := decide_eq_true c34); clear c34
                         by_cases c35 : (rd t366 x71_2) > (rd t380 x71_2)
                         · rw [if_pos c35] at H
                           (have c35b0 : decide ((rd t380 x71_2) < (rd t366 x71_2)) = true := decide_eq_true c35); clear c35; (obtain rfl := Option.some.inj H); (have p384 : 0 ≤ (x71_2 : Int) := of_decide_eq_true (by first | (with_reducible assumption) | assumption)); (have q384 : x71_2 < (t380.length : Int) := of_decide_eq_true (by first | (with_reducible assumption) | assumption)); (obtain ⟨ad384, e384, hx384_0⟩ := Kd.at_int (Kd.R_reads' HO_69.out).2.2 x71_2 p384 q384)
                           cases e384
                           (replace p384 := eq_true p384); (replace q384 := eq_true q384); (obtain ⟨Ao36, co36, eo36⟩ := Kd.R_slice HO_7.out); subst eo36; (have p385 : 0 ≤ (x71_2 : Int) := of_decide_eq_true (by first | (with_reducible assumption) | assumption)); (have q385 : x71_2 < (t366.length : Int) := of_decide_eq_true (by first | (with_reducible assumption) | assumption)); (obtain ⟨ad385, e385, hx385_0⟩ := Kd.at_int (Kd.R_reads' HO_7.out).2.2 x71_2 p385 q385)
                           cases e385
                           (replace p385 := eq_true p385); (replace q385 := eq_true q385)
                           go_wp2
                           go_ret
                           exact ⟨by first | rfl | (simp [errW_none, errW_some] <;> rfl) | (simp [*, errW_none, errW_some] <;> rfl), by repeat (first | (with_reducible first | exact HB.out | apply below_alloc | apply pw_below_drewN | apply below_drew1) | exact HB.out)⟩
                         · rw [if_neg c35] at H
                           (have c35b0 : decide ((rd t380 x71_2) < (rd t366 x71_2)) = false := decide_eq_false c35); clear c35; (have H' := Aside0.mk H); clear H; (have p384 : 0 ≤ (x71_2 : Int) := of_decide_eq_true (by first | (with_reducible assumption) | assumption)); (have q384 : x71_2 < (t380.length : Int) := of_decide_eq_true (by first | (with_reducible assumption) | assumption)); (obtain ⟨ad384, e384, hx384_0⟩ := Kd.at_int (Kd.R_reads' HO_69.out).2.2 x71_2 p384 q384)
                           cases e384
                           (replace p384 := eq_true p384); (replace q384 := eq_true q384); (obtain ⟨Ao37, co37, eo37⟩ := Kd.R_slice HO_7.out); subst eo37; (have p385 : 0 ≤ (x71_2 : Int) := of_decide_eq_true (by first | (with_reducible assumption) | assumption)); (have q385 : x71_2 < (t366.length : Int) := of_decide_eq_true (by first | (with_reducible assumption) | assumption)); (obtain ⟨ad385, e385, hx385_0⟩ := Kd.at_int (Kd.R_reads' HO_7.out).2.2 x71_2 p385 q385)
                           cases e385
                           (replace p385 := eq_true p385); (replace q385 := eq_true q385)
                           go_wp2
                           go_roundg k2
                           case measure => have := HJ12.out; have := HK2.out; omega
                           case rel => exact ⟨(wrap64 (x71_2 + 1)), (by first | rfl | (simp; done) | (simp [*]; done)), H', ⟨by have := HJ12.out; have := HK2.out; omega⟩, ⟨by exact HO_7.out⟩, ⟨by exact HO_69.out⟩, ⟨by repeat (first | (with_reducible first | exact HB.out | apply below_alloc | apply pw_below_drewN | apply below_drew1) | exact HB.out)⟩⟩
                       · rw [if_neg c34] at H
                         exact absurd H (by simp)
                     · rw [if_neg c33] at H
                       (have c33b0 : decide (0 ≤ (rd t380 x71_2)) = false := decide_eq_false c33); clear c33; (have H' := Aside0.mk H); clear H; (have p384 : 0 ≤ (x71_2 : Int) := of_decide_eq_true (by first | (with_reducible assumption) | assumption)); (have q384 : x71_2 < (t380.length : Int) := of_decide_eq_true (by first | (with_reducible assumption) | assumption)); (obtain ⟨ad384, e384, hx384_0⟩ := Kd.at_int (Kd.R_reads' HO_69.out).2.2 x71_2 p384 q384)
                       cases e384
                       (replace p384 := eq_true p384); (replace q384 := eq_true q384)
                       go_wp2
                       go_roundg k2
                       case measure => have := HJ12.out; have := HK2.out; omega
                       case rel => exact ⟨(wrap64 (x71_2 + 1)), (by first | rfl | (simp; done) | (simp [*]; done)), H', ⟨by have := HJ12.out; have := HK2.out; omega⟩, ⟨by exact HO_7.out⟩, ⟨by exact HO_69.out⟩, ⟨by repeat (first | (with_reducible first | exact HB.out | apply below_alloc | apply pw_below_drewN | apply below_drew1) | exact HB.out)⟩⟩
                   · rw [if_neg c32] at H
                     exact absurd H (by simp)
                 · rw [if_neg c31] at H
                   exact absurd H (by simp)
               · rw [if_neg c30] at H
                 (have c30b0 : decide (x71_2 < (t380.length : Int)) = false := decide_eq_false c30); clear c30; (obtain rfl := Option.some.inj H)
                 go_wp2
                 go_ret
                 exact ⟨by first | rfl | (simp [errW_none, errW_some] <;> rfl) | (simp [*, errW_none, errW_some] <;> rfl), by repeat (first | (with_reducible first | exact HB.out | apply below_alloc | apply pw_below_drewN | apply below_drew1) | exact HB.out)⟩
           · rw [if_neg c27] at H
             (have c27b0 : ((t380.length : Int) == (t358.length : Int)) = false := beq_eq_false_iff_ne.mpr c27); (have c27b1 : ((t380.length : Int) != (t358.length : Int)) = true := bne_iff_ne.mpr c27); (have c27b2 : (t380.length == t358.length) = false := by first | simpa using c27 | (simp at c27 ⊢; omega)); (obtain rfl := Option.some.inj H)
             go_wp2_with (first | ((with_reducible refine gate_callee (f := 10) rfl ?_); refine goesL_ (some 61) rfl rfl Try.func10 (by kernel_rfl) rfl #[.slice Ao15 t358.length co15] rfl (by (try simp only [List.map_toArray, List.map_cons, List.map_nil]); first | done | rfl | (simp only [List.length_drop, List.length_take]; rfl)) ?_; (with_reducible refine (impl_AnswerTimes.calls kj12 _ _ t358 t380 t381 _ ?side1 ?side2 A26.out).mono ?_); (case side1 => repeat (first | exact (Kd.R_reads' HO_3.out).2.2 | (with_reducible refine Kd.C_alloc ?_ _) | (with_reducible refine Kd.C_drewN ?_ _) | (with_reducible refine Kd.C_drew ?_))); (case side2 => exact (Kd.R_reads' HO_3.out).2.1); rintro e w38 ⟨v382, rfl, ho0, hb⟩; refine ⟨_, rfl, ?_⟩; have n0_ := Aside0.mk (Kd.R_below HO_3.out hb); have n1_ := Aside0.mk (Kd.R_elder' HO_7.out (Kd.R_base ho0) hb); have n2_ := Aside0.mk (Kd.R_lower (Kd.R_new' ho0 (Kd.R_lt HO_7.out)) (below_size (by repeat (first | (with_reducible first | exact HB.out | apply below_alloc | apply pw_below_drewN | apply below_drew1) | exact HB.out)))); have n3_ := Aside0.mk (below_step (by repeat (first | (with_reducible first | exact HB.out | apply below_alloc | apply pw_below_drewN | apply below_drew1) | exact HB.out)) hb); clear HO_3; clear HO_7; clear HB; have HO_3 := n0_; have HO_7 := n1_; have HO383 := n2_; have HB := n3_; clear n0_ n1_ n2_ n3_; (try clear hb); (try clear hb2); (try clear hk); (try clear hi); (try clear ho0); obtain ⟨Ao39, co39, eo39⟩ := Kd.R_slice HO383.out; subst eo39))
             go_ret
             exact ⟨by first | rfl | (simp [errW_none, errW_some] <;> rfl) | (simp [*, errW_none, errW_some] <;> rfl), by repeat (first | (with_reducible first | exact HB.out | apply below_alloc | apply pw_below_drewN | apply below_drew1) | exact HB.out)⟩
     · replace c12 := Bool.eq_false_iff.mpr c12
       subst c12; (have H1 : (some true) = some r := by rw [if_neg (show ¬ (false = true) by decide)] at H; exact H); clear H; have H := H1; clear H1; (obtain rfl := Option.some.inj H)
       go_enter Try.func3, Try.ntmps3
       go_wp2_with (first | ((with_reducible refine gate_callee (f := 6) rfl ?_); refine goesL_ (some 21) rfl rfl Try.func6 (by kernel_rfl) rfl #[.slice A0 l0.length c0] rfl (by (try simp only [List.map_toArray, List.map_cons, List.map_nil]); first | done | rfl | (simp only [List.length_drop, List.length_take]; rfl)) ?_; (with_reducible refine (spec_DrawRunRanked.calls k _ _ l0 t358 t359 t360 _ ?side1 ?side2 A3.out).mono ?_); (case side1 => repeat (first | exact HR0.out | (with_reducible refine Kd.C_alloc ?_ _) | (with_reducible refine Kd.C_drewN ?_ _) | (with_reducible refine Kd.C_drew ?_))); (case side2 => exact HC0.out); rintro e w40 ⟨v361, v363, rfl, ho0, ho1, hb⟩; refine ⟨_, rfl, ?_⟩; have n0_ := Aside0.mk (Kd.R_lower ho0 (below_size (by repeat (first | (with_reducible first | exact HB.out | apply below_alloc | apply pw_below_drewN | apply below_drew1) | exact HB.out)))); have n1_ := Aside0.mk (Kd.R_lower ho1 (below_size (by repeat (first | (with_reducible first | exact HB.out | apply below_alloc | apply pw_below_drewN | apply below_drew1) | exact HB.out)))); have n2_ := Aside0.mk (below_step (by repeat (first | (with_reducible first | exact HB.out | apply below_alloc | apply pw_below_drewN | apply below_drew1) | exact HB.out)) hb); clear HB; have HO362 := n0_; have HO364 := n1_; have HB := n2_; clear n0_ n1_ n2_; (try clear hb); (try clear hb2); (try clear hk); (try clear hi); (try clear ho0); (try clear ho1); obtain ⟨Ao41, co41, eo41⟩ := Kd.R_slice HO362.out; subst eo41; obtain ⟨Ao42, co42, eo42⟩ := Kd.R_slice HO364.out; subst eo42) | ((with_reducible refine gate_callee (f := 7) rfl ?_); refine goesL_ (some 29) rfl rfl Try.func7 (by kernel_rfl) rfl #[.slice Ao41 t358.length co41, .slice Ao42 t359.length co42, .int .i64 t360] rfl (by (try simp only [List.map_toArray, List.map_cons, List.map_nil]); first | done | rfl | (simp only [List.length_drop, List.length_take]; rfl)) ?_; (with_reducible refine (impl_RunRanked.calls k _ _ t358 _ _ t359 t360 t365 t366 false _ ?side1 ?side2 ?side3 ?side4 A4.out).mono ?_); (case side1 => repeat (first | exact (Kd.R_reads' HO362.out).2.2 | (with_reducible refine Kd.C_alloc ?_ _) | (with_reducible refine Kd.C_drewN ?_ _) | (with_reducible refine Kd.C_drew ?_))); (case side2 => exact (Kd.R_reads' HO362.out).2.1); (case side3 => repeat (first | exact (Kd.R_reads' HO364.out).2.2 | (with_reducible refine Kd.C_alloc ?_ _) | (with_reducible refine Kd.C_drewN ?_ _) | (with_reducible refine Kd.C_drew ?_))); (case side4 => exact (Kd.R_reads' HO364.out).2.1); rintro e w43 ⟨v368, v370, rfl, ho0, ho1, hb⟩; refine ⟨_, rfl, ?_⟩; have n0_ := Aside0.mk (Kd.R_below HO362.out hb); have n1_ := Aside0.mk (Kd.R_elder' HO364.out (Kd.R_base ho1) hb); have n2_ := Aside0.mk (Kd.R_lower ho0 (below_size (by repeat (first | (with_reducible first | exact HB.out | apply below_alloc | apply pw_below_drewN | apply below_drew1) | exact HB.out)))); have n3_ := Aside0.mk (Kd.R_lower (Kd.R_new' ho1 (Kd.R_lt HO364.out)) (below_size (by repeat (first | (with_reducible first | exact HB.out | apply below_alloc | apply pw_below_drewN | apply below_drew1) | exact HB.out)))); have n4_ := Aside0.mk (below_step (by repeat (first | (with_reducible first | exact HB.out | apply below_alloc | apply pw_below_drewN | apply below_drew1) | exact HB.out)) hb); clear HO362; clear HO364; clear HB; have HO362 := n0_; have HO364 := n1_; have HO369 := n2_; have HO371 := n3_; have HB := n4_; clear n0_ n1_ n2_ n3_ n4_; (try clear hb); (try clear hb2); (try clear hk); (try clear hi); (try clear ho0); (try clear ho1)) | ((with_reducible refine gate_callee (f := 8) rfl ?_); refine goesL_ (some 37) rfl rfl Try.func8 (by kernel_rfl) rfl #[.slice Ao41 t358.length co41, .slice Ao42 t359.length co42, .int .i64 t360] rfl (by (try simp only [List.map_toArray, List.map_cons, List.map_nil]); first | done | rfl | (simp only [List.length_drop, List.length_take]; rfl)) ?_; (with_reducible refine (spec_RunRanked.calls k _ _ t358 _ _ t359 t360 t372 t373 t374 _ ?side1 ?side2 ?side3 ?side4 A5.out).mono ?_); (case side1 => repeat (first | exact (Kd.R_reads' HO362.out).2.2 | (with_reducible refine Kd.C_alloc ?_ _) | (with_reducible refine Kd.C_drewN ?_ _) | (with_reducible refine Kd.C_drew ?_))); (case side2 => exact (Kd.R_reads' HO362.out).2.1); (case side3 => repeat (first | exact (Kd.R_reads' HO364.out).2.2 | (with_reducible refine Kd.C_alloc ?_ _) | (with_reducible refine Kd.C_drewN ?_ _) | (with_reducible refine Kd.C_drew ?_))); (case side4 => exact (Kd.R_reads' HO364.out).2.1); rintro e w44 ⟨v375, v377, rfl, ho0, ho1, hb⟩; refine ⟨_, rfl, ?_⟩; have n0_ := Aside0.mk (Kd.R_below HO362.out hb); have n1_ := Aside0.mk (Kd.R_elder' HO364.out (Kd.R_base ho1) hb); have n2_ := Aside0.mk (Kd.R_elder' HO369.out (Kd.R_base ho0) hb); have n3_ := Aside0.mk (Kd.R_elder' HO371.out (Kd.R_base ho1) hb); have n4_ := Aside0.mk (Kd.R_lower (Kd.R_new' ho0 (Kd.R_lt HO369.out)) (below_size (by repeat (first | (with_reducible first | exact HB.out | apply below_alloc | apply pw_below_drewN | apply below_drew1) | exact HB.out)))); have n5_ := Aside0.mk (Kd.R_lower (Kd.R_new' (Kd.R_new' ho1 (Kd.R_lt HO364.out)) (Kd.R_lt HO371.out)) (below_size (by repeat (first | (with_reducible first | exact HB.out | apply below_alloc | apply pw_below_drewN | apply below_drew1) | exact HB.out)))); have n6_ := Aside0.mk (below_step (by repeat (first | (with_reducible first | exact HB.out | apply below_alloc | apply pw_below_drewN | apply below_drew1) | exact HB.out)) hb); clear HO362; clear HO364; clear HO369; clear HO371; clear HB; have HO362 := n0_; have HO364 := n1_; have HO369 := n2_; have HO371 := n3_; have HO376 := n4_; have HO378 := n5_; have HB := n6_; clear n0_ n1_ n2_ n3_ n4_ n5_ n6_; (try clear hb); (try clear hb2); (try clear hk); (try clear hi); (try clear ho0); (try clear ho1)))
       go_ret
       exact ⟨by first | rfl | (simp [errW_none, errW_some] <;> rfl) | (simp [*, errW_none, errW_some] <;> rfl), by repeat (first | (with_reducible first | exact HB.out | apply below_alloc | apply pw_below_drewN | apply below_drew1) | exact HB.out)⟩

/-- THE ONE PURE STATEMENT of laws_FnRanked: yours. -/
def laws_FnRanked.Pure : Prop := ∀ (l0 : List Int), l0.length ≤ maxLen → l0.length * 1 ≤ 140737488351232 → (∀ x ∈ l0, (Lit.int .u8 x).wf = true) → ∃ k, laws_FnRanked.f k l0 = some true
theorem laws_FnRanked.walk (P : laws_FnRanked.Pure) (a0 : Option Addr) (len0 cap0 : Nat) (z0 : List Int) (w : World) (w0 : (a0 = none ∧ len0 = 0 ∧ cap0 = 0 ∧ z0 = []) ∨ ∃ x, a0 = some x ∧ len0 ≤ cap0 ∧ cap0 ≤ maxLen ∧ z0.length = cap0 ∧ (∀ i, i < z0.length → w.cell? (x.add i) = some (.int .u8 (z0.getD i 0))) ∧ ∀ n ∈ z0, (Lit.int .u8 n).wf = true) (y0 : len0 * 1 ≤ 140737488351232) :
 Calls Try.prog 3 #[.slice a0 len0 cap0] w fun e w' => e = .returned (.bool true) ∧ Below w.heap.size w w' := by
 (obtain ⟨l0, rfl, hr0, hm0, hw0, hc0⟩ := ReadsInt.ofRowC w0); (obtain ⟨k, h⟩ := P l0 hm0 y0 hw0)
 refine (laws_FnRanked.calls k _ _ l0 true w (Kd.C_of_reads (d := (0 : Int)) (h1 := fun _ => rfl) hr0) hc0 h).mono ?_
 rintro e w' ⟨rfl, hd⟩
 exact ⟨rfl, hd⟩

end Go.Proofs.Ytdbcoojibbboiaa.PFnRanked
