-- Written by this session's own program for the law FnExactSendNext; it began as the print's text.
import Derived.Test.YtmlejakajcmbdaaQFnExactSendNextx0
import Derived.Test.YtmlejakajcmbdaaQFnExactSendNextx1
import Derived.Test.YtmlejakajcmbdaaQFnExactSendNextx2
import Derived.Test.YtmlejakajcmbdaaQFnExactSendNextx3
import Derived.Test.YtmlejakajcmbdaaQFnExactSendNextx4
import Derived.Test.YtmlejakajcmbdaaQFnExactSendNextx5
import Derived.Test.YtmlejakajcmbdaaQFnExactSendNextx6
namespace Go.Proofs.Ytmlejakajcmbdaa.PFnExactSendNext
open Go.RowKit Go.Proofs.YtmlejakajcmbdaaW.PrintWords Go.Proofs.YtmlejakajcmbdaaW.PrintLast Go.Proofs.YtmlejakajcmbdaaW.PrintMore
attribute [local go_sem] max2_int min2_int max_two min_two max_three min_three max_four min_four   -- for this text's walks alone
set_option linter.unusedVariables false
set_option linter.unusedSimpArgs false
set_option maxHeartbeats 8000000 in
set_option maxRecDepth 100000 in
theorem laws_FnExactSendNext.calls (k : Nat) (A0_0 : Option Addr) (c0_0 : Nat) (l0_0 : List Int) (a0_1 : Int) (a0_2 : Int) (a1 : Int) (r : Bool) (w : World) (hr0_0 : Kd.C (Kd.int .i64) w A0_0 l0_0.length l0_0) (hc0_0 : l0_0.length ≤ c0_0) (h : laws_FnExactSendNext.f k l0_0 a0_1 a0_2 a1 = some r) :
    Calls Try.prog 7 #[.agg #[.slice A0_0 l0_0.length c0_0, .int .i64 a0_1, .int .i64 a0_2], .int .i64 a1] w fun e w' => e = .returned (.bool r) ∧ Below w.heap.size w w' := by
  have hu51 := Try.underlying51
  have hu54 := Try.underlying54
  have hu55 := Try.underlying55
  have HR0_0 := Aside0.mk hr0_0
  have HC0_0 := Aside0.mk hc0_0
  clear hr0_0 hc0_0
  have HB := Aside0.mk (Below.refl w.heap.size w)
  have H : ((laws_szSender.f l0_0 a0_1 a0_2 1048576).bind fun t185 => (if t185 < 0 then (some true) else ((laws_toSender.f k l0_0 a0_1 a0_2).bind fun bt186 => ((spec_SendNext.f k bt186.1 bt186.2.1 bt186.2.2 a1).bind fun bt191 => ((laws_toSender.f k l0_0 a0_1 a0_2).bind fun bt201 => ((impl_SendNext.f k bt201.1 bt201.2.1 bt201.2.2 a1).bind fun bt207 => ((laws_eqParcel.f bt207.1 bt207.2.1 bt191.1 bt191.2.1).bind fun t217 => (if t217 = true then ((laws_eqSender.f k bt207.2.2.1 bt207.2.2.2.1 bt207.2.2.2.2.1 bt191.2.2.1 bt191.2.2.2.1 bt191.2.2.2.2.1).bind fun t218 => (if t218 = true then (laws_FnExactSendNext.j0 k a1 bt191.2.2.2.2.2 bt207.2.2.2.2.2 (bt207.2.2.2.2.2 != bt191.2.2.2.2.2) l0_0 a0_1 a0_2 bt191.1 bt191.2.1 bt191.2.2.1 bt191.2.2.2.1 bt191.2.2.2.2.1 bt201.1 bt201.2.1 bt201.2.2 bt207.1 bt207.2.1 bt207.2.2.1 bt207.2.2.2.1 bt207.2.2.2.2.1) else (laws_FnExactSendNext.j0 k a1 bt191.2.2.2.2.2 bt207.2.2.2.2.2 true l0_0 a0_1 a0_2 bt191.1 bt191.2.1 bt191.2.2.1 bt191.2.2.2.1 bt191.2.2.2.2.1 bt201.1 bt201.2.1 bt201.2.2 bt207.1 bt207.2.1 bt207.2.2.1 bt207.2.2.2.1 bt207.2.2.2.2.1))) else (laws_FnExactSendNext.j0 k a1 bt191.2.2.2.2.2 bt207.2.2.2.2.2 true l0_0 a0_1 a0_2 bt191.1 bt191.2.1 bt191.2.2.1 bt191.2.2.2.1 bt191.2.2.2.2.1 bt201.1 bt201.2.1 bt201.2.2 bt207.1 bt207.2.1 bt207.2.2.1 bt207.2.2.2.1 bt207.2.2.2.2.1))))))))) = some r := h
  clear h
  replace H := Option.bind_eq_some_iff.mp H
  obtain ⟨t185, A30, H⟩ := H
  replace H : (if t185 < 0 then (some true) else ((laws_toSender.f k l0_0 a0_1 a0_2).bind fun bt186 => ((spec_SendNext.f k bt186.1 bt186.2.1 bt186.2.2 a1).bind fun bt191 => ((laws_toSender.f k l0_0 a0_1 a0_2).bind fun bt201 => ((impl_SendNext.f k bt201.1 bt201.2.1 bt201.2.2 a1).bind fun bt207 => ((laws_eqParcel.f bt207.1 bt207.2.1 bt191.1 bt191.2.1).bind fun t217 => (if t217 = true then ((laws_eqSender.f k bt207.2.2.1 bt207.2.2.2.1 bt207.2.2.2.2.1 bt191.2.2.1 bt191.2.2.2.1 bt191.2.2.2.2.1).bind fun t218 => (if t218 = true then (laws_FnExactSendNext.j0 k a1 bt191.2.2.2.2.2 bt207.2.2.2.2.2 (bt207.2.2.2.2.2 != bt191.2.2.2.2.2) l0_0 a0_1 a0_2 bt191.1 bt191.2.1 bt191.2.2.1 bt191.2.2.2.1 bt191.2.2.2.2.1 bt201.1 bt201.2.1 bt201.2.2 bt207.1 bt207.2.1 bt207.2.2.1 bt207.2.2.2.1 bt207.2.2.2.2.1) else (laws_FnExactSendNext.j0 k a1 bt191.2.2.2.2.2 bt207.2.2.2.2.2 true l0_0 a0_1 a0_2 bt191.1 bt191.2.1 bt191.2.2.1 bt191.2.2.2.1 bt191.2.2.2.2.1 bt201.1 bt201.2.1 bt201.2.2 bt207.1 bt207.2.1 bt207.2.2.1 bt207.2.2.2.1 bt207.2.2.2.2.1))) else (laws_FnExactSendNext.j0 k a1 bt191.2.2.2.2.2 bt207.2.2.2.2.2 true l0_0 a0_1 a0_2 bt191.1 bt191.2.1 bt191.2.2.1 bt191.2.2.2.1 bt191.2.2.2.2.1 bt201.1 bt201.2.1 bt201.2.2 bt207.1 bt207.2.1 bt207.2.2.1 bt207.2.2.2.1 bt207.2.2.2.2.1)))))))) = some r := H
  have A3 := Aside0.mk A30
  clear A30
  by_cases c4 : t185 < 0
  · rw [if_pos c4] at H
    have c4b0 : decide (t185 < 0) = true := decide_eq_true c4
    clear c4
    obtain rfl := Option.some.inj H
    go_enter Try.func7, Try.ntmps7
    go_wp2_with (first | ((with_reducible refine gate_dst (N := 2) rfl ?_); refine box_event ?hg (N := 2) ?hd (cs := #[.slice A0_0 l0_0.length c0_0, .int .i64 a0_1, .int .i64 a0_2]) (t := 51) ?hr ?_; (case hd => rfl); (case hg => rfl); (case hr => first | (go_simp; done) | (go_simp; rfl)); intro gb184 hg w5 hbox hb; have n0_ := Aside0.mk (below_step (by repeat (first | (with_reducible first | exact HB.out | apply below_alloc | apply pw_below_drewN | apply below_drew1) | exact HB.out)) hb); have n1_ := Aside0.mk (hbox); have n2_ := Aside0.mk ((by rw [hg]; exact (below_size (by repeat (first | (with_reducible first | exact HB.out | apply below_alloc | apply pw_below_drewN | apply below_drew1) | exact HB.out))) : w.heap.size ≤ gb184)); have n3_ := Aside0.mk ((by rw [hg]; exact (below_size (by repeat (first | (with_reducible first | exact HB.out | apply below_alloc | apply pw_below_drewN | apply below_drew1) | exact HB.out))) : w.heap.size ≤ gb184)); clear HB; have HB := n0_; have BK184 := n1_; have GW184 := n2_; have GE184 := n3_; clear n0_ n1_ n2_ n3_; clear hb hbox hg; have hcz6_0 : w5.cell? ⟨gb184, 0, none⟩ = some (.slice A0_0 l0_0.length c0_0) := (blk_cell BK184.out 0).trans rfl; have hcz6_1 : w5.cell? ⟨gb184, 1, none⟩ = some (.int .i64 a0_1) := (blk_cell BK184.out 1).trans rfl; have hcz6_2 : w5.cell? ⟨gb184, 2, none⟩ = some (.int .i64 a0_2) := (blk_cell BK184.out 2).trans rfl; have hfz6_0 := blk_frozen BK184.out 0; have hfz6_1 := blk_frozen BK184.out 1; have hfz6_2 := blk_frozen BK184.out 2) | ((with_reducible refine gate_callee (f := 29) rfl ?_); refine goesL_ (some 21) rfl rfl Try.func29 (by kernel_rfl) rfl #[.agg #[.slice A0_0 l0_0.length c0_0, .int .i64 a0_1, .int .i64 a0_2], .int .i64 1048576] rfl (by (try simp only [List.map_toArray, List.map_cons, List.map_nil]); first | done | rfl | (simp only [List.length_drop, List.length_take]; rfl)) ?_; (with_reducible refine (laws_szSender.calls _ _ l0_0 a0_1 a0_2 1048576 t185 _ ?side1 ?side2 A3.out).mono ?_); (case side1 => repeat (first | exact (Kd.C_below HR0_0.out HB.out) | (with_reducible refine Kd.C_alloc ?_ _) | (with_reducible refine Kd.C_drewN ?_ _) | (with_reducible refine Kd.C_drew ?_))); (case side2 => exact HC0_0.out); rintro e w7 ⟨rfl, hb⟩; refine ⟨_, rfl, ?_⟩; have n0_ := Aside0.mk (blk_below (g := gb184) (o := .cells #[.slice A0_0 l0_0.length c0_0, .int .i64 a0_1, .int .i64 a0_2] 51 (0, 0)) BK184.out hb); have n1_ := Aside0.mk (below_step (by repeat (first | (with_reducible first | exact HB.out | apply below_alloc | apply pw_below_drewN | apply below_drew1 | refine below_set ?_ GE184.out) | exact HB.out)) hb); clear BK184; clear HB; have BK184 := n0_; have HB := n1_; clear n0_ n1_; (try clear hb); (try clear hb2); (try clear hk); (try clear hi)))
    go_ret
    exact ⟨by first | rfl | (simp [errW_none, errW_some] <;> rfl) | (simp [*, errW_none, errW_some] <;> rfl), by repeat (first | (with_reducible first | exact HB.out | apply below_alloc | apply pw_below_drewN | apply below_drew1 | refine below_set ?_ GE184.out) | exact HB.out)⟩
  · rw [if_neg c4] at H
    have c4b0 : decide (t185 < 0) = false := decide_eq_false c4
    clear c4
    replace H := Option.bind_eq_some_iff.mp H
    obtain ⟨⟨t186, t189, t190⟩, A80, H⟩ := H
    replace H : ((spec_SendNext.f k t186 t189 t190 a1).bind fun bt191 => ((laws_toSender.f k l0_0 a0_1 a0_2).bind fun bt201 => ((impl_SendNext.f k bt201.1 bt201.2.1 bt201.2.2 a1).bind fun bt207 => ((laws_eqParcel.f bt207.1 bt207.2.1 bt191.1 bt191.2.1).bind fun t217 => (if t217 = true then ((laws_eqSender.f k bt207.2.2.1 bt207.2.2.2.1 bt207.2.2.2.2.1 bt191.2.2.1 bt191.2.2.2.1 bt191.2.2.2.2.1).bind fun t218 => (if t218 = true then (laws_FnExactSendNext.j0 k a1 bt191.2.2.2.2.2 bt207.2.2.2.2.2 (bt207.2.2.2.2.2 != bt191.2.2.2.2.2) l0_0 a0_1 a0_2 bt191.1 bt191.2.1 bt191.2.2.1 bt191.2.2.2.1 bt191.2.2.2.2.1 bt201.1 bt201.2.1 bt201.2.2 bt207.1 bt207.2.1 bt207.2.2.1 bt207.2.2.2.1 bt207.2.2.2.2.1) else (laws_FnExactSendNext.j0 k a1 bt191.2.2.2.2.2 bt207.2.2.2.2.2 true l0_0 a0_1 a0_2 bt191.1 bt191.2.1 bt191.2.2.1 bt191.2.2.2.1 bt191.2.2.2.2.1 bt201.1 bt201.2.1 bt201.2.2 bt207.1 bt207.2.1 bt207.2.2.1 bt207.2.2.2.1 bt207.2.2.2.2.1))) else (laws_FnExactSendNext.j0 k a1 bt191.2.2.2.2.2 bt207.2.2.2.2.2 true l0_0 a0_1 a0_2 bt191.1 bt191.2.1 bt191.2.2.1 bt191.2.2.2.1 bt191.2.2.2.2.1 bt201.1 bt201.2.1 bt201.2.2 bt207.1 bt207.2.1 bt207.2.2.1 bt207.2.2.2.1 bt207.2.2.2.2.1)))))) = some r := H
    have A8 := Aside0.mk A80
    clear A80
    replace H := Option.bind_eq_some_iff.mp H
    obtain ⟨⟨t191, t192, t193, t196, t197, t198⟩, A90, H⟩ := H
    replace H : ((laws_toSender.f k l0_0 a0_1 a0_2).bind fun bt201 => ((impl_SendNext.f k bt201.1 bt201.2.1 bt201.2.2 a1).bind fun bt207 => ((laws_eqParcel.f bt207.1 bt207.2.1 t191 t192).bind fun t217 => (if t217 = true then ((laws_eqSender.f k bt207.2.2.1 bt207.2.2.2.1 bt207.2.2.2.2.1 t193 t196 t197).bind fun t218 => (if t218 = true then (laws_FnExactSendNext.j0 k a1 t198 bt207.2.2.2.2.2 (bt207.2.2.2.2.2 != t198) l0_0 a0_1 a0_2 t191 t192 t193 t196 t197 bt201.1 bt201.2.1 bt201.2.2 bt207.1 bt207.2.1 bt207.2.2.1 bt207.2.2.2.1 bt207.2.2.2.2.1) else (laws_FnExactSendNext.j0 k a1 t198 bt207.2.2.2.2.2 true l0_0 a0_1 a0_2 t191 t192 t193 t196 t197 bt201.1 bt201.2.1 bt201.2.2 bt207.1 bt207.2.1 bt207.2.2.1 bt207.2.2.2.1 bt207.2.2.2.2.1))) else (laws_FnExactSendNext.j0 k a1 t198 bt207.2.2.2.2.2 true l0_0 a0_1 a0_2 t191 t192 t193 t196 t197 bt201.1 bt201.2.1 bt201.2.2 bt207.1 bt207.2.1 bt207.2.2.1 bt207.2.2.2.1 bt207.2.2.2.2.1))))) = some r := H
    have A9 := Aside0.mk A90
    clear A90
    replace H := Option.bind_eq_some_iff.mp H
    obtain ⟨⟨t201, t204, t205⟩, A100, H⟩ := H
    replace H : ((impl_SendNext.f k t201 t204 t205 a1).bind fun bt207 => ((laws_eqParcel.f bt207.1 bt207.2.1 t191 t192).bind fun t217 => (if t217 = true then ((laws_eqSender.f k bt207.2.2.1 bt207.2.2.2.1 bt207.2.2.2.2.1 t193 t196 t197).bind fun t218 => (if t218 = true then (laws_FnExactSendNext.j0 k a1 t198 bt207.2.2.2.2.2 (bt207.2.2.2.2.2 != t198) l0_0 a0_1 a0_2 t191 t192 t193 t196 t197 t201 t204 t205 bt207.1 bt207.2.1 bt207.2.2.1 bt207.2.2.2.1 bt207.2.2.2.2.1) else (laws_FnExactSendNext.j0 k a1 t198 bt207.2.2.2.2.2 true l0_0 a0_1 a0_2 t191 t192 t193 t196 t197 t201 t204 t205 bt207.1 bt207.2.1 bt207.2.2.1 bt207.2.2.2.1 bt207.2.2.2.2.1))) else (laws_FnExactSendNext.j0 k a1 t198 bt207.2.2.2.2.2 true l0_0 a0_1 a0_2 t191 t192 t193 t196 t197 t201 t204 t205 bt207.1 bt207.2.1 bt207.2.2.1 bt207.2.2.2.1 bt207.2.2.2.2.1)))) = some r := H
    have A10 := Aside0.mk A100
    clear A100
    replace H := Option.bind_eq_some_iff.mp H
    obtain ⟨⟨t207, t208, t209, t212, t213, t214⟩, A110, H⟩ := H
    replace H : ((laws_eqParcel.f t207 t208 t191 t192).bind fun t217 => (if t217 = true then ((laws_eqSender.f k t209 t212 t213 t193 t196 t197).bind fun t218 => (if t218 = true then (laws_FnExactSendNext.j0 k a1 t198 t214 (t214 != t198) l0_0 a0_1 a0_2 t191 t192 t193 t196 t197 t201 t204 t205 t207 t208 t209 t212 t213) else (laws_FnExactSendNext.j0 k a1 t198 t214 true l0_0 a0_1 a0_2 t191 t192 t193 t196 t197 t201 t204 t205 t207 t208 t209 t212 t213))) else (laws_FnExactSendNext.j0 k a1 t198 t214 true l0_0 a0_1 a0_2 t191 t192 t193 t196 t197 t201 t204 t205 t207 t208 t209 t212 t213))) = some r := H
    have A11 := Aside0.mk A110
    clear A110
    have HC12 := Aside0.mk H
    clear H
    go_enter Try.func7, Try.ntmps7
    go_upto_region 8 with (first | ((with_reducible refine gate_dst (N := 2) rfl ?_); refine box_event ?hg (N := 2) ?hd (cs := #[.slice A0_0 l0_0.length c0_0, .int .i64 a0_1, .int .i64 a0_2]) (t := 51) ?hr ?_; (case hd => rfl); (case hg => rfl); (case hr => first | (go_simp; done) | (go_simp; rfl)); intro gb184 hg w13 hbox hb; have n0_ := Aside0.mk (below_step (by repeat (first | (with_reducible first | exact HB.out | apply below_alloc | apply pw_below_drewN | apply below_drew1) | exact HB.out)) hb); have n1_ := Aside0.mk (hbox); have n2_ := Aside0.mk ((by rw [hg]; exact (below_size (by repeat (first | (with_reducible first | exact HB.out | apply below_alloc | apply pw_below_drewN | apply below_drew1) | exact HB.out))) : w.heap.size ≤ gb184)); have n3_ := Aside0.mk ((by rw [hg]; exact (below_size (by repeat (first | (with_reducible first | exact HB.out | apply below_alloc | apply pw_below_drewN | apply below_drew1) | exact HB.out))) : w.heap.size ≤ gb184)); clear HB; have HB := n0_; have BK184 := n1_; have GW184 := n2_; have GE184 := n3_; clear n0_ n1_ n2_ n3_; clear hb hbox hg; have hcz14_0 : w13.cell? ⟨gb184, 0, none⟩ = some (.slice A0_0 l0_0.length c0_0) := (blk_cell BK184.out 0).trans rfl; have hcz14_1 : w13.cell? ⟨gb184, 1, none⟩ = some (.int .i64 a0_1) := (blk_cell BK184.out 1).trans rfl; have hcz14_2 : w13.cell? ⟨gb184, 2, none⟩ = some (.int .i64 a0_2) := (blk_cell BK184.out 2).trans rfl; have hfz14_0 := blk_frozen BK184.out 0; have hfz14_1 := blk_frozen BK184.out 1; have hfz14_2 := blk_frozen BK184.out 2) | ((with_reducible refine gate_callee (f := 29) rfl ?_); refine goesL_ (some 21) rfl rfl Try.func29 (by kernel_rfl) rfl #[.agg #[.slice A0_0 l0_0.length c0_0, .int .i64 a0_1, .int .i64 a0_2], .int .i64 1048576] rfl (by (try simp only [List.map_toArray, List.map_cons, List.map_nil]); first | done | rfl | (simp only [List.length_drop, List.length_take]; rfl)) ?_; (with_reducible refine (laws_szSender.calls _ _ l0_0 a0_1 a0_2 1048576 t185 _ ?side1 ?side2 A3.out).mono ?_); (case side1 => repeat (first | exact (Kd.C_below HR0_0.out HB.out) | (with_reducible refine Kd.C_alloc ?_ _) | (with_reducible refine Kd.C_drewN ?_ _) | (with_reducible refine Kd.C_drew ?_))); (case side2 => exact HC0_0.out); rintro e w15 ⟨rfl, hb⟩; refine ⟨_, rfl, ?_⟩; have n0_ := Aside0.mk (blk_below (g := gb184) (o := .cells #[.slice A0_0 l0_0.length c0_0, .int .i64 a0_1, .int .i64 a0_2] 51 (0, 0)) BK184.out hb); have n1_ := Aside0.mk (below_step (by repeat (first | (with_reducible first | exact HB.out | apply below_alloc | apply pw_below_drewN | apply below_drew1 | refine below_set ?_ GE184.out) | exact HB.out)) hb); clear BK184; clear HB; have BK184 := n0_; have HB := n1_; clear n0_ n1_; (try clear hb); (try clear hb2); (try clear hk); (try clear hi); have hcz16_0 : w15.cell? ⟨gb184, 0, none⟩ = some (.slice A0_0 l0_0.length c0_0) := (blk_cell BK184.out 0).trans rfl; have hcz16_1 : w15.cell? ⟨gb184, 1, none⟩ = some (.int .i64 a0_1) := (blk_cell BK184.out 1).trans rfl; have hcz16_2 : w15.cell? ⟨gb184, 2, none⟩ = some (.int .i64 a0_2) := (blk_cell BK184.out 2).trans rfl; have hfz16_0 := blk_frozen BK184.out 0; have hfz16_1 := blk_frozen BK184.out 1; have hfz16_2 := blk_frozen BK184.out 2) | ((with_reducible refine gate_callee (f := 31) rfl ?_); refine goesL_ (some 26) rfl rfl Try.func31 (by kernel_rfl) rfl #[.agg #[.slice A0_0 l0_0.length c0_0, .int .i64 a0_1, .int .i64 a0_2]] rfl (by (try simp only [List.map_toArray, List.map_cons, List.map_nil]); first | done | rfl | (simp only [List.length_drop, List.length_take]; rfl)) ?_; (with_reducible refine (laws_toSender.calls k _ _ l0_0 a0_1 a0_2 t186 t189 t190 _ ?side1 ?side2 A8.out).mono ?_); (case side1 => repeat (first | exact (Kd.C_below HR0_0.out HB.out) | (with_reducible refine Kd.C_alloc ?_ _) | (with_reducible refine Kd.C_drewN ?_ _) | (with_reducible refine Kd.C_drew ?_))); (case side2 => exact HC0_0.out); rintro e w17 ⟨v187, rfl, ho0, hb⟩; refine ⟨_, rfl, ?_⟩; have n0_ := Aside0.mk (Kd.R_lower ho0 (below_size (by repeat (first | (with_reducible first | exact HB.out | apply below_alloc | apply pw_below_drewN | apply below_drew1 | refine below_set ?_ GE184.out) | exact HB.out)))); have n1_ := Aside0.mk (blk_below (g := gb184) (o := .cells #[.slice A0_0 l0_0.length c0_0, .int .i64 a0_1, .int .i64 a0_2] 51 (0, 0)) BK184.out hb); have n2_ := Aside0.mk (below_step (by repeat (first | (with_reducible first | exact HB.out | apply below_alloc | apply pw_below_drewN | apply below_drew1 | refine below_set ?_ GE184.out) | exact HB.out)) hb); clear BK184; clear HB; have HO188 := n0_; have BK184 := n1_; have HB := n2_; clear n0_ n1_ n2_; (try clear hb); (try clear hb2); (try clear hk); (try clear hi); (try clear ho0); obtain ⟨Ao18, co18, eo18⟩ := Kd.R_slice HO188.out; subst eo18) | ((with_reducible refine gate_callee (f := 30) rfl ?_); refine goesL_ (some 28) rfl rfl Try.func30 (by kernel_rfl) rfl #[.agg #[.slice Ao18 t186.length co18, .int .i64 t189, .int .i64 t190], .int .i64 a1] rfl (by (try simp only [List.map_toArray, List.map_cons, List.map_nil]); first | done | rfl | (simp only [List.length_drop, List.length_take]; rfl)) ?_; (with_reducible refine (spec_SendNext.calls k _ _ t186 t189 t190 a1 t191 t192 t193 t196 t197 t198 _ ?side1 ?side2 A9.out).mono ?_); (case side1 => repeat (first | exact (Kd.R_reads' HO188.out).2.2 | (with_reducible refine Kd.C_alloc ?_ _) | (with_reducible refine Kd.C_drewN ?_ _) | (with_reducible refine Kd.C_drew ?_))); (case side2 => exact (Kd.R_reads' HO188.out).2.1); rintro e w19 ⟨v194, rfl, ho0, hb⟩; refine ⟨_, rfl, ?_⟩; have n0_ := Aside0.mk (Kd.R_elder' HO188.out (Kd.R_base ho0) hb); have n1_ := Aside0.mk (Kd.R_lower (Kd.R_new' ho0 (Kd.R_lt HO188.out)) (below_size (by repeat (first | (with_reducible first | exact HB.out | apply below_alloc | apply pw_below_drewN | apply below_drew1 | refine below_set ?_ GE184.out) | exact HB.out)))); have n2_ := Aside0.mk (blk_below (g := gb184) (o := .cells #[.slice A0_0 l0_0.length c0_0, .int .i64 a0_1, .int .i64 a0_2] 51 (0, 0)) BK184.out hb); have n3_ := Aside0.mk (below_step (by repeat (first | (with_reducible first | exact HB.out | apply below_alloc | apply pw_below_drewN | apply below_drew1 | refine below_set ?_ GE184.out) | exact HB.out)) hb); clear HO188; clear BK184; clear HB; have HO188 := n0_; have HO195 := n1_; have BK184 := n2_; have HB := n3_; clear n0_ n1_ n2_ n3_; (try clear hb); (try clear hb2); (try clear hk); (try clear hi); (try clear ho0)) | ((with_reducible refine gate_dst (N := 6) rfl ?_); refine box_event ?hg (N := 6) ?hd (cs := #[.int .i64 0, .int .i64 0]) (t := 54) ?hr ?_; (case hd => rfl); (case hg => rfl); (case hr => first | (go_simp; done) | (go_simp; rfl)); intro gb199 hg w20 hbox hb; have n0_ := Aside0.mk (Kd.R_below HO188.out hb); have n1_ := Aside0.mk (Kd.R_below HO195.out hb); have n2_ := Aside0.mk (blk_below (g := gb184) (o := .cells #[.slice A0_0 l0_0.length c0_0, .int .i64 a0_1, .int .i64 a0_2] 51 (0, 0)) BK184.out hb); have n3_ := Aside0.mk (below_step (by repeat (first | (with_reducible first | exact HB.out | apply below_alloc | apply pw_below_drewN | apply below_drew1 | refine below_set ?_ GE184.out) | exact HB.out)) hb); have n4_ := Aside0.mk (hbox); have n5_ := Aside0.mk ((by rw [hg]; exact (below_size (by repeat (first | (with_reducible first | exact HB.out | apply below_alloc | apply pw_below_drewN | apply below_drew1 | refine below_set ?_ GE184.out) | exact HB.out))) : w.heap.size ≤ gb199)); have n6_ := Aside0.mk ((by rw [hg]; exact (below_size (by repeat (first | (with_reducible first | exact HB.out | apply below_alloc | apply pw_below_drewN | apply below_drew1 | refine below_set ?_ GE184.out) | exact HB.out))) : w.heap.size ≤ gb199)); have n7_ := Aside0.mk ((by rw [hg]; exact Nat.ne_of_lt (blk_lt (g := gb184) (o := .cells #[.slice A0_0 l0_0.length c0_0, .int .i64 a0_1, .int .i64 a0_2] 51 (0, 0)) BK184.out) : gb184 ≠ gb199)); have n8_ := Aside0.mk ((by rw [hg]; exact Nat.ne_of_gt (blk_lt (g := gb184) (o := .cells #[.slice A0_0 l0_0.length c0_0, .int .i64 a0_1, .int .i64 a0_2] 51 (0, 0)) BK184.out) : gb199 ≠ gb184)); clear HO188; clear HO195; clear BK184; clear HB; have HO188 := n0_; have HO195 := n1_; have BK184 := n2_; have HB := n3_; have BK199 := n4_; have GW199 := n5_; have GE199 := n6_; have NB184_199 := n7_; have NB199_184 := n8_; clear n0_ n1_ n2_ n3_ n4_ n5_ n6_ n7_ n8_; clear hb hbox hg) | ((with_reducible refine gate_dst (N := 7) rfl ?_); refine box_event ?hg (N := 7) ?hd (cs := #[.slice none 0 0, .int .i64 0, .int .i64 0]) (t := 55) ?hr ?_; (case hd => rfl); (case hg => rfl); (case hr => first | (go_simp; done) | (go_simp; rfl)); intro gb200 hg w21 hbox hb; have n0_ := Aside0.mk (Kd.R_below HO188.out hb); have n1_ := Aside0.mk (Kd.R_below HO195.out hb); have n2_ := Aside0.mk (blk_below (g := gb184) (o := .cells #[.slice A0_0 l0_0.length c0_0, .int .i64 a0_1, .int .i64 a0_2] 51 (0, 0)) BK184.out hb); have n3_ := Aside0.mk (blk_below (g := gb199) (o := .cells #[.int .i64 0, .int .i64 0] 54 (0, 0)) BK199.out hb); have n4_ := Aside0.mk (below_step (by repeat (first | (with_reducible first | exact HB.out | apply below_alloc | apply pw_below_drewN | apply below_drew1 | refine below_set ?_ GE184.out | refine below_set ?_ GE199.out) | exact HB.out)) hb); have n5_ := Aside0.mk (hbox); have n6_ := Aside0.mk ((by rw [hg]; exact (below_size (by repeat (first | (with_reducible first | exact HB.out | apply below_alloc | apply pw_below_drewN | apply below_drew1 | refine below_set ?_ GE184.out | refine below_set ?_ GE199.out) | exact HB.out))) : w.heap.size ≤ gb200)); have n7_ := Aside0.mk ((by rw [hg]; exact (below_size (by repeat (first | (with_reducible first | exact HB.out | apply below_alloc | apply pw_below_drewN | apply below_drew1 | refine below_set ?_ GE184.out | refine below_set ?_ GE199.out) | exact HB.out))) : w.heap.size ≤ gb200)); have n8_ := Aside0.mk ((by rw [hg]; exact Nat.ne_of_lt (blk_lt (g := gb184) (o := .cells #[.slice A0_0 l0_0.length c0_0, .int .i64 a0_1, .int .i64 a0_2] 51 (0, 0)) BK184.out) : gb184 ≠ gb200)); have n9_ := Aside0.mk ((by rw [hg]; exact Nat.ne_of_gt (blk_lt (g := gb184) (o := .cells #[.slice A0_0 l0_0.length c0_0, .int .i64 a0_1, .int .i64 a0_2] 51 (0, 0)) BK184.out) : gb200 ≠ gb184)); have n10_ := Aside0.mk ((by rw [hg]; exact Nat.ne_of_lt (blk_lt (g := gb199) (o := .cells #[.int .i64 0, .int .i64 0] 54 (0, 0)) BK199.out) : gb199 ≠ gb200)); have n11_ := Aside0.mk ((by rw [hg]; exact Nat.ne_of_gt (blk_lt (g := gb199) (o := .cells #[.int .i64 0, .int .i64 0] 54 (0, 0)) BK199.out) : gb200 ≠ gb199)); clear HO188; clear HO195; clear BK184; clear BK199; clear HB; have HO188 := n0_; have HO195 := n1_; have BK184 := n2_; have BK199 := n3_; have HB := n4_; have BK200 := n5_; have GW200 := n6_; have GE200 := n7_; have NB184_200 := n8_; have NB200_184 := n9_; have NB199_200 := n10_; have NB200_199 := n11_; clear n0_ n1_ n2_ n3_ n4_ n5_ n6_ n7_ n8_ n9_ n10_ n11_; clear hb hbox hg; have hnb22 := NB199_184.out; have hnc22 := NB184_199.out; have hnb23 := NB199_200.out; have hnc23 := NB200_199.out; have hcz24_0 : w21.cell? ⟨gb199, 0, none⟩ = some (.int .i64 0) := (blk_cell BK199.out 0).trans rfl; have hcz24_1 : w21.cell? ⟨gb199, 1, none⟩ = some (.int .i64 0) := (blk_cell BK199.out 1).trans rfl; have hfz24_0 := blk_frozen BK199.out 0; have hfz24_1 := blk_frozen BK199.out 1; obtain ⟨Ao25, co25, eo25⟩ := Kd.R_slice HO195.out; subst eo25; have hnb26 := NB200_184.out; have hnc26 := NB184_200.out; have hcz27_0 : w21.cell? ⟨gb200, 0, none⟩ = some (.slice none 0 0) := (blk_cell BK200.out 0).trans rfl; have hcz27_1 : w21.cell? ⟨gb200, 1, none⟩ = some (.int .i64 0) := (blk_cell BK200.out 1).trans rfl; have hcz27_2 : w21.cell? ⟨gb200, 2, none⟩ = some (.int .i64 0) := (blk_cell BK200.out 2).trans rfl; have hfz27_0 := blk_frozen BK200.out 0; have hfz27_1 := blk_frozen BK200.out 1; have hfz27_2 := blk_frozen BK200.out 2; have hcz28_0 : w21.cell? ⟨gb184, 0, none⟩ = some (.slice A0_0 l0_0.length c0_0) := (blk_cell BK184.out 0).trans rfl; have hcz28_1 : w21.cell? ⟨gb184, 1, none⟩ = some (.int .i64 a0_1) := (blk_cell BK184.out 1).trans rfl; have hcz28_2 : w21.cell? ⟨gb184, 2, none⟩ = some (.int .i64 a0_2) := (blk_cell BK184.out 2).trans rfl; have hfz28_0 := blk_frozen BK184.out 0; have hfz28_1 := blk_frozen BK184.out 1; have hfz28_2 := blk_frozen BK184.out 2) | ((with_reducible refine gate_callee (f := 31) rfl ?_); refine goesL_ (some 33) rfl rfl Try.func31 (by kernel_rfl) rfl #[.agg #[.slice A0_0 l0_0.length c0_0, .int .i64 a0_1, .int .i64 a0_2]] rfl (by (try simp only [List.map_toArray, List.map_cons, List.map_nil]); first | done | rfl | (simp only [List.length_drop, List.length_take]; rfl)) ?_; (with_reducible refine (laws_toSender.calls k _ _ l0_0 a0_1 a0_2 t201 t204 t205 _ ?side1 ?side2 A10.out).mono ?_); (case side1 => exact Kd.C_below HR0_0.out (by repeat (first | (with_reducible first | exact HB.out | apply below_alloc | apply pw_below_drewN | apply below_drew1 | refine below_set ?_ GE184.out | refine below_set ?_ GE199.out | refine below_set ?_ GE200.out) | exact HB.out))); (case side2 => exact HC0_0.out); rintro e w29 ⟨v202, rfl, ho0, hb⟩; refine ⟨_, rfl, ?_⟩; have n0_ := Aside0.mk (Kd.R_elder' (by exact (Kd.R_mono (Kd.R_mono (Kd.R_far (p := ⟨gb200, 2, none⟩) (Kd.R_far (p := ⟨gb200, 1, none⟩) (Kd.R_far (p := ⟨gb200, 0, none⟩) (Kd.R_far (p := ⟨gb199, 1, none⟩) (Kd.R_far (p := ⟨gb199, 0, none⟩) (Kd.R_types (Kd.R_types HO188.out BK199.out (by decide)) BK200.out (by decide)) (fun _ hk => hk.1.2) (.int .i64 t191)) (fun _ hk => hk.1.2) (.int .i64 t192)) (fun _ hk => hk.2) (.slice Ao25 t193.length co25)) (fun _ hk => hk.2) (.int .i64 t196)) (fun _ hk => hk.2) (.int .i64 t197)) (fun _ h_ => h_.1)) (fun _ h_ => h_.1))) (Kd.R_base ho0) hb); have n1_ := Aside0.mk (Kd.R_elder' (by exact (Kd.R_mono (Kd.R_mono (Kd.R_far (p := ⟨gb200, 2, none⟩) (Kd.R_far (p := ⟨gb200, 1, none⟩) (Kd.R_far (p := ⟨gb200, 0, none⟩) (Kd.R_far (p := ⟨gb199, 1, none⟩) (Kd.R_far (p := ⟨gb199, 0, none⟩) (Kd.R_types (Kd.R_types HO195.out BK199.out (by decide)) BK200.out (by decide)) (fun _ hk => hk.1.2) (.int .i64 t191)) (fun _ hk => hk.1.2) (.int .i64 t192)) (fun _ hk => hk.2) (.slice Ao25 t193.length co25)) (fun _ hk => hk.2) (.int .i64 t196)) (fun _ hk => hk.2) (.int .i64 t197)) (fun _ h_ => h_.1)) (fun _ h_ => h_.1))) (Kd.R_base ho0) hb); have n2_ := Aside0.mk (Kd.R_lower (Kd.R_new' (Kd.R_new' ho0 (Kd.R_lt (by exact (Kd.R_mono (Kd.R_mono (Kd.R_far (p := ⟨gb200, 2, none⟩) (Kd.R_far (p := ⟨gb200, 1, none⟩) (Kd.R_far (p := ⟨gb200, 0, none⟩) (Kd.R_far (p := ⟨gb199, 1, none⟩) (Kd.R_far (p := ⟨gb199, 0, none⟩) (Kd.R_types (Kd.R_types HO188.out BK199.out (by decide)) BK200.out (by decide)) (fun _ hk => hk.1.2) (.int .i64 t191)) (fun _ hk => hk.1.2) (.int .i64 t192)) (fun _ hk => hk.2) (.slice Ao25 t193.length co25)) (fun _ hk => hk.2) (.int .i64 t196)) (fun _ hk => hk.2) (.int .i64 t197)) (fun _ h_ => h_.1)) (fun _ h_ => h_.1))))) (Kd.R_lt (by exact (Kd.R_mono (Kd.R_mono (Kd.R_far (p := ⟨gb200, 2, none⟩) (Kd.R_far (p := ⟨gb200, 1, none⟩) (Kd.R_far (p := ⟨gb200, 0, none⟩) (Kd.R_far (p := ⟨gb199, 1, none⟩) (Kd.R_far (p := ⟨gb199, 0, none⟩) (Kd.R_types (Kd.R_types HO195.out BK199.out (by decide)) BK200.out (by decide)) (fun _ hk => hk.1.2) (.int .i64 t191)) (fun _ hk => hk.1.2) (.int .i64 t192)) (fun _ hk => hk.2) (.slice Ao25 t193.length co25)) (fun _ hk => hk.2) (.int .i64 t196)) (fun _ hk => hk.2) (.int .i64 t197)) (fun _ h_ => h_.1)) (fun _ h_ => h_.1))))) (below_size (by repeat (first | (with_reducible first | exact HB.out | apply below_alloc | apply pw_below_drewN | apply below_drew1 | refine below_set ?_ GE184.out | refine below_set ?_ GE199.out | refine below_set ?_ GE200.out) | exact HB.out)))); have n3_ := Aside0.mk (blk_below (g := gb184) (o := .cells #[.slice A0_0 l0_0.length c0_0, .int .i64 a0_1, .int .i64 a0_2] 51 (0, 0)) (by refine blk_far ?_ NB184_200.out _; refine blk_far ?_ NB184_200.out _; refine blk_far ?_ NB184_200.out _; refine blk_far ?_ NB184_199.out _; refine blk_far ?_ NB184_199.out _; exact BK184.out) hb); have n4_ := Aside0.mk (blk_below (g := gb199) (o := .cells #[.int .i64 t191, .int .i64 t192] 54 (0, 0)) (by refine blk_far ?_ NB199_200.out _; refine blk_far ?_ NB199_200.out _; refine blk_far ?_ NB199_200.out _; refine blk_put (cs := #[.int .i64 t191, .int .i64 0]) ?_ 1 _ rfl; refine blk_put (cs := #[.int .i64 0, .int .i64 0]) ?_ 0 _ rfl; exact BK199.out) hb); have n5_ := Aside0.mk (blk_below (g := gb200) (o := .cells #[.slice Ao25 t193.length co25, .int .i64 t196, .int .i64 t197] 55 (0, 0)) (by refine blk_put (cs := #[.slice Ao25 t193.length co25, .int .i64 t196, .int .i64 0]) ?_ 2 _ rfl; refine blk_put (cs := #[.slice Ao25 t193.length co25, .int .i64 0, .int .i64 0]) ?_ 1 _ rfl; refine blk_put (cs := #[.slice none 0 0, .int .i64 0, .int .i64 0]) ?_ 0 _ rfl; refine blk_far ?_ NB200_199.out _; refine blk_far ?_ NB200_199.out _; exact BK200.out) hb); have n6_ := Aside0.mk (below_step (by repeat (first | (with_reducible first | exact HB.out | apply below_alloc | apply pw_below_drewN | apply below_drew1 | refine below_set ?_ GE184.out | refine below_set ?_ GE199.out | refine below_set ?_ GE200.out) | exact HB.out)) hb); clear HO188; clear HO195; clear BK184; clear BK199; clear BK200; clear HB; have HO188 := n0_; have HO195 := n1_; have HO203 := n2_; have BK184 := n3_; have BK199 := n4_; have BK200 := n5_; have HB := n6_; clear n0_ n1_ n2_ n3_ n4_ n5_ n6_; (try clear hb); (try clear hb2); (try clear hk); (try clear hi); (try clear ho0)) | ((with_reducible refine gate_dst (N := 9) rfl ?_); refine box_event ?hg (N := 9) ?hd (cs := #[.slice none 0 0, .int .i64 0, .int .i64 0]) (t := 55) ?hr ?_; (case hd => rfl); (case hg => rfl); (case hr => first | (go_simp; done) | (go_simp; rfl)); intro gb206 hg w30 hbox hb; have n0_ := Aside0.mk (Kd.R_below HO188.out hb); have n1_ := Aside0.mk (Kd.R_below HO195.out hb); have n2_ := Aside0.mk (Kd.R_below HO203.out hb); have n3_ := Aside0.mk (blk_below (g := gb184) (o := .cells #[.slice A0_0 l0_0.length c0_0, .int .i64 a0_1, .int .i64 a0_2] 51 (0, 0)) BK184.out hb); have n4_ := Aside0.mk (blk_below (g := gb199) (o := .cells #[.int .i64 t191, .int .i64 t192] 54 (0, 0)) BK199.out hb); have n5_ := Aside0.mk (blk_below (g := gb200) (o := .cells #[.slice Ao25 t193.length co25, .int .i64 t196, .int .i64 t197] 55 (0, 0)) BK200.out hb); have n6_ := Aside0.mk (below_step (by repeat (first | (with_reducible first | exact HB.out | apply below_alloc | apply pw_below_drewN | apply below_drew1 | refine below_set ?_ GE184.out | refine below_set ?_ GE199.out | refine below_set ?_ GE200.out) | exact HB.out)) hb); have n7_ := Aside0.mk (hbox); have n8_ := Aside0.mk ((by rw [hg]; exact (below_size (by repeat (first | (with_reducible first | exact HB.out | apply below_alloc | apply pw_below_drewN | apply below_drew1 | refine below_set ?_ GE184.out | refine below_set ?_ GE199.out | refine below_set ?_ GE200.out) | exact HB.out))) : w.heap.size ≤ gb206)); have n9_ := Aside0.mk ((by rw [hg]; exact (below_size (by repeat (first | (with_reducible first | exact HB.out | apply below_alloc | apply pw_below_drewN | apply below_drew1 | refine below_set ?_ GE184.out | refine below_set ?_ GE199.out | refine below_set ?_ GE200.out) | exact HB.out))) : w.heap.size ≤ gb206)); have n10_ := Aside0.mk ((by rw [hg]; exact Nat.ne_of_lt (blk_lt (g := gb184) (o := .cells #[.slice A0_0 l0_0.length c0_0, .int .i64 a0_1, .int .i64 a0_2] 51 (0, 0)) BK184.out) : gb184 ≠ gb206)); have n11_ := Aside0.mk ((by rw [hg]; exact Nat.ne_of_gt (blk_lt (g := gb184) (o := .cells #[.slice A0_0 l0_0.length c0_0, .int .i64 a0_1, .int .i64 a0_2] 51 (0, 0)) BK184.out) : gb206 ≠ gb184)); have n12_ := Aside0.mk ((by rw [hg]; exact Nat.ne_of_lt (blk_lt (g := gb199) (o := .cells #[.int .i64 t191, .int .i64 t192] 54 (0, 0)) BK199.out) : gb199 ≠ gb206)); have n13_ := Aside0.mk ((by rw [hg]; exact Nat.ne_of_gt (blk_lt (g := gb199) (o := .cells #[.int .i64 t191, .int .i64 t192] 54 (0, 0)) BK199.out) : gb206 ≠ gb199)); have n14_ := Aside0.mk ((by rw [hg]; exact Nat.ne_of_lt (blk_lt (g := gb200) (o := .cells #[.slice Ao25 t193.length co25, .int .i64 t196, .int .i64 t197] 55 (0, 0)) BK200.out) : gb200 ≠ gb206)); have n15_ := Aside0.mk ((by rw [hg]; exact Nat.ne_of_gt (blk_lt (g := gb200) (o := .cells #[.slice Ao25 t193.length co25, .int .i64 t196, .int .i64 t197] 55 (0, 0)) BK200.out) : gb206 ≠ gb200)); clear HO188; clear HO195; clear HO203; clear BK184; clear BK199; clear BK200; clear HB; have HO188 := n0_; have HO195 := n1_; have HO203 := n2_; have BK184 := n3_; have BK199 := n4_; have BK200 := n5_; have HB := n6_; have BK206 := n7_; have GW206 := n8_; have GE206 := n9_; have NB184_206 := n10_; have NB206_184 := n11_; have NB199_206 := n12_; have NB206_199 := n13_; have NB200_206 := n14_; have NB206_200 := n15_; clear n0_ n1_ n2_ n3_ n4_ n5_ n6_ n7_ n8_ n9_ n10_ n11_ n12_ n13_ n14_ n15_; clear hb hbox hg; obtain ⟨Ao31, co31, eo31⟩ := Kd.R_slice HO203.out; subst eo31; have hnb32 := NB206_184.out; have hnc32 := NB184_206.out; have hnb33 := NB206_199.out; have hnc33 := NB199_206.out; have hnb34 := NB206_200.out; have hnc34 := NB200_206.out; have hcz35_0 : w30.cell? ⟨gb206, 0, none⟩ = some (.slice none 0 0) := (blk_cell BK206.out 0).trans rfl; have hcz35_1 : w30.cell? ⟨gb206, 1, none⟩ = some (.int .i64 0) := (blk_cell BK206.out 1).trans rfl; have hcz35_2 : w30.cell? ⟨gb206, 2, none⟩ = some (.int .i64 0) := (blk_cell BK206.out 2).trans rfl; have hfz35_0 := blk_frozen BK206.out 0; have hfz35_1 := blk_frozen BK206.out 1; have hfz35_2 := blk_frozen BK206.out 2) | ((with_reducible refine gate_callee (f := 32) rfl ?_); refine goesL_ (some 37) rfl rfl Try.func32 (by kernel_rfl) rfl #[.agg #[.slice Ao31 t201.length co31, .int .i64 t204, .int .i64 t205], .int .i64 a1] rfl (by (try simp only [List.map_toArray, List.map_cons, List.map_nil]); first | done | rfl | (simp only [List.length_drop, List.length_take]; rfl)) ?_; (with_reducible refine (impl_SendNext.calls k _ _ t201 t204 t205 a1 t207 t208 t209 t212 t213 t214 _ ?side1 ?side2 A11.out).mono ?_); (case side1 => refine (Kd.R_reads' (e := 3) (base := w.heap.size) (ok := fun k_ => ((True ∧ some k_ ≠ (.slice Ao18 t186.length co18 : Value).ownBlock) ∧ some k_ ≠ (.slice Ao25 t193.length co25 : Value).ownBlock)) (n := t201.length) (c := co31) ?_).2.2; exact (by exact (Kd.R_mono (Kd.R_far (p := ⟨gb206, 2, none⟩) (Kd.R_far (p := ⟨gb206, 1, none⟩) (Kd.R_far (p := ⟨gb206, 0, none⟩) (Kd.R_types HO203.out BK206.out (by decide)) (fun _ hk => hk.2) (.slice Ao31 t201.length co31)) (fun _ hk => hk.2) (.int .i64 t204)) (fun _ hk => hk.2) (.int .i64 t205)) (fun _ h_ => h_.1)))); (case side2 => exact (Kd.R_reads' HO203.out).2.1); rintro e w36 ⟨v210, rfl, ho0, hb⟩; refine ⟨_, rfl, ?_⟩; have n0_ := Aside0.mk (Kd.R_elder' (by exact (Kd.R_mono (Kd.R_far (p := ⟨gb206, 2, none⟩) (Kd.R_far (p := ⟨gb206, 1, none⟩) (Kd.R_far (p := ⟨gb206, 0, none⟩) (Kd.R_types HO188.out BK206.out (by decide)) (fun _ hk => hk.2) (.slice Ao31 t201.length co31)) (fun _ hk => hk.2) (.int .i64 t204)) (fun _ hk => hk.2) (.int .i64 t205)) (fun _ h_ => h_.1))) (Kd.R_base ho0) hb); have n1_ := Aside0.mk (Kd.R_elder' (by exact (Kd.R_mono (Kd.R_far (p := ⟨gb206, 2, none⟩) (Kd.R_far (p := ⟨gb206, 1, none⟩) (Kd.R_far (p := ⟨gb206, 0, none⟩) (Kd.R_types HO195.out BK206.out (by decide)) (fun _ hk => hk.2) (.slice Ao31 t201.length co31)) (fun _ hk => hk.2) (.int .i64 t204)) (fun _ hk => hk.2) (.int .i64 t205)) (fun _ h_ => h_.1))) (Kd.R_base ho0) hb); have n2_ := Aside0.mk (Kd.R_elder' (by exact (Kd.R_mono (Kd.R_far (p := ⟨gb206, 2, none⟩) (Kd.R_far (p := ⟨gb206, 1, none⟩) (Kd.R_far (p := ⟨gb206, 0, none⟩) (Kd.R_types HO203.out BK206.out (by decide)) (fun _ hk => hk.2) (.slice Ao31 t201.length co31)) (fun _ hk => hk.2) (.int .i64 t204)) (fun _ hk => hk.2) (.int .i64 t205)) (fun _ h_ => h_.1))) (Kd.R_base ho0) hb); have n3_ := Aside0.mk (Kd.R_lower (Kd.R_new' (Kd.R_new' (Kd.R_new' ho0 (Kd.R_lt (by exact (Kd.R_mono (Kd.R_far (p := ⟨gb206, 2, none⟩) (Kd.R_far (p := ⟨gb206, 1, none⟩) (Kd.R_far (p := ⟨gb206, 0, none⟩) (Kd.R_types HO188.out BK206.out (by decide)) (fun _ hk => hk.2) (.slice Ao31 t201.length co31)) (fun _ hk => hk.2) (.int .i64 t204)) (fun _ hk => hk.2) (.int .i64 t205)) (fun _ h_ => h_.1))))) (Kd.R_lt (by exact (Kd.R_mono (Kd.R_far (p := ⟨gb206, 2, none⟩) (Kd.R_far (p := ⟨gb206, 1, none⟩) (Kd.R_far (p := ⟨gb206, 0, none⟩) (Kd.R_types HO195.out BK206.out (by decide)) (fun _ hk => hk.2) (.slice Ao31 t201.length co31)) (fun _ hk => hk.2) (.int .i64 t204)) (fun _ hk => hk.2) (.int .i64 t205)) (fun _ h_ => h_.1))))) (Kd.R_lt (by exact (Kd.R_mono (Kd.R_far (p := ⟨gb206, 2, none⟩) (Kd.R_far (p := ⟨gb206, 1, none⟩) (Kd.R_far (p := ⟨gb206, 0, none⟩) (Kd.R_types HO203.out BK206.out (by decide)) (fun _ hk => hk.2) (.slice Ao31 t201.length co31)) (fun _ hk => hk.2) (.int .i64 t204)) (fun _ hk => hk.2) (.int .i64 t205)) (fun _ h_ => h_.1))))) (below_size (by repeat (first | (with_reducible first | exact HB.out | apply below_alloc | apply pw_below_drewN | apply below_drew1 | refine below_set ?_ GE184.out | refine below_set ?_ GE199.out | refine below_set ?_ GE200.out | refine below_set ?_ GE206.out) | exact HB.out)))); have n4_ := Aside0.mk (blk_below (g := gb184) (o := .cells #[.slice A0_0 l0_0.length c0_0, .int .i64 a0_1, .int .i64 a0_2] 51 (0, 0)) (by refine blk_far ?_ NB184_206.out _; refine blk_far ?_ NB184_206.out _; refine blk_far ?_ NB184_206.out _; exact BK184.out) hb); have n5_ := Aside0.mk (blk_below (g := gb199) (o := .cells #[.int .i64 t191, .int .i64 t192] 54 (0, 0)) (by refine blk_far ?_ NB199_206.out _; refine blk_far ?_ NB199_206.out _; refine blk_far ?_ NB199_206.out _; exact BK199.out) hb); have n6_ := Aside0.mk (blk_below (g := gb200) (o := .cells #[.slice Ao25 t193.length co25, .int .i64 t196, .int .i64 t197] 55 (0, 0)) (by refine blk_far ?_ NB200_206.out _; refine blk_far ?_ NB200_206.out _; refine blk_far ?_ NB200_206.out _; exact BK200.out) hb); have n7_ := Aside0.mk (blk_below (g := gb206) (o := .cells #[.slice Ao31 t201.length co31, .int .i64 t204, .int .i64 t205] 55 (0, 0)) (by refine blk_put (cs := #[.slice Ao31 t201.length co31, .int .i64 t204, .int .i64 0]) ?_ 2 _ rfl; refine blk_put (cs := #[.slice Ao31 t201.length co31, .int .i64 0, .int .i64 0]) ?_ 1 _ rfl; refine blk_put (cs := #[.slice none 0 0, .int .i64 0, .int .i64 0]) ?_ 0 _ rfl; exact BK206.out) hb); have n8_ := Aside0.mk (below_step (by repeat (first | (with_reducible first | exact HB.out | apply below_alloc | apply pw_below_drewN | apply below_drew1 | refine below_set ?_ GE184.out | refine below_set ?_ GE199.out | refine below_set ?_ GE200.out | refine below_set ?_ GE206.out) | exact HB.out)) hb); clear HO188; clear HO195; clear HO203; clear BK184; clear BK199; clear BK200; clear BK206; clear HB; have HO188 := n0_; have HO195 := n1_; have HO203 := n2_; have HO211 := n3_; have BK184 := n4_; have BK199 := n5_; have BK200 := n6_; have BK206 := n7_; have HB := n8_; clear n0_ n1_ n2_ n3_ n4_ n5_ n6_ n7_ n8_; (try clear hb); (try clear hb2); (try clear hk); (try clear hi); (try clear ho0)) | ((with_reducible refine gate_dst (N := 10) rfl ?_); refine box_event ?hg (N := 10) ?hd (cs := #[.int .i64 0, .int .i64 0]) (t := 54) ?hr ?_; (case hd => rfl); (case hg => rfl); (case hr => first | (go_simp; done) | (go_simp; rfl)); intro gb215 hg w37 hbox hb; have n0_ := Aside0.mk (Kd.R_below HO188.out hb); have n1_ := Aside0.mk (Kd.R_below HO195.out hb); have n2_ := Aside0.mk (Kd.R_below HO203.out hb); have n3_ := Aside0.mk (Kd.R_below HO211.out hb); have n4_ := Aside0.mk (blk_below (g := gb184) (o := .cells #[.slice A0_0 l0_0.length c0_0, .int .i64 a0_1, .int .i64 a0_2] 51 (0, 0)) BK184.out hb); have n5_ := Aside0.mk (blk_below (g := gb199) (o := .cells #[.int .i64 t191, .int .i64 t192] 54 (0, 0)) BK199.out hb); have n6_ := Aside0.mk (blk_below (g := gb200) (o := .cells #[.slice Ao25 t193.length co25, .int .i64 t196, .int .i64 t197] 55 (0, 0)) BK200.out hb); have n7_ := Aside0.mk (blk_below (g := gb206) (o := .cells #[.slice Ao31 t201.length co31, .int .i64 t204, .int .i64 t205] 55 (0, 0)) BK206.out hb); have n8_ := Aside0.mk (below_step (by repeat (first | (with_reducible first | exact HB.out | apply below_alloc | apply pw_below_drewN | apply below_drew1 | refine below_set ?_ GE184.out | refine below_set ?_ GE199.out | refine below_set ?_ GE200.out | refine below_set ?_ GE206.out) | exact HB.out)) hb); have n9_ := Aside0.mk (hbox); have n10_ := Aside0.mk ((by rw [hg]; exact (below_size (by repeat (first | (with_reducible first | exact HB.out | apply below_alloc | apply pw_below_drewN | apply below_drew1 | refine below_set ?_ GE184.out | refine below_set ?_ GE199.out | refine below_set ?_ GE200.out | refine below_set ?_ GE206.out) | exact HB.out))) : w.heap.size ≤ gb215)); have n11_ := Aside0.mk ((by rw [hg]; exact (below_size (by repeat (first | (with_reducible first | exact HB.out | apply below_alloc | apply pw_below_drewN | apply below_drew1 | refine below_set ?_ GE184.out | refine below_set ?_ GE199.out | refine below_set ?_ GE200.out | refine below_set ?_ GE206.out) | exact HB.out))) : w.heap.size ≤ gb215)); have n12_ := Aside0.mk ((by rw [hg]; exact Nat.ne_of_lt (blk_lt (g := gb184) (o := .cells #[.slice A0_0 l0_0.length c0_0, .int .i64 a0_1, .int .i64 a0_2] 51 (0, 0)) BK184.out) : gb184 ≠ gb215)); have n13_ := Aside0.mk ((by rw [hg]; exact Nat.ne_of_gt (blk_lt (g := gb184) (o := .cells #[.slice A0_0 l0_0.length c0_0, .int .i64 a0_1, .int .i64 a0_2] 51 (0, 0)) BK184.out) : gb215 ≠ gb184)); have n14_ := Aside0.mk ((by rw [hg]; exact Nat.ne_of_lt (blk_lt (g := gb199) (o := .cells #[.int .i64 t191, .int .i64 t192] 54 (0, 0)) BK199.out) : gb199 ≠ gb215)); have n15_ := Aside0.mk ((by rw [hg]; exact Nat.ne_of_gt (blk_lt (g := gb199) (o := .cells #[.int .i64 t191, .int .i64 t192] 54 (0, 0)) BK199.out) : gb215 ≠ gb199)); have n16_ := Aside0.mk ((by rw [hg]; exact Nat.ne_of_lt (blk_lt (g := gb200) (o := .cells #[.slice Ao25 t193.length co25, .int .i64 t196, .int .i64 t197] 55 (0, 0)) BK200.out) : gb200 ≠ gb215)); have n17_ := Aside0.mk ((by rw [hg]; exact Nat.ne_of_gt (blk_lt (g := gb200) (o := .cells #[.slice Ao25 t193.length co25, .int .i64 t196, .int .i64 t197] 55 (0, 0)) BK200.out) : gb215 ≠ gb200)); have n18_ := Aside0.mk ((by rw [hg]; exact Nat.ne_of_lt (blk_lt (g := gb206) (o := .cells #[.slice Ao31 t201.length co31, .int .i64 t204, .int .i64 t205] 55 (0, 0)) BK206.out) : gb206 ≠ gb215)); have n19_ := Aside0.mk ((by rw [hg]; exact Nat.ne_of_gt (blk_lt (g := gb206) (o := .cells #[.slice Ao31 t201.length co31, .int .i64 t204, .int .i64 t205] 55 (0, 0)) BK206.out) : gb215 ≠ gb206)); clear HO188; clear HO195; clear HO203; clear HO211; clear BK184; clear BK199; clear BK200; clear BK206; clear HB; have HO188 := n0_; have HO195 := n1_; have HO203 := n2_; have HO211 := n3_; have BK184 := n4_; have BK199 := n5_; have BK200 := n6_; have BK206 := n7_; have HB := n8_; have BK215 := n9_; have GW215 := n10_; have GE215 := n11_; have NB184_215 := n12_; have NB215_184 := n13_; have NB199_215 := n14_; have NB215_199 := n15_; have NB200_215 := n16_; have NB215_200 := n17_; have NB206_215 := n18_; have NB215_206 := n19_; clear n0_ n1_ n2_ n3_ n4_ n5_ n6_ n7_ n8_ n9_ n10_ n11_ n12_ n13_ n14_ n15_ n16_ n17_ n18_ n19_; clear hb hbox hg) | ((with_reducible refine gate_dst (N := 11) rfl ?_); refine box_event ?hg (N := 11) ?hd (cs := #[.slice none 0 0, .int .i64 0, .int .i64 0]) (t := 55) ?hr ?_; (case hd => rfl); (case hg => rfl); (case hr => first | (go_simp; done) | (go_simp; rfl)); intro gb216 hg w38 hbox hb; have n0_ := Aside0.mk (Kd.R_below HO188.out hb); have n1_ := Aside0.mk (Kd.R_below HO195.out hb); have n2_ := Aside0.mk (Kd.R_below HO203.out hb); have n3_ := Aside0.mk (Kd.R_below HO211.out hb); have n4_ := Aside0.mk (blk_below (g := gb184) (o := .cells #[.slice A0_0 l0_0.length c0_0, .int .i64 a0_1, .int .i64 a0_2] 51 (0, 0)) BK184.out hb); have n5_ := Aside0.mk (blk_below (g := gb199) (o := .cells #[.int .i64 t191, .int .i64 t192] 54 (0, 0)) BK199.out hb); have n6_ := Aside0.mk (blk_below (g := gb200) (o := .cells #[.slice Ao25 t193.length co25, .int .i64 t196, .int .i64 t197] 55 (0, 0)) BK200.out hb); have n7_ := Aside0.mk (blk_below (g := gb206) (o := .cells #[.slice Ao31 t201.length co31, .int .i64 t204, .int .i64 t205] 55 (0, 0)) BK206.out hb); have n8_ := Aside0.mk (blk_below (g := gb215) (o := .cells #[.int .i64 0, .int .i64 0] 54 (0, 0)) BK215.out hb); have n9_ := Aside0.mk (below_step (by repeat (first | (with_reducible first | exact HB.out | apply below_alloc | apply pw_below_drewN | apply below_drew1 | refine below_set ?_ GE184.out | refine below_set ?_ GE199.out | refine below_set ?_ GE200.out | refine below_set ?_ GE206.out | refine below_set ?_ GE215.out) | exact HB.out)) hb); have n10_ := Aside0.mk (hbox); have n11_ := Aside0.mk ((by rw [hg]; exact (below_size (by repeat (first | (with_reducible first | exact HB.out | apply below_alloc | apply pw_below_drewN | apply below_drew1 | refine below_set ?_ GE184.out | refine below_set ?_ GE199.out | refine below_set ?_ GE200.out | refine below_set ?_ GE206.out | refine below_set ?_ GE215.out) | exact HB.out))) : w.heap.size ≤ gb216)); have n12_ := Aside0.mk ((by rw [hg]; exact (below_size (by repeat (first | (with_reducible first | exact HB.out | apply below_alloc | apply pw_below_drewN | apply below_drew1 | refine below_set ?_ GE184.out | refine below_set ?_ GE199.out | refine below_set ?_ GE200.out | refine below_set ?_ GE206.out | refine below_set ?_ GE215.out) | exact HB.out))) : w.heap.size ≤ gb216)); have n13_ := Aside0.mk ((by rw [hg]; exact Nat.ne_of_lt (blk_lt (g := gb184) (o := .cells #[.slice A0_0 l0_0.length c0_0, .int .i64 a0_1, .int .i64 a0_2] 51 (0, 0)) BK184.out) : gb184 ≠ gb216)); have n14_ := Aside0.mk ((by rw [hg]; exact Nat.ne_of_gt (blk_lt (g := gb184) (o := .cells #[.slice A0_0 l0_0.length c0_0, .int .i64 a0_1, .int .i64 a0_2] 51 (0, 0)) BK184.out) : gb216 ≠ gb184)); have n15_ := Aside0.mk ((by rw [hg]; exact Nat.ne_of_lt (blk_lt (g := gb199) (o := .cells #[.int .i64 t191, .int .i64 t192] 54 (0, 0)) BK199.out) : gb199 ≠ gb216)); have n16_ := Aside0.mk ((by rw [hg]; exact Nat.ne_of_gt (blk_lt (g := gb199) (o := .cells #[.int .i64 t191, .int .i64 t192] 54 (0, 0)) BK199.out) : gb216 ≠ gb199)); have n17_ := Aside0.mk ((by rw [hg]; exact Nat.ne_of_lt (blk_lt (g := gb200) (o := .cells #[.slice Ao25 t193.length co25, .int .i64 t196, .int .i64 t197] 55 (0, 0)) BK200.out) : gb200 ≠ gb216)); have n18_ := Aside0.mk ((by rw [hg]; exact Nat.ne_of_gt (blk_lt (g := gb200) (o := .cells #[.slice Ao25 t193.length co25, .int .i64 t196, .int .i64 t197] 55 (0, 0)) BK200.out) : gb216 ≠ gb200)); have n19_ := Aside0.mk ((by rw [hg]; exact Nat.ne_of_lt (blk_lt (g := gb206) (o := .cells #[.slice Ao31 t201.length co31, .int .i64 t204, .int .i64 t205] 55 (0, 0)) BK206.out) : gb206 ≠ gb216)); have n20_ := Aside0.mk ((by rw [hg]; exact Nat.ne_of_gt (blk_lt (g := gb206) (o := .cells #[.slice Ao31 t201.length co31, .int .i64 t204, .int .i64 t205] 55 (0, 0)) BK206.out) : gb216 ≠ gb206)); have n21_ := Aside0.mk ((by rw [hg]; exact Nat.ne_of_lt (blk_lt (g := gb215) (o := .cells #[.int .i64 0, .int .i64 0] 54 (0, 0)) BK215.out) : gb215 ≠ gb216)); have n22_ := Aside0.mk ((by rw [hg]; exact Nat.ne_of_gt (blk_lt (g := gb215) (o := .cells #[.int .i64 0, .int .i64 0] 54 (0, 0)) BK215.out) : gb216 ≠ gb215)); clear HO188; clear HO195; clear HO203; clear HO211; clear BK184; clear BK199; clear BK200; clear BK206; clear BK215; clear HB; have HO188 := n0_; have HO195 := n1_; have HO203 := n2_; have HO211 := n3_; have BK184 := n4_; have BK199 := n5_; have BK200 := n6_; have BK206 := n7_; have BK215 := n8_; have HB := n9_; have BK216 := n10_; have GW216 := n11_; have GE216 := n12_; have NB184_216 := n13_; have NB216_184 := n14_; have NB199_216 := n15_; have NB216_199 := n16_; have NB200_216 := n17_; have NB216_200 := n18_; have NB206_216 := n19_; have NB216_206 := n20_; have NB215_216 := n21_; have NB216_215 := n22_; clear n0_ n1_ n2_ n3_ n4_ n5_ n6_ n7_ n8_ n9_ n10_ n11_ n12_ n13_ n14_ n15_ n16_ n17_ n18_ n19_ n20_ n21_ n22_; clear hb hbox hg; have hnb39 := NB215_184.out; have hnc39 := NB184_215.out; have hnb40 := NB215_199.out; have hnc40 := NB199_215.out; have hnb41 := NB215_200.out; have hnc41 := NB200_215.out; have hnb42 := NB215_206.out; have hnc42 := NB206_215.out; have hnb43 := NB215_216.out; have hnc43 := NB216_215.out; have hcz44_0 : w38.cell? ⟨gb215, 0, none⟩ = some (.int .i64 0) := (blk_cell BK215.out 0).trans rfl; have hcz44_1 : w38.cell? ⟨gb215, 1, none⟩ = some (.int .i64 0) := (blk_cell BK215.out 1).trans rfl; have hfz44_0 := blk_frozen BK215.out 0; have hfz44_1 := blk_frozen BK215.out 1; obtain ⟨Ao45, co45, eo45⟩ := Kd.R_slice HO211.out; subst eo45; have hnb46 := NB216_184.out; have hnc46 := NB184_216.out; have hnb47 := NB216_199.out; have hnc47 := NB199_216.out; have hnb48 := NB216_200.out; have hnc48 := NB200_216.out; have hnb49 := NB216_206.out; have hnc49 := NB206_216.out; have hcz50_0 : w38.cell? ⟨gb216, 0, none⟩ = some (.slice none 0 0) := (blk_cell BK216.out 0).trans rfl; have hcz50_1 : w38.cell? ⟨gb216, 1, none⟩ = some (.int .i64 0) := (blk_cell BK216.out 1).trans rfl; have hcz50_2 : w38.cell? ⟨gb216, 2, none⟩ = some (.int .i64 0) := (blk_cell BK216.out 2).trans rfl; have hfz50_0 := blk_frozen BK216.out 0; have hfz50_1 := blk_frozen BK216.out 1; have hfz50_2 := blk_frozen BK216.out 2))
    (try simp only [Act.put, List.setIfInBounds_toArray, List.set_cons_zero, List.set_cons_succ])
    go_cut [55] (fun v55 wc => ∃ (kq : Nat) (x55_11 : Bool), v55 = .bool x55_11 ∧ Aside0 (laws_FnExactSendNext.j0 kq a1 t198 t214 x55_11 l0_0 a0_1 a0_2 t191 t192 t193 t196 t197 t201 t204 t205 t207 t208 t209 t212 t213 = some r) ∧ Aside0 (kq ≤ k) ∧ Aside0 (Kd.R (Kd.int .i64) 3 wc w.heap.size (fun k_ => some k_ ≠ ((.slice Ao31 t201.length co31) : Value).ownBlock ∧ some k_ ≠ ((.slice Ao45 t209.length co45) : Value).ownBlock) (.slice Ao25 t193.length co25) t193) ∧ Aside0 (Kd.R (Kd.int .i64) 3 wc w.heap.size (fun k_ => some k_ ≠ ((.slice Ao25 t193.length co25) : Value).ownBlock ∧ some k_ ≠ ((.slice Ao45 t209.length co45) : Value).ownBlock) (.slice Ao31 t201.length co31) t201) ∧ Aside0 (Kd.R (Kd.int .i64) 3 wc w.heap.size (fun k_ => some k_ ≠ ((.slice Ao25 t193.length co25) : Value).ownBlock ∧ some k_ ≠ ((.slice Ao31 t201.length co31) : Value).ownBlock) (.slice Ao45 t209.length co45) t209) ∧ Aside0 (wc.heap[gb184]? = some (.cells #[(.slice A0_0 l0_0.length c0_0), .int .i64 a0_1, .int .i64 a0_2] 51 (0, 0))) ∧ Aside0 (wc.heap[gb199]? = some (.cells #[.int .i64 t191, .int .i64 t192] 54 (0, 0))) ∧ Aside0 (wc.heap[gb200]? = some (.cells #[(.slice Ao25 t193.length co25), .int .i64 t196, .int .i64 t197] 55 (0, 0))) ∧ Aside0 (wc.heap[gb206]? = some (.cells #[(.slice Ao31 t201.length co31), .int .i64 t204, .int .i64 t205] 55 (0, 0))) ∧ Aside0 (wc.heap[gb215]? = some (.cells #[.int .i64 t207, .int .i64 t208] 54 (0, 0))) ∧ Aside0 (wc.heap[gb216]? = some (.cells #[(.slice Ao45 t209.length co45), .int .i64 t212, .int .i64 t213] 55 (0, 0))) ∧ Aside0 (Below w.heap.size w wc))
    case first =>
      have H := HC12.out
      clear HC12
      replace H := Option.bind_eq_some_iff.mp H
      obtain ⟨t217, A510, H⟩ := H
      replace H : (if t217 = true then ((laws_eqSender.f k t209 t212 t213 t193 t196 t197).bind fun t218 => (if t218 = true then (laws_FnExactSendNext.j0 k a1 t198 t214 (t214 != t198) l0_0 a0_1 a0_2 t191 t192 t193 t196 t197 t201 t204 t205 t207 t208 t209 t212 t213) else (laws_FnExactSendNext.j0 k a1 t198 t214 true l0_0 a0_1 a0_2 t191 t192 t193 t196 t197 t201 t204 t205 t207 t208 t209 t212 t213))) else (laws_FnExactSendNext.j0 k a1 t198 t214 true l0_0 a0_1 a0_2 t191 t192 t193 t196 t197 t201 t204 t205 t207 t208 t209 t212 t213)) = some r := H
      have A51 := Aside0.mk A510
      clear A510
      by_cases c52 : t217 = true
      · subst c52
        have H1 : ((laws_eqSender.f k t209 t212 t213 t193 t196 t197).bind fun t218 => (if t218 = true then (laws_FnExactSendNext.j0 k a1 t198 t214 (t214 != t198) l0_0 a0_1 a0_2 t191 t192 t193 t196 t197 t201 t204 t205 t207 t208 t209 t212 t213) else (laws_FnExactSendNext.j0 k a1 t198 t214 true l0_0 a0_1 a0_2 t191 t192 t193 t196 t197 t201 t204 t205 t207 t208 t209 t212 t213))) = some r := by rw [if_pos rfl] at H; exact H
        clear H
        have H := H1
        clear H1
        replace H := Option.bind_eq_some_iff.mp H
        obtain ⟨t218, A530, H⟩ := H
        replace H : (if t218 = true then (laws_FnExactSendNext.j0 k a1 t198 t214 (t214 != t198) l0_0 a0_1 a0_2 t191 t192 t193 t196 t197 t201 t204 t205 t207 t208 t209 t212 t213) else (laws_FnExactSendNext.j0 k a1 t198 t214 true l0_0 a0_1 a0_2 t191 t192 t193 t196 t197 t201 t204 t205 t207 t208 t209 t212 t213)) = some r := H
        have A53 := Aside0.mk A530
        clear A530
        by_cases c54 : t218 = true
        · subst c54
          have H1 : (laws_FnExactSendNext.j0 k a1 t198 t214 (t214 != t198) l0_0 a0_1 a0_2 t191 t192 t193 t196 t197 t201 t204 t205 t207 t208 t209 t212 t213) = some r := by rw [if_pos rfl] at H; exact H
          clear H
          have H := H1
          clear H1
          have H' := Aside0.mk H
          clear H
          have hnb55 := NB215_184.out
          have hnc55 := NB184_215.out
          have hnb56 := NB215_199.out
          have hnc56 := NB199_215.out
          have hnb57 := NB215_200.out
          have hnc57 := NB200_215.out
          have hnb58 := NB215_206.out
          have hnc58 := NB206_215.out
          have hnb59 := NB215_216.out
          have hnc59 := NB216_215.out
          have hcz60_0 : w38.cell? ⟨gb215, 0, none⟩ = some (.int .i64 0) := (blk_cell BK215.out 0).trans rfl
          have hcz60_1 : w38.cell? ⟨gb215, 1, none⟩ = some (.int .i64 0) := (blk_cell BK215.out 1).trans rfl
          have hfz60_0 := blk_frozen BK215.out 0
          have hfz60_1 := blk_frozen BK215.out 1
          have hnb61 := NB199_184.out
          have hnc61 := NB184_199.out
          have hnb62 := NB199_200.out
          have hnc62 := NB200_199.out
          have hnb63 := NB199_206.out
          have hnc63 := NB206_199.out
          have hnb64 := NB199_216.out
          have hnc64 := NB216_199.out
          have hcz65_0 : w38.cell? ⟨gb199, 0, none⟩ = some (.int .i64 t191) := (blk_cell BK199.out 0).trans rfl
          have hcz65_1 : w38.cell? ⟨gb199, 1, none⟩ = some (.int .i64 t192) := (blk_cell BK199.out 1).trans rfl
          have hfz65_0 := blk_frozen BK199.out 0
          have hfz65_1 := blk_frozen BK199.out 1
          go_wp2_with (first | ((with_reducible refine gate_callee (f := 33) rfl ?_); refine goesL_ (some 43) rfl rfl Try.func33 (by kernel_rfl) rfl #[.agg #[.int .i64 t207, .int .i64 t208], .agg #[.int .i64 t191, .int .i64 t192]] rfl (by (try simp only [List.map_toArray, List.map_cons, List.map_nil]); first | done | rfl | (simp only [List.length_drop, List.length_take]; rfl)) ?_; (with_reducible refine (laws_eqParcel.calls t207 t208 t191 t192 true _ A51.out).mono ?_); rintro e w66 ⟨rfl, hb⟩; refine ⟨_, rfl, ?_⟩; have n0_ := Aside0.mk (Kd.R_below (by exact (Kd.R_mono (Kd.R_mono (Kd.R_far (p := ⟨gb216, 2, none⟩) (Kd.R_far (p := ⟨gb216, 1, none⟩) (Kd.R_far (p := ⟨gb216, 0, none⟩) (Kd.R_far (p := ⟨gb215, 1, none⟩) (Kd.R_far (p := ⟨gb215, 0, none⟩) (Kd.R_types (Kd.R_types HO188.out BK215.out (by decide)) BK216.out (by decide)) (fun _ hk => hk.1.2) (.int .i64 t207)) (fun _ hk => hk.1.2) (.int .i64 t208)) (fun _ hk => hk.2) (.slice Ao45 t209.length co45)) (fun _ hk => hk.2) (.int .i64 t212)) (fun _ hk => hk.2) (.int .i64 t213)) (fun _ h_ => h_.1)) (fun _ h_ => h_.1))) hb); have n1_ := Aside0.mk (Kd.R_below (by exact (Kd.R_mono (Kd.R_mono (Kd.R_far (p := ⟨gb216, 2, none⟩) (Kd.R_far (p := ⟨gb216, 1, none⟩) (Kd.R_far (p := ⟨gb216, 0, none⟩) (Kd.R_far (p := ⟨gb215, 1, none⟩) (Kd.R_far (p := ⟨gb215, 0, none⟩) (Kd.R_types (Kd.R_types HO195.out BK215.out (by decide)) BK216.out (by decide)) (fun _ hk => hk.1.2) (.int .i64 t207)) (fun _ hk => hk.1.2) (.int .i64 t208)) (fun _ hk => hk.2) (.slice Ao45 t209.length co45)) (fun _ hk => hk.2) (.int .i64 t212)) (fun _ hk => hk.2) (.int .i64 t213)) (fun _ h_ => h_.1)) (fun _ h_ => h_.1))) hb); have n2_ := Aside0.mk (Kd.R_below (by exact (Kd.R_mono (Kd.R_mono (Kd.R_far (p := ⟨gb216, 2, none⟩) (Kd.R_far (p := ⟨gb216, 1, none⟩) (Kd.R_far (p := ⟨gb216, 0, none⟩) (Kd.R_far (p := ⟨gb215, 1, none⟩) (Kd.R_far (p := ⟨gb215, 0, none⟩) (Kd.R_types (Kd.R_types HO203.out BK215.out (by decide)) BK216.out (by decide)) (fun _ hk => hk.1.2) (.int .i64 t207)) (fun _ hk => hk.1.2) (.int .i64 t208)) (fun _ hk => hk.2) (.slice Ao45 t209.length co45)) (fun _ hk => hk.2) (.int .i64 t212)) (fun _ hk => hk.2) (.int .i64 t213)) (fun _ h_ => h_.1)) (fun _ h_ => h_.1))) hb); have n3_ := Aside0.mk (Kd.R_below (by exact (Kd.R_mono (Kd.R_mono (Kd.R_far (p := ⟨gb216, 2, none⟩) (Kd.R_far (p := ⟨gb216, 1, none⟩) (Kd.R_far (p := ⟨gb216, 0, none⟩) (Kd.R_far (p := ⟨gb215, 1, none⟩) (Kd.R_far (p := ⟨gb215, 0, none⟩) (Kd.R_types (Kd.R_types HO211.out BK215.out (by decide)) BK216.out (by decide)) (fun _ hk => hk.1.2) (.int .i64 t207)) (fun _ hk => hk.1.2) (.int .i64 t208)) (fun _ hk => hk.2) (.slice Ao45 t209.length co45)) (fun _ hk => hk.2) (.int .i64 t212)) (fun _ hk => hk.2) (.int .i64 t213)) (fun _ h_ => h_.1)) (fun _ h_ => h_.1))) hb); have n4_ := Aside0.mk (blk_below (g := gb184) (o := .cells #[.slice A0_0 l0_0.length c0_0, .int .i64 a0_1, .int .i64 a0_2] 51 (0, 0)) (by refine blk_far ?_ NB184_216.out _; refine blk_far ?_ NB184_216.out _; refine blk_far ?_ NB184_216.out _; refine blk_far ?_ NB184_215.out _; refine blk_far ?_ NB184_215.out _; exact BK184.out) hb); have n5_ := Aside0.mk (blk_below (g := gb199) (o := .cells #[.int .i64 t191, .int .i64 t192] 54 (0, 0)) (by refine blk_far ?_ NB199_216.out _; refine blk_far ?_ NB199_216.out _; refine blk_far ?_ NB199_216.out _; refine blk_far ?_ NB199_215.out _; refine blk_far ?_ NB199_215.out _; exact BK199.out) hb); have n6_ := Aside0.mk (blk_below (g := gb200) (o := .cells #[.slice Ao25 t193.length co25, .int .i64 t196, .int .i64 t197] 55 (0, 0)) (by refine blk_far ?_ NB200_216.out _; refine blk_far ?_ NB200_216.out _; refine blk_far ?_ NB200_216.out _; refine blk_far ?_ NB200_215.out _; refine blk_far ?_ NB200_215.out _; exact BK200.out) hb); have n7_ := Aside0.mk (blk_below (g := gb206) (o := .cells #[.slice Ao31 t201.length co31, .int .i64 t204, .int .i64 t205] 55 (0, 0)) (by refine blk_far ?_ NB206_216.out _; refine blk_far ?_ NB206_216.out _; refine blk_far ?_ NB206_216.out _; refine blk_far ?_ NB206_215.out _; refine blk_far ?_ NB206_215.out _; exact BK206.out) hb); have n8_ := Aside0.mk (blk_below (g := gb215) (o := .cells #[.int .i64 t207, .int .i64 t208] 54 (0, 0)) (by refine blk_far ?_ NB215_216.out _; refine blk_far ?_ NB215_216.out _; refine blk_far ?_ NB215_216.out _; refine blk_put (cs := #[.int .i64 t207, .int .i64 0]) ?_ 1 _ rfl; refine blk_put (cs := #[.int .i64 0, .int .i64 0]) ?_ 0 _ rfl; exact BK215.out) hb); have n9_ := Aside0.mk (blk_below (g := gb216) (o := .cells #[.slice Ao45 t209.length co45, .int .i64 t212, .int .i64 t213] 55 (0, 0)) (by refine blk_put (cs := #[.slice Ao45 t209.length co45, .int .i64 t212, .int .i64 0]) ?_ 2 _ rfl; refine blk_put (cs := #[.slice Ao45 t209.length co45, .int .i64 0, .int .i64 0]) ?_ 1 _ rfl; refine blk_put (cs := #[.slice none 0 0, .int .i64 0, .int .i64 0]) ?_ 0 _ rfl; refine blk_far ?_ NB216_215.out _; refine blk_far ?_ NB216_215.out _; exact BK216.out) hb); have n10_ := Aside0.mk (below_step (by repeat (first | (with_reducible first | exact HB.out | apply below_alloc | apply pw_below_drewN | apply below_drew1 | refine below_set ?_ GE184.out | refine below_set ?_ GE199.out | refine below_set ?_ GE200.out | refine below_set ?_ GE206.out | refine below_set ?_ GE215.out | refine below_set ?_ GE216.out) | exact HB.out)) hb); clear HO188; clear HO195; clear HO203; clear HO211; clear BK184; clear BK199; clear BK200; clear BK206; clear BK215; clear BK216; clear HB; have HO188 := n0_; have HO195 := n1_; have HO203 := n2_; have HO211 := n3_; have BK184 := n4_; have BK199 := n5_; have BK200 := n6_; have BK206 := n7_; have BK215 := n8_; have BK216 := n9_; have HB := n10_; clear n0_ n1_ n2_ n3_ n4_ n5_ n6_ n7_ n8_ n9_ n10_; (try clear hb); (try clear hb2); (try clear hk); (try clear hi); have hnb67 := NB216_184.out; have hnc67 := NB184_216.out; have hnb68 := NB216_200.out; have hnc68 := NB200_216.out; have hnb69 := NB216_206.out; have hnc69 := NB206_216.out; have hcz70_0 : w66.cell? ⟨gb216, 0, none⟩ = some (.slice Ao45 t209.length co45) := (blk_cell BK216.out 0).trans rfl; have hcz70_1 : w66.cell? ⟨gb216, 1, none⟩ = some (.int .i64 t212) := (blk_cell BK216.out 1).trans rfl; have hcz70_2 : w66.cell? ⟨gb216, 2, none⟩ = some (.int .i64 t213) := (blk_cell BK216.out 2).trans rfl; have hfz70_0 := blk_frozen BK216.out 0; have hfz70_1 := blk_frozen BK216.out 1; have hfz70_2 := blk_frozen BK216.out 2; have hnb71 := NB200_184.out; have hnc71 := NB184_200.out; have hnb72 := NB200_206.out; have hnc72 := NB206_200.out; have hcz73_0 : w66.cell? ⟨gb200, 0, none⟩ = some (.slice Ao25 t193.length co25) := (blk_cell BK200.out 0).trans rfl; have hcz73_1 : w66.cell? ⟨gb200, 1, none⟩ = some (.int .i64 t196) := (blk_cell BK200.out 1).trans rfl; have hcz73_2 : w66.cell? ⟨gb200, 2, none⟩ = some (.int .i64 t197) := (blk_cell BK200.out 2).trans rfl; have hfz73_0 := blk_frozen BK200.out 0; have hfz73_1 := blk_frozen BK200.out 1; have hfz73_2 := blk_frozen BK200.out 2) | (go_at_call 34; (with_reducible refine (laws_eqSender.calls k _ _ t209 t212 t213 _ _ t193 t196 t197 true _ ?side1 ?side2 ?side3 ?side4 A53.out).mono ?_); (case side1 => repeat (first | exact (Kd.R_reads' HO211.out).2.2 | (with_reducible refine Kd.C_alloc ?_ _) | (with_reducible refine Kd.C_drewN ?_ _) | (with_reducible refine Kd.C_drew ?_))); (case side2 => exact (Kd.R_reads' HO211.out).2.1); (case side3 => repeat (first | exact (Kd.R_reads' HO195.out).2.2 | (with_reducible refine Kd.C_alloc ?_ _) | (with_reducible refine Kd.C_drewN ?_ _) | (with_reducible refine Kd.C_drew ?_))); (case side4 => exact (Kd.R_reads' HO195.out).2.1); rintro e w74 ⟨rfl, hb⟩; have n0_ := Aside0.mk (Kd.R_below HO188.out hb); have n1_ := Aside0.mk (Kd.R_below HO195.out hb); have n2_ := Aside0.mk (Kd.R_below HO203.out hb); have n3_ := Aside0.mk (Kd.R_below HO211.out hb); have n4_ := Aside0.mk (blk_below (g := gb184) (o := .cells #[.slice A0_0 l0_0.length c0_0, .int .i64 a0_1, .int .i64 a0_2] 51 (0, 0)) BK184.out hb); have n5_ := Aside0.mk (blk_below (g := gb199) (o := .cells #[.int .i64 t191, .int .i64 t192] 54 (0, 0)) BK199.out hb); have n6_ := Aside0.mk (blk_below (g := gb200) (o := .cells #[.slice Ao25 t193.length co25, .int .i64 t196, .int .i64 t197] 55 (0, 0)) BK200.out hb); have n7_ := Aside0.mk (blk_below (g := gb206) (o := .cells #[.slice Ao31 t201.length co31, .int .i64 t204, .int .i64 t205] 55 (0, 0)) BK206.out hb); have n8_ := Aside0.mk (blk_below (g := gb215) (o := .cells #[.int .i64 t207, .int .i64 t208] 54 (0, 0)) BK215.out hb); have n9_ := Aside0.mk (blk_below (g := gb216) (o := .cells #[.slice Ao45 t209.length co45, .int .i64 t212, .int .i64 t213] 55 (0, 0)) BK216.out hb); have n10_ := Aside0.mk (below_step (by repeat (first | (with_reducible first | exact HB.out | apply below_alloc | apply pw_below_drewN | apply below_drew1 | refine below_set ?_ GE184.out | refine below_set ?_ GE199.out | refine below_set ?_ GE200.out | refine below_set ?_ GE206.out | refine below_set ?_ GE215.out | refine below_set ?_ GE216.out) | exact HB.out)) hb); clear HO188; clear HO195; clear HO203; clear HO211; clear BK184; clear BK199; clear BK200; clear BK206; clear BK215; clear BK216; clear HB; have HO188 := n0_; have HO195 := n1_; have HO203 := n2_; have HO211 := n3_; have BK184 := n4_; have BK199 := n5_; have BK200 := n6_; have BK206 := n7_; have BK215 := n8_; have BK216 := n9_; have HB := n10_; clear n0_ n1_ n2_ n3_ n4_ n5_ n6_ n7_ n8_ n9_ n10_; (try clear hb); (try clear hb2); (try clear hk); (try clear hi)))
          go_meet
          case rel => exact ⟨_, ((t214 != t198)), (by first | rfl | (simp; done) | (simp [*]; done)), H', ⟨by first | omega | exact Nat.le_refl _⟩, ⟨by exact Kd.R_mono HO195.out (fun _ hk => ⟨hk.1.2, hk.2⟩)⟩, ⟨by exact Kd.R_mono HO203.out (fun _ hk => ⟨hk.1.2, hk.2⟩)⟩, ⟨by exact Kd.R_mono HO211.out (fun _ hk => ⟨hk.1.2, hk.2⟩)⟩, ⟨by exact BK184.out⟩, ⟨by exact BK199.out⟩, ⟨by exact BK200.out⟩, ⟨by exact BK206.out⟩, ⟨by exact BK215.out⟩, ⟨by exact BK216.out⟩, ⟨by repeat (first | (with_reducible first | exact HB.out | apply below_alloc | apply pw_below_drewN | apply below_drew1 | refine below_set ?_ GE184.out | refine below_set ?_ GE199.out | refine below_set ?_ GE200.out | refine below_set ?_ GE206.out | refine below_set ?_ GE215.out | refine below_set ?_ GE216.out) | exact HB.out)⟩⟩
        · replace c54 := Bool.eq_false_iff.mpr c54
          subst c54
          have H1 : (laws_FnExactSendNext.j0 k a1 t198 t214 true l0_0 a0_1 a0_2 t191 t192 t193 t196 t197 t201 t204 t205 t207 t208 t209 t212 t213) = some r := by rw [if_neg (show ¬ (false = true) by decide)] at H; exact H
          clear H
          have H := H1
          clear H1
          have H' := Aside0.mk H
          clear H
          have hnb75 := NB215_184.out
          have hnc75 := NB184_215.out
          have hnb76 := NB215_199.out
          have hnc76 := NB199_215.out
          have hnb77 := NB215_200.out
          have hnc77 := NB200_215.out
          have hnb78 := NB215_206.out
          have hnc78 := NB206_215.out
          have hnb79 := NB215_216.out
          have hnc79 := NB216_215.out
          have hcz80_0 : w38.cell? ⟨gb215, 0, none⟩ = some (.int .i64 0) := (blk_cell BK215.out 0).trans rfl
          have hcz80_1 : w38.cell? ⟨gb215, 1, none⟩ = some (.int .i64 0) := (blk_cell BK215.out 1).trans rfl
          have hfz80_0 := blk_frozen BK215.out 0
          have hfz80_1 := blk_frozen BK215.out 1
          have hnb81 := NB199_184.out
          have hnc81 := NB184_199.out
          have hnb82 := NB199_200.out
          have hnc82 := NB200_199.out
          have hnb83 := NB199_206.out
          have hnc83 := NB206_199.out
          have hnb84 := NB199_216.out
          have hnc84 := NB216_199.out
          have hcz85_0 : w38.cell? ⟨gb199, 0, none⟩ = some (.int .i64 t191) := (blk_cell BK199.out 0).trans rfl
          have hcz85_1 : w38.cell? ⟨gb199, 1, none⟩ = some (.int .i64 t192) := (blk_cell BK199.out 1).trans rfl
          have hfz85_0 := blk_frozen BK199.out 0
          have hfz85_1 := blk_frozen BK199.out 1
          go_wp2_with (first | ((with_reducible refine gate_callee (f := 33) rfl ?_); refine goesL_ (some 43) rfl rfl Try.func33 (by kernel_rfl) rfl #[.agg #[.int .i64 t207, .int .i64 t208], .agg #[.int .i64 t191, .int .i64 t192]] rfl (by (try simp only [List.map_toArray, List.map_cons, List.map_nil]); first | done | rfl | (simp only [List.length_drop, List.length_take]; rfl)) ?_; (with_reducible refine (laws_eqParcel.calls t207 t208 t191 t192 true _ A51.out).mono ?_); rintro e w86 ⟨rfl, hb⟩; refine ⟨_, rfl, ?_⟩; have n0_ := Aside0.mk (Kd.R_below (by exact (Kd.R_mono (Kd.R_mono (Kd.R_far (p := ⟨gb216, 2, none⟩) (Kd.R_far (p := ⟨gb216, 1, none⟩) (Kd.R_far (p := ⟨gb216, 0, none⟩) (Kd.R_far (p := ⟨gb215, 1, none⟩) (Kd.R_far (p := ⟨gb215, 0, none⟩) (Kd.R_types (Kd.R_types HO188.out BK215.out (by decide)) BK216.out (by decide)) (fun _ hk => hk.1.2) (.int .i64 t207)) (fun _ hk => hk.1.2) (.int .i64 t208)) (fun _ hk => hk.2) (.slice Ao45 t209.length co45)) (fun _ hk => hk.2) (.int .i64 t212)) (fun _ hk => hk.2) (.int .i64 t213)) (fun _ h_ => h_.1)) (fun _ h_ => h_.1))) hb); have n1_ := Aside0.mk (Kd.R_below (by exact (Kd.R_mono (Kd.R_mono (Kd.R_far (p := ⟨gb216, 2, none⟩) (Kd.R_far (p := ⟨gb216, 1, none⟩) (Kd.R_far (p := ⟨gb216, 0, none⟩) (Kd.R_far (p := ⟨gb215, 1, none⟩) (Kd.R_far (p := ⟨gb215, 0, none⟩) (Kd.R_types (Kd.R_types HO195.out BK215.out (by decide)) BK216.out (by decide)) (fun _ hk => hk.1.2) (.int .i64 t207)) (fun _ hk => hk.1.2) (.int .i64 t208)) (fun _ hk => hk.2) (.slice Ao45 t209.length co45)) (fun _ hk => hk.2) (.int .i64 t212)) (fun _ hk => hk.2) (.int .i64 t213)) (fun _ h_ => h_.1)) (fun _ h_ => h_.1))) hb); have n2_ := Aside0.mk (Kd.R_below (by exact (Kd.R_mono (Kd.R_mono (Kd.R_far (p := ⟨gb216, 2, none⟩) (Kd.R_far (p := ⟨gb216, 1, none⟩) (Kd.R_far (p := ⟨gb216, 0, none⟩) (Kd.R_far (p := ⟨gb215, 1, none⟩) (Kd.R_far (p := ⟨gb215, 0, none⟩) (Kd.R_types (Kd.R_types HO203.out BK215.out (by decide)) BK216.out (by decide)) (fun _ hk => hk.1.2) (.int .i64 t207)) (fun _ hk => hk.1.2) (.int .i64 t208)) (fun _ hk => hk.2) (.slice Ao45 t209.length co45)) (fun _ hk => hk.2) (.int .i64 t212)) (fun _ hk => hk.2) (.int .i64 t213)) (fun _ h_ => h_.1)) (fun _ h_ => h_.1))) hb); have n3_ := Aside0.mk (Kd.R_below (by exact (Kd.R_mono (Kd.R_mono (Kd.R_far (p := ⟨gb216, 2, none⟩) (Kd.R_far (p := ⟨gb216, 1, none⟩) (Kd.R_far (p := ⟨gb216, 0, none⟩) (Kd.R_far (p := ⟨gb215, 1, none⟩) (Kd.R_far (p := ⟨gb215, 0, none⟩) (Kd.R_types (Kd.R_types HO211.out BK215.out (by decide)) BK216.out (by decide)) (fun _ hk => hk.1.2) (.int .i64 t207)) (fun _ hk => hk.1.2) (.int .i64 t208)) (fun _ hk => hk.2) (.slice Ao45 t209.length co45)) (fun _ hk => hk.2) (.int .i64 t212)) (fun _ hk => hk.2) (.int .i64 t213)) (fun _ h_ => h_.1)) (fun _ h_ => h_.1))) hb); have n4_ := Aside0.mk (blk_below (g := gb184) (o := .cells #[.slice A0_0 l0_0.length c0_0, .int .i64 a0_1, .int .i64 a0_2] 51 (0, 0)) (by refine blk_far ?_ NB184_216.out _; refine blk_far ?_ NB184_216.out _; refine blk_far ?_ NB184_216.out _; refine blk_far ?_ NB184_215.out _; refine blk_far ?_ NB184_215.out _; exact BK184.out) hb); have n5_ := Aside0.mk (blk_below (g := gb199) (o := .cells #[.int .i64 t191, .int .i64 t192] 54 (0, 0)) (by refine blk_far ?_ NB199_216.out _; refine blk_far ?_ NB199_216.out _; refine blk_far ?_ NB199_216.out _; refine blk_far ?_ NB199_215.out _; refine blk_far ?_ NB199_215.out _; exact BK199.out) hb); have n6_ := Aside0.mk (blk_below (g := gb200) (o := .cells #[.slice Ao25 t193.length co25, .int .i64 t196, .int .i64 t197] 55 (0, 0)) (by refine blk_far ?_ NB200_216.out _; refine blk_far ?_ NB200_216.out _; refine blk_far ?_ NB200_216.out _; refine blk_far ?_ NB200_215.out _; refine blk_far ?_ NB200_215.out _; exact BK200.out) hb); have n7_ := Aside0.mk (blk_below (g := gb206) (o := .cells #[.slice Ao31 t201.length co31, .int .i64 t204, .int .i64 t205] 55 (0, 0)) (by refine blk_far ?_ NB206_216.out _; refine blk_far ?_ NB206_216.out _; refine blk_far ?_ NB206_216.out _; refine blk_far ?_ NB206_215.out _; refine blk_far ?_ NB206_215.out _; exact BK206.out) hb); have n8_ := Aside0.mk (blk_below (g := gb215) (o := .cells #[.int .i64 t207, .int .i64 t208] 54 (0, 0)) (by refine blk_far ?_ NB215_216.out _; refine blk_far ?_ NB215_216.out _; refine blk_far ?_ NB215_216.out _; refine blk_put (cs := #[.int .i64 t207, .int .i64 0]) ?_ 1 _ rfl; refine blk_put (cs := #[.int .i64 0, .int .i64 0]) ?_ 0 _ rfl; exact BK215.out) hb); have n9_ := Aside0.mk (blk_below (g := gb216) (o := .cells #[.slice Ao45 t209.length co45, .int .i64 t212, .int .i64 t213] 55 (0, 0)) (by refine blk_put (cs := #[.slice Ao45 t209.length co45, .int .i64 t212, .int .i64 0]) ?_ 2 _ rfl; refine blk_put (cs := #[.slice Ao45 t209.length co45, .int .i64 0, .int .i64 0]) ?_ 1 _ rfl; refine blk_put (cs := #[.slice none 0 0, .int .i64 0, .int .i64 0]) ?_ 0 _ rfl; refine blk_far ?_ NB216_215.out _; refine blk_far ?_ NB216_215.out _; exact BK216.out) hb); have n10_ := Aside0.mk (below_step (by repeat (first | (with_reducible first | exact HB.out | apply below_alloc | apply pw_below_drewN | apply below_drew1 | refine below_set ?_ GE184.out | refine below_set ?_ GE199.out | refine below_set ?_ GE200.out | refine below_set ?_ GE206.out | refine below_set ?_ GE215.out | refine below_set ?_ GE216.out) | exact HB.out)) hb); clear HO188; clear HO195; clear HO203; clear HO211; clear BK184; clear BK199; clear BK200; clear BK206; clear BK215; clear BK216; clear HB; have HO188 := n0_; have HO195 := n1_; have HO203 := n2_; have HO211 := n3_; have BK184 := n4_; have BK199 := n5_; have BK200 := n6_; have BK206 := n7_; have BK215 := n8_; have BK216 := n9_; have HB := n10_; clear n0_ n1_ n2_ n3_ n4_ n5_ n6_ n7_ n8_ n9_ n10_; (try clear hb); (try clear hb2); (try clear hk); (try clear hi); have hnb87 := NB216_184.out; have hnc87 := NB184_216.out; have hnb88 := NB216_200.out; have hnc88 := NB200_216.out; have hnb89 := NB216_206.out; have hnc89 := NB206_216.out; have hcz90_0 : w86.cell? ⟨gb216, 0, none⟩ = some (.slice Ao45 t209.length co45) := (blk_cell BK216.out 0).trans rfl; have hcz90_1 : w86.cell? ⟨gb216, 1, none⟩ = some (.int .i64 t212) := (blk_cell BK216.out 1).trans rfl; have hcz90_2 : w86.cell? ⟨gb216, 2, none⟩ = some (.int .i64 t213) := (blk_cell BK216.out 2).trans rfl; have hfz90_0 := blk_frozen BK216.out 0; have hfz90_1 := blk_frozen BK216.out 1; have hfz90_2 := blk_frozen BK216.out 2; have hnb91 := NB200_184.out; have hnc91 := NB184_200.out; have hnb92 := NB200_206.out; have hnc92 := NB206_200.out; have hcz93_0 : w86.cell? ⟨gb200, 0, none⟩ = some (.slice Ao25 t193.length co25) := (blk_cell BK200.out 0).trans rfl; have hcz93_1 : w86.cell? ⟨gb200, 1, none⟩ = some (.int .i64 t196) := (blk_cell BK200.out 1).trans rfl; have hcz93_2 : w86.cell? ⟨gb200, 2, none⟩ = some (.int .i64 t197) := (blk_cell BK200.out 2).trans rfl; have hfz93_0 := blk_frozen BK200.out 0; have hfz93_1 := blk_frozen BK200.out 1; have hfz93_2 := blk_frozen BK200.out 2) | (go_at_call 34; (with_reducible refine (laws_eqSender.calls k _ _ t209 t212 t213 _ _ t193 t196 t197 false _ ?side1 ?side2 ?side3 ?side4 A53.out).mono ?_); (case side1 => repeat (first | exact (Kd.R_reads' HO211.out).2.2 | (with_reducible refine Kd.C_alloc ?_ _) | (with_reducible refine Kd.C_drewN ?_ _) | (with_reducible refine Kd.C_drew ?_))); (case side2 => exact (Kd.R_reads' HO211.out).2.1); (case side3 => repeat (first | exact (Kd.R_reads' HO195.out).2.2 | (with_reducible refine Kd.C_alloc ?_ _) | (with_reducible refine Kd.C_drewN ?_ _) | (with_reducible refine Kd.C_drew ?_))); (case side4 => exact (Kd.R_reads' HO195.out).2.1); rintro e w94 ⟨rfl, hb⟩; have n0_ := Aside0.mk (Kd.R_below HO188.out hb); have n1_ := Aside0.mk (Kd.R_below HO195.out hb); have n2_ := Aside0.mk (Kd.R_below HO203.out hb); have n3_ := Aside0.mk (Kd.R_below HO211.out hb); have n4_ := Aside0.mk (blk_below (g := gb184) (o := .cells #[.slice A0_0 l0_0.length c0_0, .int .i64 a0_1, .int .i64 a0_2] 51 (0, 0)) BK184.out hb); have n5_ := Aside0.mk (blk_below (g := gb199) (o := .cells #[.int .i64 t191, .int .i64 t192] 54 (0, 0)) BK199.out hb); have n6_ := Aside0.mk (blk_below (g := gb200) (o := .cells #[.slice Ao25 t193.length co25, .int .i64 t196, .int .i64 t197] 55 (0, 0)) BK200.out hb); have n7_ := Aside0.mk (blk_below (g := gb206) (o := .cells #[.slice Ao31 t201.length co31, .int .i64 t204, .int .i64 t205] 55 (0, 0)) BK206.out hb); have n8_ := Aside0.mk (blk_below (g := gb215) (o := .cells #[.int .i64 t207, .int .i64 t208] 54 (0, 0)) BK215.out hb); have n9_ := Aside0.mk (blk_below (g := gb216) (o := .cells #[.slice Ao45 t209.length co45, .int .i64 t212, .int .i64 t213] 55 (0, 0)) BK216.out hb); have n10_ := Aside0.mk (below_step (by repeat (first | (with_reducible first | exact HB.out | apply below_alloc | apply pw_below_drewN | apply below_drew1 | refine below_set ?_ GE184.out | refine below_set ?_ GE199.out | refine below_set ?_ GE200.out | refine below_set ?_ GE206.out | refine below_set ?_ GE215.out | refine below_set ?_ GE216.out) | exact HB.out)) hb); clear HO188; clear HO195; clear HO203; clear HO211; clear BK184; clear BK199; clear BK200; clear BK206; clear BK215; clear BK216; clear HB; have HO188 := n0_; have HO195 := n1_; have HO203 := n2_; have HO211 := n3_; have BK184 := n4_; have BK199 := n5_; have BK200 := n6_; have BK206 := n7_; have BK215 := n8_; have BK216 := n9_; have HB := n10_; clear n0_ n1_ n2_ n3_ n4_ n5_ n6_ n7_ n8_ n9_ n10_; (try clear hb); (try clear hb2); (try clear hk); (try clear hi)))
          go_meet
          case rel => exact ⟨_, (true), (by first | rfl | (simp; done) | (simp [*]; done)), H', ⟨by first | omega | exact Nat.le_refl _⟩, ⟨by exact Kd.R_mono HO195.out (fun _ hk => ⟨hk.1.2, hk.2⟩)⟩, ⟨by exact Kd.R_mono HO203.out (fun _ hk => ⟨hk.1.2, hk.2⟩)⟩, ⟨by exact Kd.R_mono HO211.out (fun _ hk => ⟨hk.1.2, hk.2⟩)⟩, ⟨by exact BK184.out⟩, ⟨by exact BK199.out⟩, ⟨by exact BK200.out⟩, ⟨by exact BK206.out⟩, ⟨by exact BK215.out⟩, ⟨by exact BK216.out⟩, ⟨by repeat (first | (with_reducible first | exact HB.out | apply below_alloc | apply pw_below_drewN | apply below_drew1 | refine below_set ?_ GE184.out | refine below_set ?_ GE199.out | refine below_set ?_ GE200.out | refine below_set ?_ GE206.out | refine below_set ?_ GE215.out | refine below_set ?_ GE216.out) | exact HB.out)⟩⟩
      · replace c52 := Bool.eq_false_iff.mpr c52
        subst c52
        have H1 : (laws_FnExactSendNext.j0 k a1 t198 t214 true l0_0 a0_1 a0_2 t191 t192 t193 t196 t197 t201 t204 t205 t207 t208 t209 t212 t213) = some r := by rw [if_neg (show ¬ (false = true) by decide)] at H; exact H
        clear H
        have H := H1
        clear H1
        have H' := Aside0.mk H
        clear H
        have hnb95 := NB215_184.out
        have hnc95 := NB184_215.out
        have hnb96 := NB215_199.out
        have hnc96 := NB199_215.out
        have hnb97 := NB215_200.out
        have hnc97 := NB200_215.out
        have hnb98 := NB215_206.out
        have hnc98 := NB206_215.out
        have hnb99 := NB215_216.out
        have hnc99 := NB216_215.out
        have hcz100_0 : w38.cell? ⟨gb215, 0, none⟩ = some (.int .i64 0) := (blk_cell BK215.out 0).trans rfl
        have hcz100_1 : w38.cell? ⟨gb215, 1, none⟩ = some (.int .i64 0) := (blk_cell BK215.out 1).trans rfl
        have hfz100_0 := blk_frozen BK215.out 0
        have hfz100_1 := blk_frozen BK215.out 1
        have hnb101 := NB199_184.out
        have hnc101 := NB184_199.out
        have hnb102 := NB199_200.out
        have hnc102 := NB200_199.out
        have hnb103 := NB199_206.out
        have hnc103 := NB206_199.out
        have hnb104 := NB199_216.out
        have hnc104 := NB216_199.out
        have hcz105_0 : w38.cell? ⟨gb199, 0, none⟩ = some (.int .i64 t191) := (blk_cell BK199.out 0).trans rfl
        have hcz105_1 : w38.cell? ⟨gb199, 1, none⟩ = some (.int .i64 t192) := (blk_cell BK199.out 1).trans rfl
        have hfz105_0 := blk_frozen BK199.out 0
        have hfz105_1 := blk_frozen BK199.out 1
        go_wp2_with (first | ((with_reducible refine gate_callee (f := 33) rfl ?_); refine goesL_ (some 43) rfl rfl Try.func33 (by kernel_rfl) rfl #[.agg #[.int .i64 t207, .int .i64 t208], .agg #[.int .i64 t191, .int .i64 t192]] rfl (by (try simp only [List.map_toArray, List.map_cons, List.map_nil]); first | done | rfl | (simp only [List.length_drop, List.length_take]; rfl)) ?_; (with_reducible refine (laws_eqParcel.calls t207 t208 t191 t192 false _ A51.out).mono ?_); rintro e w106 ⟨rfl, hb⟩; refine ⟨_, rfl, ?_⟩; have n0_ := Aside0.mk (Kd.R_below (by exact (Kd.R_mono (Kd.R_mono (Kd.R_far (p := ⟨gb216, 2, none⟩) (Kd.R_far (p := ⟨gb216, 1, none⟩) (Kd.R_far (p := ⟨gb216, 0, none⟩) (Kd.R_far (p := ⟨gb215, 1, none⟩) (Kd.R_far (p := ⟨gb215, 0, none⟩) (Kd.R_types (Kd.R_types HO188.out BK215.out (by decide)) BK216.out (by decide)) (fun _ hk => hk.1.2) (.int .i64 t207)) (fun _ hk => hk.1.2) (.int .i64 t208)) (fun _ hk => hk.2) (.slice Ao45 t209.length co45)) (fun _ hk => hk.2) (.int .i64 t212)) (fun _ hk => hk.2) (.int .i64 t213)) (fun _ h_ => h_.1)) (fun _ h_ => h_.1))) hb); have n1_ := Aside0.mk (Kd.R_below (by exact (Kd.R_mono (Kd.R_mono (Kd.R_far (p := ⟨gb216, 2, none⟩) (Kd.R_far (p := ⟨gb216, 1, none⟩) (Kd.R_far (p := ⟨gb216, 0, none⟩) (Kd.R_far (p := ⟨gb215, 1, none⟩) (Kd.R_far (p := ⟨gb215, 0, none⟩) (Kd.R_types (Kd.R_types HO195.out BK215.out (by decide)) BK216.out (by decide)) (fun _ hk => hk.1.2) (.int .i64 t207)) (fun _ hk => hk.1.2) (.int .i64 t208)) (fun _ hk => hk.2) (.slice Ao45 t209.length co45)) (fun _ hk => hk.2) (.int .i64 t212)) (fun _ hk => hk.2) (.int .i64 t213)) (fun _ h_ => h_.1)) (fun _ h_ => h_.1))) hb); have n2_ := Aside0.mk (Kd.R_below (by exact (Kd.R_mono (Kd.R_mono (Kd.R_far (p := ⟨gb216, 2, none⟩) (Kd.R_far (p := ⟨gb216, 1, none⟩) (Kd.R_far (p := ⟨gb216, 0, none⟩) (Kd.R_far (p := ⟨gb215, 1, none⟩) (Kd.R_far (p := ⟨gb215, 0, none⟩) (Kd.R_types (Kd.R_types HO203.out BK215.out (by decide)) BK216.out (by decide)) (fun _ hk => hk.1.2) (.int .i64 t207)) (fun _ hk => hk.1.2) (.int .i64 t208)) (fun _ hk => hk.2) (.slice Ao45 t209.length co45)) (fun _ hk => hk.2) (.int .i64 t212)) (fun _ hk => hk.2) (.int .i64 t213)) (fun _ h_ => h_.1)) (fun _ h_ => h_.1))) hb); have n3_ := Aside0.mk (Kd.R_below (by exact (Kd.R_mono (Kd.R_mono (Kd.R_far (p := ⟨gb216, 2, none⟩) (Kd.R_far (p := ⟨gb216, 1, none⟩) (Kd.R_far (p := ⟨gb216, 0, none⟩) (Kd.R_far (p := ⟨gb215, 1, none⟩) (Kd.R_far (p := ⟨gb215, 0, none⟩) (Kd.R_types (Kd.R_types HO211.out BK215.out (by decide)) BK216.out (by decide)) (fun _ hk => hk.1.2) (.int .i64 t207)) (fun _ hk => hk.1.2) (.int .i64 t208)) (fun _ hk => hk.2) (.slice Ao45 t209.length co45)) (fun _ hk => hk.2) (.int .i64 t212)) (fun _ hk => hk.2) (.int .i64 t213)) (fun _ h_ => h_.1)) (fun _ h_ => h_.1))) hb); have n4_ := Aside0.mk (blk_below (g := gb184) (o := .cells #[.slice A0_0 l0_0.length c0_0, .int .i64 a0_1, .int .i64 a0_2] 51 (0, 0)) (by refine blk_far ?_ NB184_216.out _; refine blk_far ?_ NB184_216.out _; refine blk_far ?_ NB184_216.out _; refine blk_far ?_ NB184_215.out _; refine blk_far ?_ NB184_215.out _; exact BK184.out) hb); have n5_ := Aside0.mk (blk_below (g := gb199) (o := .cells #[.int .i64 t191, .int .i64 t192] 54 (0, 0)) (by refine blk_far ?_ NB199_216.out _; refine blk_far ?_ NB199_216.out _; refine blk_far ?_ NB199_216.out _; refine blk_far ?_ NB199_215.out _; refine blk_far ?_ NB199_215.out _; exact BK199.out) hb); have n6_ := Aside0.mk (blk_below (g := gb200) (o := .cells #[.slice Ao25 t193.length co25, .int .i64 t196, .int .i64 t197] 55 (0, 0)) (by refine blk_far ?_ NB200_216.out _; refine blk_far ?_ NB200_216.out _; refine blk_far ?_ NB200_216.out _; refine blk_far ?_ NB200_215.out _; refine blk_far ?_ NB200_215.out _; exact BK200.out) hb); have n7_ := Aside0.mk (blk_below (g := gb206) (o := .cells #[.slice Ao31 t201.length co31, .int .i64 t204, .int .i64 t205] 55 (0, 0)) (by refine blk_far ?_ NB206_216.out _; refine blk_far ?_ NB206_216.out _; refine blk_far ?_ NB206_216.out _; refine blk_far ?_ NB206_215.out _; refine blk_far ?_ NB206_215.out _; exact BK206.out) hb); have n8_ := Aside0.mk (blk_below (g := gb215) (o := .cells #[.int .i64 t207, .int .i64 t208] 54 (0, 0)) (by refine blk_far ?_ NB215_216.out _; refine blk_far ?_ NB215_216.out _; refine blk_far ?_ NB215_216.out _; refine blk_put (cs := #[.int .i64 t207, .int .i64 0]) ?_ 1 _ rfl; refine blk_put (cs := #[.int .i64 0, .int .i64 0]) ?_ 0 _ rfl; exact BK215.out) hb); have n9_ := Aside0.mk (blk_below (g := gb216) (o := .cells #[.slice Ao45 t209.length co45, .int .i64 t212, .int .i64 t213] 55 (0, 0)) (by refine blk_put (cs := #[.slice Ao45 t209.length co45, .int .i64 t212, .int .i64 0]) ?_ 2 _ rfl; refine blk_put (cs := #[.slice Ao45 t209.length co45, .int .i64 0, .int .i64 0]) ?_ 1 _ rfl; refine blk_put (cs := #[.slice none 0 0, .int .i64 0, .int .i64 0]) ?_ 0 _ rfl; refine blk_far ?_ NB216_215.out _; refine blk_far ?_ NB216_215.out _; exact BK216.out) hb); have n10_ := Aside0.mk (below_step (by repeat (first | (with_reducible first | exact HB.out | apply below_alloc | apply pw_below_drewN | apply below_drew1 | refine below_set ?_ GE184.out | refine below_set ?_ GE199.out | refine below_set ?_ GE200.out | refine below_set ?_ GE206.out | refine below_set ?_ GE215.out | refine below_set ?_ GE216.out) | exact HB.out)) hb); clear HO188; clear HO195; clear HO203; clear HO211; clear BK184; clear BK199; clear BK200; clear BK206; clear BK215; clear BK216; clear HB; have HO188 := n0_; have HO195 := n1_; have HO203 := n2_; have HO211 := n3_; have BK184 := n4_; have BK199 := n5_; have BK200 := n6_; have BK206 := n7_; have BK215 := n8_; have BK216 := n9_; have HB := n10_; clear n0_ n1_ n2_ n3_ n4_ n5_ n6_ n7_ n8_ n9_ n10_; (try clear hb); (try clear hb2); (try clear hk); (try clear hi)))
        go_meet
        case rel => exact ⟨_, (true), (by first | rfl | (simp; done) | (simp [*]; done)), H', ⟨by first | omega | exact Nat.le_refl _⟩, ⟨by exact Kd.R_mono HO195.out (fun _ hk => ⟨hk.1.2, hk.2⟩)⟩, ⟨by exact Kd.R_mono HO203.out (fun _ hk => ⟨hk.1.2, hk.2⟩)⟩, ⟨by exact Kd.R_mono HO211.out (fun _ hk => ⟨hk.1.2, hk.2⟩)⟩, ⟨by exact BK184.out⟩, ⟨by exact BK199.out⟩, ⟨by exact BK200.out⟩, ⟨by exact BK206.out⟩, ⟨by exact BK215.out⟩, ⟨by exact BK216.out⟩, ⟨by repeat (first | (with_reducible first | exact HB.out | apply below_alloc | apply pw_below_drewN | apply below_drew1 | refine below_set ?_ GE184.out | refine below_set ?_ GE199.out | refine below_set ?_ GE200.out | refine below_set ?_ GE206.out | refine below_set ?_ GE215.out | refine below_set ?_ GE216.out) | exact HB.out)⟩⟩
    case rest =>
      clear HC12
      try clear c1
      try clear c2
      try clear p2
      try clear c3
      try clear c4
      try clear c4b0
      try clear c5
      try clear c6
      try clear c7
      try clear c8
      try clear c9
      try clear c10
      try clear c22
      try clear c23
      try clear c26
      try clear c29
      try clear c30
      try clear c31
      try clear c32
      try clear c33
      try clear c34
      try clear c39
      try clear c40
      try clear c41
      try clear c42
      try clear c43
      try clear c46
      try clear c47
      try clear c48
      try clear c49
      try clear c52
      try clear c54
      try clear c55
      try clear c56
      try clear c57
      try clear c58
      try clear c59
      try clear c61
      try clear c62
      try clear c63
      try clear c64
      try clear c67
      try clear c68
      try clear c69
      try clear c71
      try clear c72
      try clear c75
      try clear c76
      try clear c77
      try clear c78
      try clear c79
      try clear c81
      try clear c82
      try clear c83
      try clear c84
      try clear c87
      try clear c88
      try clear c89
      try clear c91
      try clear c92
      try clear c95
      try clear c96
      try clear c97
      try clear c98
      try clear c99
      try clear c101
      try clear c102
      try clear c103
      try clear c104
      try clear hcz100_0
      try clear hcz100_1
      try clear hcz105_0
      try clear hcz105_1
      try clear hcz14_0
      try clear hcz14_1
      try clear hcz14_2
      try clear hcz16_0
      try clear hcz16_1
      try clear hcz16_2
      try clear hcz24_0
      try clear hcz24_1
      try clear hcz27_0
      try clear hcz27_1
      try clear hcz27_2
      try clear hcz28_0
      try clear hcz28_1
      try clear hcz28_2
      try clear hcz35_0
      try clear hcz35_1
      try clear hcz35_2
      try clear hcz44_0
      try clear hcz44_1
      try clear hcz50_0
      try clear hcz50_1
      try clear hcz50_2
      try clear hcz60_0
      try clear hcz60_1
      try clear hcz65_0
      try clear hcz65_1
      try clear hcz6_0
      try clear hcz6_1
      try clear hcz6_2
      try clear hcz70_0
      try clear hcz70_1
      try clear hcz70_2
      try clear hcz73_0
      try clear hcz73_1
      try clear hcz73_2
      try clear hcz80_0
      try clear hcz80_1
      try clear hcz85_0
      try clear hcz85_1
      try clear hcz90_0
      try clear hcz90_1
      try clear hcz90_2
      try clear hcz93_0
      try clear hcz93_1
      try clear hcz93_2
      try clear hfz100_0
      try clear hfz100_1
      try clear hfz105_0
      try clear hfz105_1
      try clear hfz14_0
      try clear hfz14_1
      try clear hfz14_2
      try clear hfz16_0
      try clear hfz16_1
      try clear hfz16_2
      try clear hfz24_0
      try clear hfz24_1
      try clear hfz27_0
      try clear hfz27_1
      try clear hfz27_2
      try clear hfz28_0
      try clear hfz28_1
      try clear hfz28_2
      try clear hfz35_0
      try clear hfz35_1
      try clear hfz35_2
      try clear hfz44_0
      try clear hfz44_1
      try clear hfz50_0
      try clear hfz50_1
      try clear hfz50_2
      try clear hfz60_0
      try clear hfz60_1
      try clear hfz65_0
      try clear hfz65_1
      try clear hfz6_0
      try clear hfz6_1
      try clear hfz6_2
      try clear hfz70_0
      try clear hfz70_1
      try clear hfz70_2
      try clear hfz73_0
      try clear hfz73_1
      try clear hfz73_2
      try clear hfz80_0
      try clear hfz80_1
      try clear hfz85_0
      try clear hfz85_1
      try clear hfz90_0
      try clear hfz90_1
      try clear hfz90_2
      try clear hfz93_0
      try clear hfz93_1
      try clear hfz93_2
      obtain ⟨kq, x55_11, rfl, HA, HJ11, HO_201000, HO_207000, HO_217000, BK184, BK199, BK200, BK206, BK215, BK216, HB⟩ := hcut
      cases kq with
      | zero => exact absurd HA.out (by simp [laws_FnExactSendNext.j0])
      | succ kj11 =>
        have H := HA.out
        clear HA
        simp only [laws_FnExactSendNext.j0] at H
        by_cases c107 : x55_11 = true
        · subst c107
          have H1 : (some false) = some r := by rw [if_pos rfl] at H; exact H
          clear H
          have H := H1
          clear H1
          obtain rfl := Option.some.inj H
          go_wp2
          go_ret
          exact ⟨by first | rfl | (simp [errW_none, errW_some] <;> rfl) | (simp [*, errW_none, errW_some] <;> rfl), by repeat (first | (with_reducible first | exact HB.out | apply below_alloc | apply pw_below_drewN | apply below_drew1 | refine below_set ?_ GE184.out | refine below_set ?_ GE199.out | refine below_set ?_ GE200.out | refine below_set ?_ GE206.out | refine below_set ?_ GE215.out | refine below_set ?_ GE216.out) | exact HB.out)⟩
        · replace c107 := Bool.eq_false_iff.mpr c107
          subst c107
          have H1 : ((laws_toSender.f kj11 l0_0 a0_1 a0_2).bind fun bt219 => ((laws_eqSender.f kj11 t201 t204 t205 bt219.1 bt219.2.1 bt219.2.2).bind fun t224 => (if t224 = true then ((laws_markSender.f kj11 t201 t204 t205 1).bind fun bt225 => (if bt225.1 < 0 then (laws_FnExactSendNext.j1 kj11 a1 t198 true l0_0 a0_1 a0_2 t191 t192 t193 t196 t197 t209 t212 t213) else ((laws_eqParcel.f t207 t208 t191 t192).bind fun t227 => (if t227 = true then ((laws_eqSender.f kj11 t209 t212 t213 t193 t196 t197).bind fun t228 => (if t228 = true then (laws_FnExactSendNext.j1 kj11 a1 t198 (t214 != t198) l0_0 a0_1 a0_2 t191 t192 t193 t196 t197 t209 t212 t213) else (laws_FnExactSendNext.j1 kj11 a1 t198 true l0_0 a0_1 a0_2 t191 t192 t193 t196 t197 t209 t212 t213))) else (laws_FnExactSendNext.j1 kj11 a1 t198 true l0_0 a0_1 a0_2 t191 t192 t193 t196 t197 t209 t212 t213))))) else (some false)))) = some r := by rw [if_neg (show ¬ (false = true) by decide)] at H; exact H
          clear H
          have H := H1
          clear H1
          replace H := Option.bind_eq_some_iff.mp H
          obtain ⟨⟨t219, t222, t223⟩, A1080, H⟩ := H
          replace H : ((laws_eqSender.f kj11 t201 t204 t205 t219 t222 t223).bind fun t224 => (if t224 = true then ((laws_markSender.f kj11 t201 t204 t205 1).bind fun bt225 => (if bt225.1 < 0 then (laws_FnExactSendNext.j1 kj11 a1 t198 true l0_0 a0_1 a0_2 t191 t192 t193 t196 t197 t209 t212 t213) else ((laws_eqParcel.f t207 t208 t191 t192).bind fun t227 => (if t227 = true then ((laws_eqSender.f kj11 t209 t212 t213 t193 t196 t197).bind fun t228 => (if t228 = true then (laws_FnExactSendNext.j1 kj11 a1 t198 (t214 != t198) l0_0 a0_1 a0_2 t191 t192 t193 t196 t197 t209 t212 t213) else (laws_FnExactSendNext.j1 kj11 a1 t198 true l0_0 a0_1 a0_2 t191 t192 t193 t196 t197 t209 t212 t213))) else (laws_FnExactSendNext.j1 kj11 a1 t198 true l0_0 a0_1 a0_2 t191 t192 t193 t196 t197 t209 t212 t213))))) else (some false))) = some r := H
          have A108 := Aside0.mk A1080
          clear A1080
          replace H := Option.bind_eq_some_iff.mp H
          obtain ⟨t224, A1090, H⟩ := H
          replace H : (if t224 = true then ((laws_markSender.f kj11 t201 t204 t205 1).bind fun bt225 => (if bt225.1 < 0 then (laws_FnExactSendNext.j1 kj11 a1 t198 true l0_0 a0_1 a0_2 t191 t192 t193 t196 t197 t209 t212 t213) else ((laws_eqParcel.f t207 t208 t191 t192).bind fun t227 => (if t227 = true then ((laws_eqSender.f kj11 t209 t212 t213 t193 t196 t197).bind fun t228 => (if t228 = true then (laws_FnExactSendNext.j1 kj11 a1 t198 (t214 != t198) l0_0 a0_1 a0_2 t191 t192 t193 t196 t197 t209 t212 t213) else (laws_FnExactSendNext.j1 kj11 a1 t198 true l0_0 a0_1 a0_2 t191 t192 t193 t196 t197 t209 t212 t213))) else (laws_FnExactSendNext.j1 kj11 a1 t198 true l0_0 a0_1 a0_2 t191 t192 t193 t196 t197 t209 t212 t213))))) else (some false)) = some r := H
          have A109 := Aside0.mk A1090
          clear A1090
          by_cases c110 : t224 = true
          · subst c110
            have H1 : ((laws_markSender.f kj11 t201 t204 t205 1).bind fun bt225 => (if bt225.1 < 0 then (laws_FnExactSendNext.j1 kj11 a1 t198 true l0_0 a0_1 a0_2 t191 t192 t193 t196 t197 t209 t212 t213) else ((laws_eqParcel.f t207 t208 t191 t192).bind fun t227 => (if t227 = true then ((laws_eqSender.f kj11 t209 t212 t213 t193 t196 t197).bind fun t228 => (if t228 = true then (laws_FnExactSendNext.j1 kj11 a1 t198 (t214 != t198) l0_0 a0_1 a0_2 t191 t192 t193 t196 t197 t209 t212 t213) else (laws_FnExactSendNext.j1 kj11 a1 t198 true l0_0 a0_1 a0_2 t191 t192 t193 t196 t197 t209 t212 t213))) else (laws_FnExactSendNext.j1 kj11 a1 t198 true l0_0 a0_1 a0_2 t191 t192 t193 t196 t197 t209 t212 t213))))) = some r := by rw [if_pos rfl] at H; exact H
            clear H
            have H := H1
            clear H1
            replace H := Option.bind_eq_some_iff.mp H
            obtain ⟨⟨t225, t226⟩, A1110, H⟩ := H
            replace H : (if t225 < 0 then (laws_FnExactSendNext.j1 kj11 a1 t198 true l0_0 a0_1 a0_2 t191 t192 t193 t196 t197 t209 t212 t213) else ((laws_eqParcel.f t207 t208 t191 t192).bind fun t227 => (if t227 = true then ((laws_eqSender.f kj11 t209 t212 t213 t193 t196 t197).bind fun t228 => (if t228 = true then (laws_FnExactSendNext.j1 kj11 a1 t198 (t214 != t198) l0_0 a0_1 a0_2 t191 t192 t193 t196 t197 t209 t212 t213) else (laws_FnExactSendNext.j1 kj11 a1 t198 true l0_0 a0_1 a0_2 t191 t192 t193 t196 t197 t209 t212 t213))) else (laws_FnExactSendNext.j1 kj11 a1 t198 true l0_0 a0_1 a0_2 t191 t192 t193 t196 t197 t209 t212 t213)))) = some r := H
            have A111 := Aside0.mk A1110
            clear A1110
            have HC112 := Aside0.mk H
            clear H
            try go_wp2
            have n0_ := Aside0.mk (Kd.R_drew HO_201000.out)
            have n1_ := Aside0.mk (Kd.R_drew HO_207000.out)
            have n2_ := Aside0.mk (Kd.R_drew HO_217000.out)
            have n3_ := Aside0.mk (blk_drew BK184.out)
            have n4_ := Aside0.mk (blk_drew BK199.out)
            have n5_ := Aside0.mk (blk_drew BK200.out)
            have n6_ := Aside0.mk (blk_drew BK206.out)
            have n7_ := Aside0.mk (blk_drew BK215.out)
            have n8_ := Aside0.mk (blk_drew BK216.out)
            have n9_ := Aside0.mk (below_drew1 HB.out)
            clear HO_201000
            clear HO_207000
            clear HO_217000
            clear BK184
            clear BK199
            clear BK200
            clear BK206
            clear BK215
            clear BK216
            clear HB
            have HO_201000 := n0_
            have HO_207000 := n1_
            have HO_217000 := n2_
            have BK184 := n3_
            have BK199 := n4_
            have BK200 := n5_
            have BK206 := n6_
            have BK215 := n7_
            have BK216 := n8_
            have HB := n9_
            clear n0_ n1_ n2_ n3_ n4_ n5_ n6_ n7_ n8_ n9_
            refine start_ (n := 5) (S := fun w' => w'.cell? ⟨gb206, 0, none⟩ = some (.slice Ao31 t201.length co31) ∧ w'.cell? ⟨gb206, 1, none⟩ = some (.int .i64 t204) ∧ w'.cell? ⟨gb206, 2, none⟩ = some (.int .i64 t205) ∧ w'.cell? ⟨gb184, 0, none⟩ = some (.slice A0_0 l0_0.length c0_0) ∧ w'.cell? ⟨gb184, 1, none⟩ = some (.int .i64 a0_1) ∧ w'.cell? ⟨gb184, 2, none⟩ = some (.int .i64 a0_2)) (ds := []) #[false, false, false, false, false] (by kernel_rfl) rfl rfl ⟨(blk_cell BK206.out 0).trans rfl, (blk_cell BK206.out 1).trans rfl, (blk_cell BK206.out 2).trans rfl, (blk_cell BK184.out 0).trans rfl, (blk_cell BK184.out 1).trans rfl, (blk_cell BK184.out 2).trans rfl⟩ (fun hHeld => ?_)
            generalize wc.drew = w113 at HO_201000 HO_207000 HO_217000 BK184 BK199 BK200 BK206 BK215 BK216 HB hHeld ⊢
            refine take_ (i := 0) (N := some 56) (v := ?_) (a' := ?_) #[true, false, false, false, false] rfl rfl (by kernel_rfl) (fun _ _ _ h => h) (Or.inl ⟨by rfl, ?_⟩) hHeld ?_ ?_
            rotate_left
            · rintro w' ⟨s0, s1, s2, s3, s4, s5⟩
              go_simp
              with_reducible rfl
            rotate_left
            · simp only [Act.put, List.setIfInBounds_toArray, List.set_cons_zero, List.set_cons_succ, i64_w, i32_w]
              rfl
            refine take_ (i := 1) (N := some 57) (v := ?_) (a' := ?_) #[true, true, false, false, false] rfl rfl (by kernel_rfl) (fun _ _ _ h => h) (Or.inl ⟨by rfl, ?_⟩) hHeld ?_ ?_
            rotate_left
            · rintro w' ⟨s0, s1, s2, s3, s4, s5⟩
              go_simp
              with_reducible rfl
            rotate_left
            · simp only [Act.put, List.setIfInBounds_toArray, List.set_cons_zero, List.set_cons_succ, i64_w, i32_w]
              rfl
            refine one_ (i := 2) (N := some 58) #[true, true, true, false, false] rfl rfl (by kernel_rfl) (by decide) (fun K hK => ?_)
            refine goes_ Try.func31 (by kernel_rfl) rfl #[.agg #[.slice A0_0 l0_0.length c0_0, .int .i64 a0_1, .int .i64 a0_2]] (by rfl) rfl rfl (by (try simp only [List.map_toArray, List.map_cons, List.map_nil]); first | done | rfl | (simp only [List.length_drop, List.length_take]; rfl)) ?_
            with_reducible refine (laws_toSender.calls kj11 _ _ l0_0 a0_1 a0_2 t219 t222 t223 _ ?side1 ?side2 A108.out).mono ?_
            (case side1 => repeat (first | exact (Kd.C_below HR0_0.out HB.out) | (with_reducible refine Kd.C_alloc ?_ _) | (with_reducible refine Kd.C_drewN ?_ _) | (with_reducible refine Kd.C_drew ?_)))
            (case side2 => exact HC0_0.out)
            rintro e w114 ⟨v220, rfl, ho0, hb⟩
            refine ⟨_, rfl, ?_⟩
            have n0_ := Aside0.mk (Kd.R_elder' HO_201000.out (Kd.R_base ho0) hb)
            have n1_ := Aside0.mk (Kd.R_elder' HO_207000.out (Kd.R_base ho0) hb)
            have n2_ := Aside0.mk (Kd.R_elder' HO_217000.out (Kd.R_base ho0) hb)
            have n3_ := Aside0.mk (Kd.R_lower (Kd.R_new' (Kd.R_new' (Kd.R_new' ho0 (Kd.R_lt HO_201000.out)) (Kd.R_lt HO_207000.out)) (Kd.R_lt HO_217000.out)) (below_size (by repeat (first | (with_reducible first | exact HB.out | apply below_alloc | apply pw_below_drewN | apply below_drew1 | refine below_set ?_ GE184.out | refine below_set ?_ GE199.out | refine below_set ?_ GE200.out | refine below_set ?_ GE206.out | refine below_set ?_ GE215.out | refine below_set ?_ GE216.out) | exact HB.out))))
            have n4_ := Aside0.mk (blk_below (g := gb184) (o := .cells #[.slice A0_0 l0_0.length c0_0, .int .i64 a0_1, .int .i64 a0_2] 51 (0, 0)) BK184.out hb)
            have n5_ := Aside0.mk (blk_below (g := gb199) (o := .cells #[.int .i64 t191, .int .i64 t192] 54 (0, 0)) BK199.out hb)
            have n6_ := Aside0.mk (blk_below (g := gb200) (o := .cells #[.slice Ao25 t193.length co25, .int .i64 t196, .int .i64 t197] 55 (0, 0)) BK200.out hb)
            have n7_ := Aside0.mk (blk_below (g := gb206) (o := .cells #[.slice Ao31 t201.length co31, .int .i64 t204, .int .i64 t205] 55 (0, 0)) BK206.out hb)
            have n8_ := Aside0.mk (blk_below (g := gb215) (o := .cells #[.int .i64 t207, .int .i64 t208] 54 (0, 0)) BK215.out hb)
            have n9_ := Aside0.mk (blk_below (g := gb216) (o := .cells #[.slice Ao45 t209.length co45, .int .i64 t212, .int .i64 t213] 55 (0, 0)) BK216.out hb)
            have n10_ := Aside0.mk (below_step (by repeat (first | (with_reducible first | exact HB.out | apply below_alloc | apply pw_below_drewN | apply below_drew1 | refine below_set ?_ GE184.out | refine below_set ?_ GE199.out | refine below_set ?_ GE200.out | refine below_set ?_ GE206.out | refine below_set ?_ GE215.out | refine below_set ?_ GE216.out) | exact HB.out)) hb)
            clear HO_201000
            clear HO_207000
            clear HO_217000
            clear BK184
            clear BK199
            clear BK200
            clear BK206
            clear BK215
            clear BK216
            clear HB
            have HO_201000 := n0_
            have HO_207000 := n1_
            have HO_217000 := n2_
            have HO221 := n3_
            have BK184 := n4_
            have BK199 := n5_
            have BK200 := n6_
            have BK206 := n7_
            have BK215 := n8_
            have BK216 := n9_
            have HB := n10_
            clear n0_ n1_ n2_ n3_ n4_ n5_ n6_ n7_ n8_ n9_ n10_
            (try clear hb)
            (try clear hb2)
            (try clear hk)
            (try clear hi)
            (try clear ho0)
            obtain ⟨Ao115, co115, eo115⟩ := Kd.R_slice HO221.out
            (first | subst eo115 | (injection eo115 with f1_ f2_ f3_; have f4_ := f1_.symm; have f5_ := f3_.symm; clear f1_ f2_ f3_; subst f4_; subst f5_))
            refine hK.out _ _ ⟨(blk_cell BK206.out 0).trans rfl, (blk_cell BK206.out 1).trans rfl, (blk_cell BK206.out 2).trans rfl, (blk_cell BK184.out 0).trans rfl, (blk_cell BK184.out 1).trans rfl, (blk_cell BK184.out 2).trans rfl⟩ (fun hHeld => ?_)
            clear hK K
            refine norm_ (a' := ?_) ?_ ?_
            rotate_left
            · show Act.put _ (some 58) _ = _
              simp only [Act.put, List.setIfInBounds_toArray, List.set_cons_zero, List.set_cons_succ, i64_w, i32_w]
              rfl
            refine one_ (i := 3) (N := some 59) #[true, true, true, true, false] rfl rfl (by kernel_rfl) (by decide) (fun K hK => ?_)
            refine goes_ Try.func34 (by kernel_rfl) rfl #[.agg #[.slice Ao31 t201.length co31, .int .i64 t204, .int .i64 t205], .agg #[.slice Ao115 t219.length co115, .int .i64 t222, .int .i64 t223]] (by rfl) rfl rfl (by (try simp only [List.map_toArray, List.map_cons, List.map_nil]); first | done | rfl | (simp only [List.length_drop, List.length_take]; rfl)) ?_
            with_reducible refine (laws_eqSender.calls kj11 _ _ t201 t204 t205 _ _ t219 t222 t223 true _ ?side1 ?side2 ?side3 ?side4 A109.out).mono ?_
            (case side1 => repeat (first | exact (Kd.R_reads' HO_207000.out).2.2 | (with_reducible refine Kd.C_alloc ?_ _) | (with_reducible refine Kd.C_drewN ?_ _) | (with_reducible refine Kd.C_drew ?_)))
            (case side2 => exact (Kd.R_reads' HO_207000.out).2.1)
            (case side3 => repeat (first | exact (Kd.R_reads' HO221.out).2.2 | (with_reducible refine Kd.C_alloc ?_ _) | (with_reducible refine Kd.C_drewN ?_ _) | (with_reducible refine Kd.C_drew ?_)))
            (case side4 => exact (Kd.R_reads' HO221.out).2.1)
            rintro e w116 ⟨rfl, hb⟩
            refine ⟨_, rfl, ?_⟩
            have n0_ := Aside0.mk (Kd.R_below HO_201000.out hb)
            have n1_ := Aside0.mk (Kd.R_below HO_207000.out hb)
            have n2_ := Aside0.mk (Kd.R_below HO_217000.out hb)
            have n3_ := Aside0.mk (Kd.R_below HO221.out hb)
            have n4_ := Aside0.mk (blk_below (g := gb184) (o := .cells #[.slice A0_0 l0_0.length c0_0, .int .i64 a0_1, .int .i64 a0_2] 51 (0, 0)) BK184.out hb)
            have n5_ := Aside0.mk (blk_below (g := gb199) (o := .cells #[.int .i64 t191, .int .i64 t192] 54 (0, 0)) BK199.out hb)
            have n6_ := Aside0.mk (blk_below (g := gb200) (o := .cells #[.slice Ao25 t193.length co25, .int .i64 t196, .int .i64 t197] 55 (0, 0)) BK200.out hb)
            have n7_ := Aside0.mk (blk_below (g := gb206) (o := .cells #[.slice Ao31 t201.length co31, .int .i64 t204, .int .i64 t205] 55 (0, 0)) BK206.out hb)
            have n8_ := Aside0.mk (blk_below (g := gb215) (o := .cells #[.int .i64 t207, .int .i64 t208] 54 (0, 0)) BK215.out hb)
            have n9_ := Aside0.mk (blk_below (g := gb216) (o := .cells #[.slice Ao45 t209.length co45, .int .i64 t212, .int .i64 t213] 55 (0, 0)) BK216.out hb)
            have n10_ := Aside0.mk (below_step (by repeat (first | (with_reducible first | exact HB.out | apply below_alloc | apply pw_below_drewN | apply below_drew1 | refine below_set ?_ GE184.out | refine below_set ?_ GE199.out | refine below_set ?_ GE200.out | refine below_set ?_ GE206.out | refine below_set ?_ GE215.out | refine below_set ?_ GE216.out) | exact HB.out)) hb)
            clear HO_201000
            clear HO_207000
            clear HO_217000
            clear HO221
            clear BK184
            clear BK199
            clear BK200
            clear BK206
            clear BK215
            clear BK216
            clear HB
            have HO_201000 := n0_
            have HO_207000 := n1_
            have HO_217000 := n2_
            have HO221 := n3_
            have BK184 := n4_
            have BK199 := n5_
            have BK200 := n6_
            have BK206 := n7_
            have BK215 := n8_
            have BK216 := n9_
            have HB := n10_
            clear n0_ n1_ n2_ n3_ n4_ n5_ n6_ n7_ n8_ n9_ n10_
            (try clear hb)
            (try clear hb2)
            (try clear hk)
            (try clear hi)
            refine hK.out _ _ ⟨(blk_cell BK206.out 0).trans rfl, (blk_cell BK206.out 1).trans rfl, (blk_cell BK206.out 2).trans rfl, (blk_cell BK184.out 0).trans rfl, (blk_cell BK184.out 1).trans rfl, (blk_cell BK184.out 2).trans rfl⟩ (fun hHeld => ?_)
            clear hK K
            refine norm_ (a' := ?_) ?_ ?_
            rotate_left
            · show Act.put _ (some 59) _ = _
              simp only [Act.put, List.setIfInBounds_toArray, List.set_cons_zero, List.set_cons_succ, i64_w, i32_w]
              rfl
            refine pure_ (i := 4) (N := some 60) (v := ?_) (a' := ?_) #[true, true, true, true, true] rfl rfl (by kernel_rfl) (fun _ _ _ h => h) (Or.inl ⟨by rfl, ?_⟩) ?_ ?_
            rotate_left
            · intro w'
              go_simp
              with_reducible rfl
            rotate_left
            · simp only [Act.put, List.setIfInBounds_toArray, List.set_cons_zero, List.set_cons_succ, i64_w, i32_w]
              rfl
            refine done_ (by kernel_rfl) ?_
            have hnb117 := NB206_184.out
            have hnc117 := NB184_206.out
            have hnb118 := NB206_199.out
            have hnc118 := NB199_206.out
            have hnb119 := NB206_200.out
            have hnc119 := NB200_206.out
            have hnb120 := NB206_215.out
            have hnc120 := NB215_206.out
            have hnb121 := NB206_216.out
            have hnc121 := NB216_206.out
            have hcz122_0 : w116.cell? ⟨gb206, 0, none⟩ = some (.slice Ao31 t201.length co31) := (blk_cell BK206.out 0).trans rfl
            have hcz122_1 : w116.cell? ⟨gb206, 1, none⟩ = some (.int .i64 t204) := (blk_cell BK206.out 1).trans rfl
            have hcz122_2 : w116.cell? ⟨gb206, 2, none⟩ = some (.int .i64 t205) := (blk_cell BK206.out 2).trans rfl
            have hfz122_0 := blk_frozen BK206.out 0
            have hfz122_1 := blk_frozen BK206.out 1
            have hfz122_2 := blk_frozen BK206.out 2
            go_upto_region 14 with (first | ((with_reducible refine gate_callee (f := 35) rfl ?_); refine goesL_ (some 63) rfl rfl Try.func35 (by kernel_rfl) rfl #[.agg #[.slice Ao31 t201.length co31, .int .i64 t204, .int .i64 t205], .int .i64 1] rfl (by (try simp only [List.map_toArray, List.map_cons, List.map_nil]); first | done | rfl | (simp only [List.length_drop, List.length_take]; rfl)) ?_; (with_reducible refine (laws_markSender.calls kj11 (fun k_ => some k_ = (.slice Ao31 t201.length co31 : Value).ownBlock) (.slice Ao31 t201.length co31) t201 t204 t205 1 t225 t226 w _ ?side1 ?side2 A111.out).mono ?_); (case side1 => repeat (first | (with_reducible first | exact HB.out | apply below_alloc | apply pw_below_drewN | apply below_drew1 | refine below_set ?_ GE184.out | refine below_set ?_ GE199.out | refine below_set ?_ GE200.out | refine below_set ?_ GE206.out | refine below_set ?_ GE215.out | refine below_set ?_ GE216.out) | exact HB.out)); (case side2 => exact Kd.R_tight rfl HO_207000.out); rintro e w123 ⟨rfl, hy0, hb, hkp⟩; refine ⟨_, rfl, ?_⟩; have n0_ := Aside0.mk (Kd.R_mono (ok' := fun k_ => some k_ ≠ (.slice Ao31 t201.length co31 : Value).ownBlock ∧ some k_ ≠ (.slice Ao45 t209.length co45 : Value).ownBlock ∧ some k_ ≠ (.slice Ao115 t219.length co115 : Value).ownBlock) (Kd.R_keptB (HO_201000.out) hkp (fun k_ hk_ hs_ => (hk_.1.1) hs_)) (fun k_ hk_ => ⟨hk_.1.1.1, hk_.1.1.2, hk_.1.2⟩)); have n1_ := Aside0.mk (Kd.R_reok rfl hy0 (fun k_ e_ => HO_207000.out.1 k_ e_)); have n2_ := Aside0.mk (Kd.R_mono (ok' := fun k_ => some k_ ≠ (.slice Ao25 t193.length co25 : Value).ownBlock ∧ some k_ ≠ (.slice Ao31 t201.length co31 : Value).ownBlock ∧ some k_ ≠ (.slice Ao115 t219.length co115 : Value).ownBlock) (Kd.R_keptB (HO_217000.out) hkp (fun k_ hk_ hs_ => (hk_.1.2) hs_)) (fun k_ hk_ => ⟨hk_.1.1.1, hk_.1.1.2, hk_.1.2⟩)); have n3_ := Aside0.mk (blk_kept BK184.out hkp (fun hs_ => (fun e_ => (Kd.R_ne HO_207000.out BK184.out (by decide)) e_) hs_)); have n4_ := Aside0.mk (blk_kept BK199.out hkp (fun hs_ => (fun e_ => (Kd.R_ne HO_207000.out BK199.out (by decide)) e_) hs_)); have n5_ := Aside0.mk (blk_kept BK200.out hkp (fun hs_ => (fun e_ => (Kd.R_ne HO_207000.out BK200.out (by decide)) e_) hs_)); have n6_ := Aside0.mk (blk_kept BK206.out hkp (fun hs_ => (fun e_ => (Kd.R_ne HO_207000.out BK206.out (by decide)) e_) hs_)); have n7_ := Aside0.mk (blk_kept BK215.out hkp (fun hs_ => (fun e_ => (Kd.R_ne HO_207000.out BK215.out (by decide)) e_) hs_)); have n8_ := Aside0.mk (blk_kept BK216.out hkp (fun hs_ => (fun e_ => (Kd.R_ne HO_207000.out BK216.out (by decide)) e_) hs_)); have n9_ := Aside0.mk (Kd.R_mono (ok' := fun k_ => some k_ ≠ (.slice Ao25 t193.length co25 : Value).ownBlock ∧ some k_ ≠ (.slice Ao31 t201.length co31 : Value).ownBlock ∧ some k_ ≠ (.slice Ao45 t209.length co45 : Value).ownBlock) (Kd.R_keptB (HO221.out) hkp (fun k_ hk_ hs_ => (hk_.1.2) hs_)) (fun k_ hk_ => ⟨hk_.1.1.1.2, hk_.1.1.2, hk_.1.2⟩)); have n10_ := Aside0.mk (hb); clear HO_201000; clear HO_207000; clear HO_217000; clear BK184; clear BK199; clear BK200; clear BK206; clear BK215; clear BK216; clear HO221; clear HB; have HO_201000 := n0_; have HO_207000 := n1_; have HO_217000 := n2_; have BK184 := n3_; have BK199 := n4_; have BK200 := n5_; have BK206 := n6_; have BK215 := n7_; have BK216 := n8_; have HO221 := n9_; have HB := n10_; clear n0_ n1_ n2_ n3_ n4_ n5_ n6_ n7_ n8_ n9_ n10_; (try clear hb); (try clear hkp); (try clear hy0)))
            (try simp only [Act.put, List.setIfInBounds_toArray, List.set_cons_zero, List.set_cons_succ])
            go_cut [82] (fun v82 wc => ∃ (kq : Nat) (x82_111 : Bool), v82 = .bool x82_111 ∧ Aside0 (laws_FnExactSendNext.j1 kq a1 t198 x82_111 l0_0 a0_1 a0_2 t191 t192 t193 t196 t197 t209 t212 t213 = some r) ∧ Aside0 (kq ≤ kj11) ∧ Aside0 (Kd.R (Kd.int .i64) 3 wc w.heap.size (fun k_ => some k_ ≠ ((.slice Ao31 t201.length co31) : Value).ownBlock ∧ some k_ ≠ ((.slice Ao45 t209.length co45) : Value).ownBlock) (.slice Ao25 t193.length co25) t193) ∧ Aside0 (Kd.R (Kd.int .i64) 3 wc w.heap.size (fun k_ => some k_ ≠ ((.slice Ao25 t193.length co25) : Value).ownBlock ∧ some k_ ≠ ((.slice Ao45 t209.length co45) : Value).ownBlock) (.slice Ao31 t201.length co31) t226) ∧ Aside0 (Kd.R (Kd.int .i64) 3 wc w.heap.size (fun k_ => some k_ ≠ ((.slice Ao25 t193.length co25) : Value).ownBlock ∧ some k_ ≠ ((.slice Ao31 t201.length co31) : Value).ownBlock) (.slice Ao45 t209.length co45) t209) ∧ Aside0 (wc.heap[gb184]? = some (.cells #[(.slice A0_0 l0_0.length c0_0), .int .i64 a0_1, .int .i64 a0_2] 51 (0, 0))) ∧ Aside0 (wc.heap[gb199]? = some (.cells #[.int .i64 t191, .int .i64 t192] 54 (0, 0))) ∧ Aside0 (wc.heap[gb200]? = some (.cells #[(.slice Ao25 t193.length co25), .int .i64 t196, .int .i64 t197] 55 (0, 0))) ∧ Aside0 (wc.heap[gb206]? = some (.cells #[(.slice Ao31 t201.length co31), .int .i64 t204, .int .i64 t205] 55 (0, 0))) ∧ Aside0 (wc.heap[gb215]? = some (.cells #[.int .i64 t207, .int .i64 t208] 54 (0, 0))) ∧ Aside0 (wc.heap[gb216]? = some (.cells #[(.slice Ao45 t209.length co45), .int .i64 t212, .int .i64 t213] 55 (0, 0))) ∧ Aside0 (Below w.heap.size w wc))
            case first =>
              have H := HC112.out
              clear HC112
              by_cases c124 : t225 < 0
              · rw [if_pos c124] at H
                have c124b0 : decide (t225 < 0) = true := decide_eq_true c124
                clear c124
                (first | rw [c124b0] | (simp only [i64_w, i32_w]; rw [c124b0]) | skip)
                have H' := Aside0.mk H
                clear H
                go_wp2
                go_meet
                case rel => exact ⟨_, (true), (by first | rfl | (simp; done) | (simp [*]; done)), H', ⟨by have := HJ11.out; first | omega | exact Nat.le_refl _⟩, ⟨by exact Kd.R_mono HO_201000.out (fun _ hk => ⟨hk.1, hk.2.1⟩)⟩, ⟨by exact Kd.R_mono HO_207000.out (fun _ hk => ⟨hk.1.1, hk.1.2⟩)⟩, ⟨by exact Kd.R_mono HO_217000.out (fun _ hk => ⟨hk.1, hk.2.1⟩)⟩, ⟨by exact BK184.out⟩, ⟨by exact BK199.out⟩, ⟨by exact BK200.out⟩, ⟨by exact BK206.out⟩, ⟨by exact BK215.out⟩, ⟨by exact BK216.out⟩, ⟨by repeat (first | (with_reducible first | exact HB.out | apply below_alloc | apply pw_below_drewN | apply below_drew1 | refine below_set ?_ GE184.out | refine below_set ?_ GE199.out | refine below_set ?_ GE200.out | refine below_set ?_ GE206.out | refine below_set ?_ GE215.out | refine below_set ?_ GE216.out) | exact HB.out)⟩⟩
              · rw [if_neg c124] at H
                have c124b0 : decide (t225 < 0) = false := decide_eq_false c124
                clear c124
                (first | rw [c124b0] | (simp only [i64_w, i32_w]; rw [c124b0]) | skip)
                replace H := Option.bind_eq_some_iff.mp H
                obtain ⟨t227, A1250, H⟩ := H
                replace H : (if t227 = true then ((laws_eqSender.f kj11 t209 t212 t213 t193 t196 t197).bind fun t228 => (if t228 = true then (laws_FnExactSendNext.j1 kj11 a1 t198 (t214 != t198) l0_0 a0_1 a0_2 t191 t192 t193 t196 t197 t209 t212 t213) else (laws_FnExactSendNext.j1 kj11 a1 t198 true l0_0 a0_1 a0_2 t191 t192 t193 t196 t197 t209 t212 t213))) else (laws_FnExactSendNext.j1 kj11 a1 t198 true l0_0 a0_1 a0_2 t191 t192 t193 t196 t197 t209 t212 t213)) = some r := H
                have A125 := Aside0.mk A1250
                clear A1250
                by_cases c126 : t227 = true
                · subst c126
                  have H1 : ((laws_eqSender.f kj11 t209 t212 t213 t193 t196 t197).bind fun t228 => (if t228 = true then (laws_FnExactSendNext.j1 kj11 a1 t198 (t214 != t198) l0_0 a0_1 a0_2 t191 t192 t193 t196 t197 t209 t212 t213) else (laws_FnExactSendNext.j1 kj11 a1 t198 true l0_0 a0_1 a0_2 t191 t192 t193 t196 t197 t209 t212 t213))) = some r := by rw [if_pos rfl] at H; exact H
                  clear H
                  have H := H1
                  clear H1
                  replace H := Option.bind_eq_some_iff.mp H
                  obtain ⟨t228, A1270, H⟩ := H
                  replace H : (if t228 = true then (laws_FnExactSendNext.j1 kj11 a1 t198 (t214 != t198) l0_0 a0_1 a0_2 t191 t192 t193 t196 t197 t209 t212 t213) else (laws_FnExactSendNext.j1 kj11 a1 t198 true l0_0 a0_1 a0_2 t191 t192 t193 t196 t197 t209 t212 t213)) = some r := H
                  have A127 := Aside0.mk A1270
                  clear A1270
                  by_cases c128 : t228 = true
                  · subst c128
                    have H1 : (laws_FnExactSendNext.j1 kj11 a1 t198 (t214 != t198) l0_0 a0_1 a0_2 t191 t192 t193 t196 t197 t209 t212 t213) = some r := by rw [if_pos rfl] at H; exact H
                    clear H
                    have H := H1
                    clear H1
                    have H' := Aside0.mk H
                    clear H
                    have hnb129 := NB215_184.out
                    have hnc129 := NB184_215.out
                    have hnb130 := NB215_199.out
                    have hnc130 := NB199_215.out
                    have hnb131 := NB215_200.out
                    have hnc131 := NB200_215.out
                    have hnb132 := NB215_206.out
                    have hnc132 := NB206_215.out
                    have hnb133 := NB215_216.out
                    have hnc133 := NB216_215.out
                    have hcz134_0 : w123.cell? ⟨gb215, 0, none⟩ = some (.int .i64 t207) := (blk_cell BK215.out 0).trans rfl
                    have hcz134_1 : w123.cell? ⟨gb215, 1, none⟩ = some (.int .i64 t208) := (blk_cell BK215.out 1).trans rfl
                    have hfz134_0 := blk_frozen BK215.out 0
                    have hfz134_1 := blk_frozen BK215.out 1
                    have hnb135 := NB199_184.out
                    have hnc135 := NB184_199.out
                    have hnb136 := NB199_200.out
                    have hnc136 := NB200_199.out
                    have hnb137 := NB199_206.out
                    have hnc137 := NB206_199.out
                    have hnb138 := NB199_216.out
                    have hnc138 := NB216_199.out
                    have hcz139_0 : w123.cell? ⟨gb199, 0, none⟩ = some (.int .i64 t191) := (blk_cell BK199.out 0).trans rfl
                    have hcz139_1 : w123.cell? ⟨gb199, 1, none⟩ = some (.int .i64 t192) := (blk_cell BK199.out 1).trans rfl
                    have hfz139_0 := blk_frozen BK199.out 0
                    have hfz139_1 := blk_frozen BK199.out 1
                    go_wp2_with (first | (go_at_call 33; (with_reducible refine (laws_eqParcel.calls t207 t208 t191 t192 true _ A125.out).mono ?_); rintro e w140 ⟨rfl, hb⟩; have n0_ := Aside0.mk (Kd.R_below HO_201000.out hb); have n1_ := Aside0.mk (Kd.R_below HO_207000.out hb); have n2_ := Aside0.mk (Kd.R_below HO_217000.out hb); have n3_ := Aside0.mk (Kd.R_below HO221.out hb); have n4_ := Aside0.mk (blk_below (g := gb184) (o := .cells #[.slice A0_0 l0_0.length c0_0, .int .i64 a0_1, .int .i64 a0_2] 51 (0, 0)) BK184.out hb); have n5_ := Aside0.mk (blk_below (g := gb199) (o := .cells #[.int .i64 t191, .int .i64 t192] 54 (0, 0)) BK199.out hb); have n6_ := Aside0.mk (blk_below (g := gb200) (o := .cells #[.slice Ao25 t193.length co25, .int .i64 t196, .int .i64 t197] 55 (0, 0)) BK200.out hb); have n7_ := Aside0.mk (blk_below (g := gb206) (o := .cells #[.slice Ao31 t201.length co31, .int .i64 t204, .int .i64 t205] 55 (0, 0)) BK206.out hb); have n8_ := Aside0.mk (blk_below (g := gb215) (o := .cells #[.int .i64 t207, .int .i64 t208] 54 (0, 0)) BK215.out hb); have n9_ := Aside0.mk (blk_below (g := gb216) (o := .cells #[.slice Ao45 t209.length co45, .int .i64 t212, .int .i64 t213] 55 (0, 0)) BK216.out hb); have n10_ := Aside0.mk (below_step (by repeat (first | (with_reducible first | exact HB.out | apply below_alloc | apply pw_below_drewN | apply below_drew1 | refine below_set ?_ GE184.out | refine below_set ?_ GE199.out | refine below_set ?_ GE200.out | refine below_set ?_ GE206.out | refine below_set ?_ GE215.out | refine below_set ?_ GE216.out) | exact HB.out)) hb); clear HO_201000; clear HO_207000; clear HO_217000; clear HO221; clear BK184; clear BK199; clear BK200; clear BK206; clear BK215; clear BK216; clear HB; have HO_201000 := n0_; have HO_207000 := n1_; have HO_217000 := n2_; have HO221 := n3_; have BK184 := n4_; have BK199 := n5_; have BK200 := n6_; have BK206 := n7_; have BK215 := n8_; have BK216 := n9_; have HB := n10_; clear n0_ n1_ n2_ n3_ n4_ n5_ n6_ n7_ n8_ n9_ n10_; (try clear hb); (try clear hb2); (try clear hk); (try clear hi); have hnb141 := NB216_184.out; have hnc141 := NB184_216.out; have hnb142 := NB216_200.out; have hnc142 := NB200_216.out; have hnb143 := NB216_206.out; have hnc143 := NB206_216.out; have hcz144_0 : w140.cell? ⟨gb216, 0, none⟩ = some (.slice Ao45 t209.length co45) := (blk_cell BK216.out 0).trans rfl; have hcz144_1 : w140.cell? ⟨gb216, 1, none⟩ = some (.int .i64 t212) := (blk_cell BK216.out 1).trans rfl; have hcz144_2 : w140.cell? ⟨gb216, 2, none⟩ = some (.int .i64 t213) := (blk_cell BK216.out 2).trans rfl; have hfz144_0 := blk_frozen BK216.out 0; have hfz144_1 := blk_frozen BK216.out 1; have hfz144_2 := blk_frozen BK216.out 2; have hnb145 := NB200_184.out; have hnc145 := NB184_200.out; have hnb146 := NB200_206.out; have hnc146 := NB206_200.out; have hcz147_0 : w140.cell? ⟨gb200, 0, none⟩ = some (.slice Ao25 t193.length co25) := (blk_cell BK200.out 0).trans rfl; have hcz147_1 : w140.cell? ⟨gb200, 1, none⟩ = some (.int .i64 t196) := (blk_cell BK200.out 1).trans rfl; have hcz147_2 : w140.cell? ⟨gb200, 2, none⟩ = some (.int .i64 t197) := (blk_cell BK200.out 2).trans rfl; have hfz147_0 := blk_frozen BK200.out 0; have hfz147_1 := blk_frozen BK200.out 1; have hfz147_2 := blk_frozen BK200.out 2) | (go_at_call 34; (with_reducible refine (laws_eqSender.calls kj11 _ _ t209 t212 t213 _ _ t193 t196 t197 true _ ?side1 ?side2 ?side3 ?side4 A127.out).mono ?_); (case side1 => repeat (first | exact (Kd.R_reads' HO_217000.out).2.2 | (with_reducible refine Kd.C_alloc ?_ _) | (with_reducible refine Kd.C_drewN ?_ _) | (with_reducible refine Kd.C_drew ?_))); (case side2 => exact (Kd.R_reads' HO_217000.out).2.1); (case side3 => repeat (first | exact (Kd.R_reads' HO_201000.out).2.2 | (with_reducible refine Kd.C_alloc ?_ _) | (with_reducible refine Kd.C_drewN ?_ _) | (with_reducible refine Kd.C_drew ?_))); (case side4 => exact (Kd.R_reads' HO_201000.out).2.1); rintro e w148 ⟨rfl, hb⟩; have n0_ := Aside0.mk (Kd.R_below HO_201000.out hb); have n1_ := Aside0.mk (Kd.R_below HO_207000.out hb); have n2_ := Aside0.mk (Kd.R_below HO_217000.out hb); have n3_ := Aside0.mk (Kd.R_below HO221.out hb); have n4_ := Aside0.mk (blk_below (g := gb184) (o := .cells #[.slice A0_0 l0_0.length c0_0, .int .i64 a0_1, .int .i64 a0_2] 51 (0, 0)) BK184.out hb); have n5_ := Aside0.mk (blk_below (g := gb199) (o := .cells #[.int .i64 t191, .int .i64 t192] 54 (0, 0)) BK199.out hb); have n6_ := Aside0.mk (blk_below (g := gb200) (o := .cells #[.slice Ao25 t193.length co25, .int .i64 t196, .int .i64 t197] 55 (0, 0)) BK200.out hb); have n7_ := Aside0.mk (blk_below (g := gb206) (o := .cells #[.slice Ao31 t201.length co31, .int .i64 t204, .int .i64 t205] 55 (0, 0)) BK206.out hb); have n8_ := Aside0.mk (blk_below (g := gb215) (o := .cells #[.int .i64 t207, .int .i64 t208] 54 (0, 0)) BK215.out hb); have n9_ := Aside0.mk (blk_below (g := gb216) (o := .cells #[.slice Ao45 t209.length co45, .int .i64 t212, .int .i64 t213] 55 (0, 0)) BK216.out hb); have n10_ := Aside0.mk (below_step (by repeat (first | (with_reducible first | exact HB.out | apply below_alloc | apply pw_below_drewN | apply below_drew1 | refine below_set ?_ GE184.out | refine below_set ?_ GE199.out | refine below_set ?_ GE200.out | refine below_set ?_ GE206.out | refine below_set ?_ GE215.out | refine below_set ?_ GE216.out) | exact HB.out)) hb); clear HO_201000; clear HO_207000; clear HO_217000; clear HO221; clear BK184; clear BK199; clear BK200; clear BK206; clear BK215; clear BK216; clear HB; have HO_201000 := n0_; have HO_207000 := n1_; have HO_217000 := n2_; have HO221 := n3_; have BK184 := n4_; have BK199 := n5_; have BK200 := n6_; have BK206 := n7_; have BK215 := n8_; have BK216 := n9_; have HB := n10_; clear n0_ n1_ n2_ n3_ n4_ n5_ n6_ n7_ n8_ n9_ n10_; (try clear hb); (try clear hb2); (try clear hk); (try clear hi)))
                    go_meet
                    case rel => exact ⟨_, ((t214 != t198)), (by first | rfl | (simp; done) | (simp [*]; done)), H', ⟨by have := HJ11.out; first | omega | exact Nat.le_refl _⟩, ⟨by exact Kd.R_mono HO_201000.out (fun _ hk => ⟨hk.1, hk.2.1⟩)⟩, ⟨by exact Kd.R_mono HO_207000.out (fun _ hk => ⟨hk.1.1, hk.1.2⟩)⟩, ⟨by exact Kd.R_mono HO_217000.out (fun _ hk => ⟨hk.1, hk.2.1⟩)⟩, ⟨by exact BK184.out⟩, ⟨by exact BK199.out⟩, ⟨by exact BK200.out⟩, ⟨by exact BK206.out⟩, ⟨by exact BK215.out⟩, ⟨by exact BK216.out⟩, ⟨by repeat (first | (with_reducible first | exact HB.out | apply below_alloc | apply pw_below_drewN | apply below_drew1 | refine below_set ?_ GE184.out | refine below_set ?_ GE199.out | refine below_set ?_ GE200.out | refine below_set ?_ GE206.out | refine below_set ?_ GE215.out | refine below_set ?_ GE216.out) | exact HB.out)⟩⟩
                  · replace c128 := Bool.eq_false_iff.mpr c128
                    subst c128
                    have H1 : (laws_FnExactSendNext.j1 kj11 a1 t198 true l0_0 a0_1 a0_2 t191 t192 t193 t196 t197 t209 t212 t213) = some r := by rw [if_neg (show ¬ (false = true) by decide)] at H; exact H
                    clear H
                    have H := H1
                    clear H1
                    have H' := Aside0.mk H
                    clear H
                    have hnb149 := NB215_184.out
                    have hnc149 := NB184_215.out
                    have hnb150 := NB215_199.out
                    have hnc150 := NB199_215.out
                    have hnb151 := NB215_200.out
                    have hnc151 := NB200_215.out
                    have hnb152 := NB215_206.out
                    have hnc152 := NB206_215.out
                    have hnb153 := NB215_216.out
                    have hnc153 := NB216_215.out
                    have hcz154_0 : w123.cell? ⟨gb215, 0, none⟩ = some (.int .i64 t207) := (blk_cell BK215.out 0).trans rfl
                    have hcz154_1 : w123.cell? ⟨gb215, 1, none⟩ = some (.int .i64 t208) := (blk_cell BK215.out 1).trans rfl
                    have hfz154_0 := blk_frozen BK215.out 0
                    have hfz154_1 := blk_frozen BK215.out 1
                    have hnb155 := NB199_184.out
                    have hnc155 := NB184_199.out
                    have hnb156 := NB199_200.out
                    have hnc156 := NB200_199.out
                    have hnb157 := NB199_206.out
                    have hnc157 := NB206_199.out
                    have hnb158 := NB199_216.out
                    have hnc158 := NB216_199.out
                    have hcz159_0 : w123.cell? ⟨gb199, 0, none⟩ = some (.int .i64 t191) := (blk_cell BK199.out 0).trans rfl
                    have hcz159_1 : w123.cell? ⟨gb199, 1, none⟩ = some (.int .i64 t192) := (blk_cell BK199.out 1).trans rfl
                    have hfz159_0 := blk_frozen BK199.out 0
                    have hfz159_1 := blk_frozen BK199.out 1
                    go_wp2_with (first | (go_at_call 33; (with_reducible refine (laws_eqParcel.calls t207 t208 t191 t192 true _ A125.out).mono ?_); rintro e w160 ⟨rfl, hb⟩; have n0_ := Aside0.mk (Kd.R_below HO_201000.out hb); have n1_ := Aside0.mk (Kd.R_below HO_207000.out hb); have n2_ := Aside0.mk (Kd.R_below HO_217000.out hb); have n3_ := Aside0.mk (Kd.R_below HO221.out hb); have n4_ := Aside0.mk (blk_below (g := gb184) (o := .cells #[.slice A0_0 l0_0.length c0_0, .int .i64 a0_1, .int .i64 a0_2] 51 (0, 0)) BK184.out hb); have n5_ := Aside0.mk (blk_below (g := gb199) (o := .cells #[.int .i64 t191, .int .i64 t192] 54 (0, 0)) BK199.out hb); have n6_ := Aside0.mk (blk_below (g := gb200) (o := .cells #[.slice Ao25 t193.length co25, .int .i64 t196, .int .i64 t197] 55 (0, 0)) BK200.out hb); have n7_ := Aside0.mk (blk_below (g := gb206) (o := .cells #[.slice Ao31 t201.length co31, .int .i64 t204, .int .i64 t205] 55 (0, 0)) BK206.out hb); have n8_ := Aside0.mk (blk_below (g := gb215) (o := .cells #[.int .i64 t207, .int .i64 t208] 54 (0, 0)) BK215.out hb); have n9_ := Aside0.mk (blk_below (g := gb216) (o := .cells #[.slice Ao45 t209.length co45, .int .i64 t212, .int .i64 t213] 55 (0, 0)) BK216.out hb); have n10_ := Aside0.mk (below_step (by repeat (first | (with_reducible first | exact HB.out | apply below_alloc | apply pw_below_drewN | apply below_drew1 | refine below_set ?_ GE184.out | refine below_set ?_ GE199.out | refine below_set ?_ GE200.out | refine below_set ?_ GE206.out | refine below_set ?_ GE215.out | refine below_set ?_ GE216.out) | exact HB.out)) hb); clear HO_201000; clear HO_207000; clear HO_217000; clear HO221; clear BK184; clear BK199; clear BK200; clear BK206; clear BK215; clear BK216; clear HB; have HO_201000 := n0_; have HO_207000 := n1_; have HO_217000 := n2_; have HO221 := n3_; have BK184 := n4_; have BK199 := n5_; have BK200 := n6_; have BK206 := n7_; have BK215 := n8_; have BK216 := n9_; have HB := n10_; clear n0_ n1_ n2_ n3_ n4_ n5_ n6_ n7_ n8_ n9_ n10_; (try clear hb); (try clear hb2); (try clear hk); (try clear hi); have hnb161 := NB216_184.out; have hnc161 := NB184_216.out; have hnb162 := NB216_200.out; have hnc162 := NB200_216.out; have hnb163 := NB216_206.out; have hnc163 := NB206_216.out; have hcz164_0 : w160.cell? ⟨gb216, 0, none⟩ = some (.slice Ao45 t209.length co45) := (blk_cell BK216.out 0).trans rfl; have hcz164_1 : w160.cell? ⟨gb216, 1, none⟩ = some (.int .i64 t212) := (blk_cell BK216.out 1).trans rfl; have hcz164_2 : w160.cell? ⟨gb216, 2, none⟩ = some (.int .i64 t213) := (blk_cell BK216.out 2).trans rfl; have hfz164_0 := blk_frozen BK216.out 0; have hfz164_1 := blk_frozen BK216.out 1; have hfz164_2 := blk_frozen BK216.out 2; have hnb165 := NB200_184.out; have hnc165 := NB184_200.out; have hnb166 := NB200_206.out; have hnc166 := NB206_200.out; have hcz167_0 : w160.cell? ⟨gb200, 0, none⟩ = some (.slice Ao25 t193.length co25) := (blk_cell BK200.out 0).trans rfl; have hcz167_1 : w160.cell? ⟨gb200, 1, none⟩ = some (.int .i64 t196) := (blk_cell BK200.out 1).trans rfl; have hcz167_2 : w160.cell? ⟨gb200, 2, none⟩ = some (.int .i64 t197) := (blk_cell BK200.out 2).trans rfl; have hfz167_0 := blk_frozen BK200.out 0; have hfz167_1 := blk_frozen BK200.out 1; have hfz167_2 := blk_frozen BK200.out 2) | (go_at_call 34; (with_reducible refine (laws_eqSender.calls kj11 _ _ t209 t212 t213 _ _ t193 t196 t197 false _ ?side1 ?side2 ?side3 ?side4 A127.out).mono ?_); (case side1 => repeat (first | exact (Kd.R_reads' HO_217000.out).2.2 | (with_reducible refine Kd.C_alloc ?_ _) | (with_reducible refine Kd.C_drewN ?_ _) | (with_reducible refine Kd.C_drew ?_))); (case side2 => exact (Kd.R_reads' HO_217000.out).2.1); (case side3 => repeat (first | exact (Kd.R_reads' HO_201000.out).2.2 | (with_reducible refine Kd.C_alloc ?_ _) | (with_reducible refine Kd.C_drewN ?_ _) | (with_reducible refine Kd.C_drew ?_))); (case side4 => exact (Kd.R_reads' HO_201000.out).2.1); rintro e w168 ⟨rfl, hb⟩; have n0_ := Aside0.mk (Kd.R_below HO_201000.out hb); have n1_ := Aside0.mk (Kd.R_below HO_207000.out hb); have n2_ := Aside0.mk (Kd.R_below HO_217000.out hb); have n3_ := Aside0.mk (Kd.R_below HO221.out hb); have n4_ := Aside0.mk (blk_below (g := gb184) (o := .cells #[.slice A0_0 l0_0.length c0_0, .int .i64 a0_1, .int .i64 a0_2] 51 (0, 0)) BK184.out hb); have n5_ := Aside0.mk (blk_below (g := gb199) (o := .cells #[.int .i64 t191, .int .i64 t192] 54 (0, 0)) BK199.out hb); have n6_ := Aside0.mk (blk_below (g := gb200) (o := .cells #[.slice Ao25 t193.length co25, .int .i64 t196, .int .i64 t197] 55 (0, 0)) BK200.out hb); have n7_ := Aside0.mk (blk_below (g := gb206) (o := .cells #[.slice Ao31 t201.length co31, .int .i64 t204, .int .i64 t205] 55 (0, 0)) BK206.out hb); have n8_ := Aside0.mk (blk_below (g := gb215) (o := .cells #[.int .i64 t207, .int .i64 t208] 54 (0, 0)) BK215.out hb); have n9_ := Aside0.mk (blk_below (g := gb216) (o := .cells #[.slice Ao45 t209.length co45, .int .i64 t212, .int .i64 t213] 55 (0, 0)) BK216.out hb); have n10_ := Aside0.mk (below_step (by repeat (first | (with_reducible first | exact HB.out | apply below_alloc | apply pw_below_drewN | apply below_drew1 | refine below_set ?_ GE184.out | refine below_set ?_ GE199.out | refine below_set ?_ GE200.out | refine below_set ?_ GE206.out | refine below_set ?_ GE215.out | refine below_set ?_ GE216.out) | exact HB.out)) hb); clear HO_201000; clear HO_207000; clear HO_217000; clear HO221; clear BK184; clear BK199; clear BK200; clear BK206; clear BK215; clear BK216; clear HB; have HO_201000 := n0_; have HO_207000 := n1_; have HO_217000 := n2_; have HO221 := n3_; have BK184 := n4_; have BK199 := n5_; have BK200 := n6_; have BK206 := n7_; have BK215 := n8_; have BK216 := n9_; have HB := n10_; clear n0_ n1_ n2_ n3_ n4_ n5_ n6_ n7_ n8_ n9_ n10_; (try clear hb); (try clear hb2); (try clear hk); (try clear hi)))
                    go_meet
                    case rel => exact ⟨_, (true), (by first | rfl | (simp; done) | (simp [*]; done)), H', ⟨by have := HJ11.out; first | omega | exact Nat.le_refl _⟩, ⟨by exact Kd.R_mono HO_201000.out (fun _ hk => ⟨hk.1, hk.2.1⟩)⟩, ⟨by exact Kd.R_mono HO_207000.out (fun _ hk => ⟨hk.1.1, hk.1.2⟩)⟩, ⟨by exact Kd.R_mono HO_217000.out (fun _ hk => ⟨hk.1, hk.2.1⟩)⟩, ⟨by exact BK184.out⟩, ⟨by exact BK199.out⟩, ⟨by exact BK200.out⟩, ⟨by exact BK206.out⟩, ⟨by exact BK215.out⟩, ⟨by exact BK216.out⟩, ⟨by repeat (first | (with_reducible first | exact HB.out | apply below_alloc | apply pw_below_drewN | apply below_drew1 | refine below_set ?_ GE184.out | refine below_set ?_ GE199.out | refine below_set ?_ GE200.out | refine below_set ?_ GE206.out | refine below_set ?_ GE215.out | refine below_set ?_ GE216.out) | exact HB.out)⟩⟩
                · replace c126 := Bool.eq_false_iff.mpr c126
                  subst c126
                  have H1 : (laws_FnExactSendNext.j1 kj11 a1 t198 true l0_0 a0_1 a0_2 t191 t192 t193 t196 t197 t209 t212 t213) = some r := by rw [if_neg (show ¬ (false = true) by decide)] at H; exact H
                  clear H
                  have H := H1
                  clear H1
                  have H' := Aside0.mk H
                  clear H
                  have hnb169 := NB215_184.out
                  have hnc169 := NB184_215.out
                  have hnb170 := NB215_199.out
                  have hnc170 := NB199_215.out
                  have hnb171 := NB215_200.out
                  have hnc171 := NB200_215.out
                  have hnb172 := NB215_206.out
                  have hnc172 := NB206_215.out
                  have hnb173 := NB215_216.out
                  have hnc173 := NB216_215.out
                  have hcz174_0 : w123.cell? ⟨gb215, 0, none⟩ = some (.int .i64 t207) := (blk_cell BK215.out 0).trans rfl
                  have hcz174_1 : w123.cell? ⟨gb215, 1, none⟩ = some (.int .i64 t208) := (blk_cell BK215.out 1).trans rfl
                  have hfz174_0 := blk_frozen BK215.out 0
                  have hfz174_1 := blk_frozen BK215.out 1
                  have hnb175 := NB199_184.out
                  have hnc175 := NB184_199.out
                  have hnb176 := NB199_200.out
                  have hnc176 := NB200_199.out
                  have hnb177 := NB199_206.out
                  have hnc177 := NB206_199.out
                  have hnb178 := NB199_216.out
                  have hnc178 := NB216_199.out
                  have hcz179_0 : w123.cell? ⟨gb199, 0, none⟩ = some (.int .i64 t191) := (blk_cell BK199.out 0).trans rfl
                  have hcz179_1 : w123.cell? ⟨gb199, 1, none⟩ = some (.int .i64 t192) := (blk_cell BK199.out 1).trans rfl
                  have hfz179_0 := blk_frozen BK199.out 0
                  have hfz179_1 := blk_frozen BK199.out 1
                  go_wp2_with (first | (go_at_call 33; (with_reducible refine (laws_eqParcel.calls t207 t208 t191 t192 false _ A125.out).mono ?_); rintro e w180 ⟨rfl, hb⟩; have n0_ := Aside0.mk (Kd.R_below HO_201000.out hb); have n1_ := Aside0.mk (Kd.R_below HO_207000.out hb); have n2_ := Aside0.mk (Kd.R_below HO_217000.out hb); have n3_ := Aside0.mk (Kd.R_below HO221.out hb); have n4_ := Aside0.mk (blk_below (g := gb184) (o := .cells #[.slice A0_0 l0_0.length c0_0, .int .i64 a0_1, .int .i64 a0_2] 51 (0, 0)) BK184.out hb); have n5_ := Aside0.mk (blk_below (g := gb199) (o := .cells #[.int .i64 t191, .int .i64 t192] 54 (0, 0)) BK199.out hb); have n6_ := Aside0.mk (blk_below (g := gb200) (o := .cells #[.slice Ao25 t193.length co25, .int .i64 t196, .int .i64 t197] 55 (0, 0)) BK200.out hb); have n7_ := Aside0.mk (blk_below (g := gb206) (o := .cells #[.slice Ao31 t201.length co31, .int .i64 t204, .int .i64 t205] 55 (0, 0)) BK206.out hb); have n8_ := Aside0.mk (blk_below (g := gb215) (o := .cells #[.int .i64 t207, .int .i64 t208] 54 (0, 0)) BK215.out hb); have n9_ := Aside0.mk (blk_below (g := gb216) (o := .cells #[.slice Ao45 t209.length co45, .int .i64 t212, .int .i64 t213] 55 (0, 0)) BK216.out hb); have n10_ := Aside0.mk (below_step (by repeat (first | (with_reducible first | exact HB.out | apply below_alloc | apply pw_below_drewN | apply below_drew1 | refine below_set ?_ GE184.out | refine below_set ?_ GE199.out | refine below_set ?_ GE200.out | refine below_set ?_ GE206.out | refine below_set ?_ GE215.out | refine below_set ?_ GE216.out) | exact HB.out)) hb); clear HO_201000; clear HO_207000; clear HO_217000; clear HO221; clear BK184; clear BK199; clear BK200; clear BK206; clear BK215; clear BK216; clear HB; have HO_201000 := n0_; have HO_207000 := n1_; have HO_217000 := n2_; have HO221 := n3_; have BK184 := n4_; have BK199 := n5_; have BK200 := n6_; have BK206 := n7_; have BK215 := n8_; have BK216 := n9_; have HB := n10_; clear n0_ n1_ n2_ n3_ n4_ n5_ n6_ n7_ n8_ n9_ n10_; (try clear hb); (try clear hb2); (try clear hk); (try clear hi)))
                  go_meet
                  case rel => exact ⟨_, (true), (by first | rfl | (simp; done) | (simp [*]; done)), H', ⟨by have := HJ11.out; first | omega | exact Nat.le_refl _⟩, ⟨by exact Kd.R_mono HO_201000.out (fun _ hk => ⟨hk.1, hk.2.1⟩)⟩, ⟨by exact Kd.R_mono HO_207000.out (fun _ hk => ⟨hk.1.1, hk.1.2⟩)⟩, ⟨by exact Kd.R_mono HO_217000.out (fun _ hk => ⟨hk.1, hk.2.1⟩)⟩, ⟨by exact BK184.out⟩, ⟨by exact BK199.out⟩, ⟨by exact BK200.out⟩, ⟨by exact BK206.out⟩, ⟨by exact BK215.out⟩, ⟨by exact BK216.out⟩, ⟨by repeat (first | (with_reducible first | exact HB.out | apply below_alloc | apply pw_below_drewN | apply below_drew1 | refine below_set ?_ GE184.out | refine below_set ?_ GE199.out | refine below_set ?_ GE200.out | refine below_set ?_ GE206.out | refine below_set ?_ GE215.out | refine below_set ?_ GE216.out) | exact HB.out)⟩⟩
            case rest =>
              clear HC112
              try clear c1
              try clear c2
              try clear p2
              try clear c3
              try clear c4
              try clear c4b0
              try clear c5
              try clear c6
              try clear c7
              try clear c8
              try clear c9
              try clear c10
              try clear c11
              try clear c12
              try clear c13
              try clear c14
              try clear c15
              try clear c16
              try clear c17
              try clear c22
              try clear c23
              try clear c26
              try clear c29
              try clear c30
              try clear c31
              try clear c32
              try clear c33
              try clear c34
              try clear c35
              try clear c39
              try clear c40
              try clear c41
              try clear c42
              try clear c43
              try clear c46
              try clear c47
              try clear c48
              try clear c49
              try clear c52
              try clear c54
              try clear c55
              try clear c56
              try clear c57
              try clear c58
              try clear c59
              try clear c61
              try clear c62
              try clear c63
              try clear c64
              try clear c67
              try clear c68
              try clear c69
              try clear c71
              try clear c72
              try clear c75
              try clear c76
              try clear c77
              try clear c78
              try clear c79
              try clear c81
              try clear c82
              try clear c83
              try clear c84
              try clear c87
              try clear c88
              try clear c89
              try clear c91
              try clear c92
              try clear c95
              try clear c96
              try clear c97
              try clear c98
              try clear c99
              try clear c101
              try clear c102
              try clear c103
              try clear c104
              try clear c107
              try clear c110
              try clear c117
              try clear c118
              try clear c119
              try clear c120
              try clear c121
              try clear c124
              try clear c124b0
              try clear c126
              try clear c128
              try clear c129
              try clear c130
              try clear c131
              try clear c132
              try clear c133
              try clear c135
              try clear c136
              try clear c137
              try clear c138
              try clear c141
              try clear c142
              try clear c143
              try clear c145
              try clear c146
              try clear c149
              try clear c150
              try clear c151
              try clear c152
              try clear c153
              try clear c155
              try clear c156
              try clear c157
              try clear c158
              try clear c161
              try clear c162
              try clear c163
              try clear c165
              try clear c166
              try clear c169
              try clear c170
              try clear c171
              try clear c172
              try clear c173
              try clear c175
              try clear c176
              try clear c177
              try clear c178
              try clear hcz100_0
              try clear hcz100_1
              try clear hcz105_0
              try clear hcz105_1
              try clear hcz122_0
              try clear hcz122_1
              try clear hcz122_2
              try clear hcz134_0
              try clear hcz134_1
              try clear hcz139_0
              try clear hcz139_1
              try clear hcz144_0
              try clear hcz144_1
              try clear hcz144_2
              try clear hcz147_0
              try clear hcz147_1
              try clear hcz147_2
              try clear hcz14_0
              try clear hcz14_1
              try clear hcz14_2
              try clear hcz154_0
              try clear hcz154_1
              try clear hcz159_0
              try clear hcz159_1
              try clear hcz164_0
              try clear hcz164_1
              try clear hcz164_2
              try clear hcz167_0
              try clear hcz167_1
              try clear hcz167_2
              try clear hcz16_0
              try clear hcz16_1
              try clear hcz16_2
              try clear hcz174_0
              try clear hcz174_1
              try clear hcz179_0
              try clear hcz179_1
              try clear hcz24_0
              try clear hcz24_1
              try clear hcz27_0
              try clear hcz27_1
              try clear hcz27_2
              try clear hcz28_0
              try clear hcz28_1
              try clear hcz28_2
              try clear hcz35_0
              try clear hcz35_1
              try clear hcz35_2
              try clear hcz44_0
              try clear hcz44_1
              try clear hcz50_0
              try clear hcz50_1
              try clear hcz50_2
              try clear hcz60_0
              try clear hcz60_1
              try clear hcz65_0
              try clear hcz65_1
              try clear hcz6_0
              try clear hcz6_1
              try clear hcz6_2
              try clear hcz70_0
              try clear hcz70_1
              try clear hcz70_2
              try clear hcz73_0
              try clear hcz73_1
              try clear hcz73_2
              try clear hcz80_0
              try clear hcz80_1
              try clear hcz85_0
              try clear hcz85_1
              try clear hcz90_0
              try clear hcz90_1
              try clear hcz90_2
              try clear hcz93_0
              try clear hcz93_1
              try clear hcz93_2
              try clear hfz100_0
              try clear hfz100_1
              try clear hfz105_0
              try clear hfz105_1
              try clear hfz122_0
              try clear hfz122_1
              try clear hfz122_2
              try clear hfz134_0
              try clear hfz134_1
              try clear hfz139_0
              try clear hfz139_1
              try clear hfz144_0
              try clear hfz144_1
              try clear hfz144_2
              try clear hfz147_0
              try clear hfz147_1
              try clear hfz147_2
              try clear hfz14_0
              try clear hfz14_1
              try clear hfz14_2
              try clear hfz154_0
              try clear hfz154_1
              try clear hfz159_0
              try clear hfz159_1
              try clear hfz164_0
              try clear hfz164_1
              try clear hfz164_2
              try clear hfz167_0
              try clear hfz167_1
              try clear hfz167_2
              try clear hfz16_0
              try clear hfz16_1
              try clear hfz16_2
              try clear hfz174_0
              try clear hfz174_1
              try clear hfz179_0
              try clear hfz179_1
              try clear hfz24_0
              try clear hfz24_1
              try clear hfz27_0
              try clear hfz27_1
              try clear hfz27_2
              try clear hfz28_0
              try clear hfz28_1
              try clear hfz28_2
              try clear hfz35_0
              try clear hfz35_1
              try clear hfz35_2
              try clear hfz44_0
              try clear hfz44_1
              try clear hfz50_0
              try clear hfz50_1
              try clear hfz50_2
              try clear hfz60_0
              try clear hfz60_1
              try clear hfz65_0
              try clear hfz65_1
              try clear hfz6_0
              try clear hfz6_1
              try clear hfz6_2
              try clear hfz70_0
              try clear hfz70_1
              try clear hfz70_2
              try clear hfz73_0
              try clear hfz73_1
              try clear hfz73_2
              try clear hfz80_0
              try clear hfz80_1
              try clear hfz85_0
              try clear hfz85_1
              try clear hfz90_0
              try clear hfz90_1
              try clear hfz90_2
              try clear hfz93_0
              try clear hfz93_1
              try clear hfz93_2
              try clear p2
              obtain ⟨kq, x82_111, rfl, HA, HJ111, HO_201000, HO_207000, HO_217000, BK184, BK199, BK200, BK206, BK215, BK216, HB⟩ := hcut
              have hl207000_111 := (Kd.R_reads' HO_207000.out).1
              rw [hl207000_111] at HO_207000
              (try simp only [hl207000_111])
              (try simp only [hl207000_111] at BK184)
              (try simp only [hl207000_111] at BK199)
              (try simp only [hl207000_111] at BK200)
              (try simp only [hl207000_111] at BK206)
              (try simp only [hl207000_111] at BK215)
              (try simp only [hl207000_111] at BK216)
              (try simp only [hl207000_111] at HO_201000)
              (try simp only [hl207000_111] at HO_217000)
              cases kq with
              | zero => exact absurd HA.out (by simp [laws_FnExactSendNext.j1])
              | succ kj111 =>
                have H := HA.out
                clear HA
                simp only [laws_FnExactSendNext.j1] at H
                by_cases c181 : x82_111 = true
                · subst c181
                  have H1 : (some false) = some r := by rw [if_pos rfl] at H; exact H
                  clear H
                  have H := H1
                  clear H1
                  obtain rfl := Option.some.inj H
                  go_wp2
                  go_ret
                  exact ⟨by first | rfl | (simp [errW_none, errW_some] <;> rfl) | (simp [*, errW_none, errW_some] <;> rfl), by repeat (first | (with_reducible first | exact HB.out | apply below_alloc | apply pw_below_drewN | apply below_drew1 | refine below_set ?_ GE184.out | refine below_set ?_ GE199.out | refine below_set ?_ GE200.out | refine below_set ?_ GE206.out | refine below_set ?_ GE215.out | refine below_set ?_ GE216.out) | exact HB.out)⟩
                · replace c181 := Bool.eq_false_iff.mpr c181
                  subst c181
                  have H1 : ((laws_markSender.f kj111 t209 t212 t213 1).bind fun bt229 => ((laws_heldSender.f kj111 bt229.2 t212 t213 1).bind fun t231 => (if t231 < 0 then (some false) else (if t231 = bt229.1 then ((laws_toSender.f kj111 l0_0 a0_1 a0_2).bind fun bt232 => ((impl_SendNext.f kj111 bt232.1 bt232.2.1 bt232.2.2 a1).bind fun bt237 => ((laws_eqParcel.f bt237.1 bt237.2.1 t191 t192).bind fun t247 => (if t247 = true then ((laws_eqSender.f kj111 bt237.2.2.1 bt237.2.2.2.1 bt237.2.2.2.2.1 t193 t196 t197).bind fun t248 => (if t248 = true then (laws_FnExactSendNext.j2 kj111 bt229.1 (bt237.2.2.2.2.2 != t198) bt229.2 t212 t213) else (laws_FnExactSendNext.j2 kj111 bt229.1 true bt229.2 t212 t213))) else (laws_FnExactSendNext.j2 kj111 bt229.1 true bt229.2 t212 t213))))) else (some false))))) = some r := by rw [if_neg (show ¬ (false = true) by decide)] at H; exact H
                  clear H
                  have H := H1
                  clear H1
                  replace H := Option.bind_eq_some_iff.mp H
                  obtain ⟨⟨t229, t230⟩, A1820, H⟩ := H
                  replace H : ((laws_heldSender.f kj111 t230 t212 t213 1).bind fun t231 => (if t231 < 0 then (some false) else (if t231 = t229 then ((laws_toSender.f kj111 l0_0 a0_1 a0_2).bind fun bt232 => ((impl_SendNext.f kj111 bt232.1 bt232.2.1 bt232.2.2 a1).bind fun bt237 => ((laws_eqParcel.f bt237.1 bt237.2.1 t191 t192).bind fun t247 => (if t247 = true then ((laws_eqSender.f kj111 bt237.2.2.1 bt237.2.2.2.1 bt237.2.2.2.2.1 t193 t196 t197).bind fun t248 => (if t248 = true then (laws_FnExactSendNext.j2 kj111 t229 (bt237.2.2.2.2.2 != t198) t230 t212 t213) else (laws_FnExactSendNext.j2 kj111 t229 true t230 t212 t213))) else (laws_FnExactSendNext.j2 kj111 t229 true t230 t212 t213))))) else (some false)))) = some r := H
                  have A182 := Aside0.mk A1820
                  clear A1820
                  replace H := Option.bind_eq_some_iff.mp H
                  obtain ⟨t231, A1830, H⟩ := H
                  replace H : (if t231 < 0 then (some false) else (if t231 = t229 then ((laws_toSender.f kj111 l0_0 a0_1 a0_2).bind fun bt232 => ((impl_SendNext.f kj111 bt232.1 bt232.2.1 bt232.2.2 a1).bind fun bt237 => ((laws_eqParcel.f bt237.1 bt237.2.1 t191 t192).bind fun t247 => (if t247 = true then ((laws_eqSender.f kj111 bt237.2.2.1 bt237.2.2.2.1 bt237.2.2.2.2.1 t193 t196 t197).bind fun t248 => (if t248 = true then (laws_FnExactSendNext.j2 kj111 t229 (bt237.2.2.2.2.2 != t198) t230 t212 t213) else (laws_FnExactSendNext.j2 kj111 t229 true t230 t212 t213))) else (laws_FnExactSendNext.j2 kj111 t229 true t230 t212 t213))))) else (some false))) = some r := H
                  have A183 := Aside0.mk A1830
                  clear A1830
                  by_cases c184 : t231 < 0
                  · rw [if_pos c184] at H
                    have c184b0 : decide (t231 < 0) = true := decide_eq_true c184
                    clear c184
                    obtain rfl := Option.some.inj H
                    have hnb185 := NB216_184.out
                    have hnc185 := NB184_216.out
                    have hnb186 := NB216_199.out
                    have hnc186 := NB199_216.out
                    have hnb187 := NB216_200.out
                    have hnc187 := NB200_216.out
                    have hnb188 := NB216_206.out
                    have hnc188 := NB206_216.out
                    have hnb189 := NB216_215.out
                    have hnc189 := NB215_216.out
                    have hcz190_0 : wc.cell? ⟨gb216, 0, none⟩ = some (.slice Ao45 t209.length co45) := (blk_cell BK216.out 0).trans rfl
                    have hcz190_1 : wc.cell? ⟨gb216, 1, none⟩ = some (.int .i64 t212) := (blk_cell BK216.out 1).trans rfl
                    have hcz190_2 : wc.cell? ⟨gb216, 2, none⟩ = some (.int .i64 t213) := (blk_cell BK216.out 2).trans rfl
                    have hfz190_0 := blk_frozen BK216.out 0
                    have hfz190_1 := blk_frozen BK216.out 1
                    have hfz190_2 := blk_frozen BK216.out 2
                    go_wp2_with (first | ((with_reducible refine gate_callee (f := 35) rfl ?_); refine goesL_ (some 85) rfl rfl Try.func35 (by kernel_rfl) rfl #[.agg #[.slice Ao45 t209.length co45, .int .i64 t212, .int .i64 t213], .int .i64 1] rfl (by (try simp only [List.map_toArray, List.map_cons, List.map_nil]); first | done | rfl | (simp only [List.length_drop, List.length_take]; rfl)) ?_; (with_reducible refine (laws_markSender.calls kj111 (fun k_ => some k_ = (.slice Ao45 t209.length co45 : Value).ownBlock) (.slice Ao45 t209.length co45) t209 t212 t213 1 t229 t230 w _ ?side1 ?side2 A182.out).mono ?_); (case side1 => repeat (first | (with_reducible first | exact HB.out | apply below_alloc | apply pw_below_drewN | apply below_drew1 | refine below_set ?_ GE184.out | refine below_set ?_ GE199.out | refine below_set ?_ GE200.out | refine below_set ?_ GE206.out | refine below_set ?_ GE215.out | refine below_set ?_ GE216.out) | exact HB.out)); (case side2 => exact Kd.R_tight rfl HO_217000.out); rintro e w191 ⟨rfl, hy0, hb, hkp⟩; refine ⟨_, rfl, ?_⟩; have n0_ := Aside0.mk (Kd.R_mono (ok' := fun k_ => some k_ ≠ (.slice Ao31 t226.length co31 : Value).ownBlock ∧ some k_ ≠ (.slice Ao45 t209.length co45 : Value).ownBlock) (Kd.R_keptB (HO_201000.out) hkp (fun k_ hk_ hs_ => (hk_.2) hs_)) (fun k_ hk_ => ⟨hk_.1.1, hk_.1.2⟩)); have n1_ := Aside0.mk (Kd.R_mono (ok' := fun k_ => some k_ ≠ (.slice Ao25 t193.length co25 : Value).ownBlock ∧ some k_ ≠ (.slice Ao45 t209.length co45 : Value).ownBlock) (Kd.R_keptB (HO_207000.out) hkp (fun k_ hk_ hs_ => (hk_.2) hs_)) (fun k_ hk_ => ⟨hk_.1.1, hk_.1.2⟩)); have n2_ := Aside0.mk (Kd.R_reok rfl hy0 (fun k_ e_ => HO_217000.out.1 k_ e_)); have n3_ := Aside0.mk (blk_kept BK184.out hkp (fun hs_ => (fun e_ => (Kd.R_ne HO_217000.out BK184.out (by decide)) e_) hs_)); have n4_ := Aside0.mk (blk_kept BK199.out hkp (fun hs_ => (fun e_ => (Kd.R_ne HO_217000.out BK199.out (by decide)) e_) hs_)); have n5_ := Aside0.mk (blk_kept BK200.out hkp (fun hs_ => (fun e_ => (Kd.R_ne HO_217000.out BK200.out (by decide)) e_) hs_)); have n6_ := Aside0.mk (blk_kept BK206.out hkp (fun hs_ => (fun e_ => (Kd.R_ne HO_217000.out BK206.out (by decide)) e_) hs_)); have n7_ := Aside0.mk (blk_kept BK215.out hkp (fun hs_ => (fun e_ => (Kd.R_ne HO_217000.out BK215.out (by decide)) e_) hs_)); have n8_ := Aside0.mk (blk_kept BK216.out hkp (fun hs_ => (fun e_ => (Kd.R_ne HO_217000.out BK216.out (by decide)) e_) hs_)); have n9_ := Aside0.mk (hb); clear HO_201000; clear HO_207000; clear HO_217000; clear BK184; clear BK199; clear BK200; clear BK206; clear BK215; clear BK216; clear HB; have HO_201000 := n0_; have HO_207000 := n1_; have HO_217000 := n2_; have BK184 := n3_; have BK199 := n4_; have BK200 := n5_; have BK206 := n6_; have BK215 := n7_; have BK216 := n8_; have HB := n9_; clear n0_ n1_ n2_ n3_ n4_ n5_ n6_ n7_ n8_ n9_; (try clear hb); (try clear hkp); (try clear hy0); have hcz192_0 : w191.cell? ⟨gb216, 0, none⟩ = some (.slice Ao45 t209.length co45) := (blk_cell BK216.out 0).trans rfl; have hcz192_1 : w191.cell? ⟨gb216, 1, none⟩ = some (.int .i64 t212) := (blk_cell BK216.out 1).trans rfl; have hcz192_2 : w191.cell? ⟨gb216, 2, none⟩ = some (.int .i64 t213) := (blk_cell BK216.out 2).trans rfl; have hfz192_0 := blk_frozen BK216.out 0; have hfz192_1 := blk_frozen BK216.out 1; have hfz192_2 := blk_frozen BK216.out 2) | ((with_reducible refine gate_callee (f := 36) rfl ?_); refine goesL_ (some 88) rfl rfl Try.func36 (by kernel_rfl) rfl #[.agg #[.slice Ao45 t230.length co45, .int .i64 t212, .int .i64 t213], .int .i64 1] rfl (by (try simp only [List.map_toArray, List.map_cons, List.map_nil]); first | done | (rw [show t230.length = t209.length from (Kd.R_reads' HO_217000.out).1.symm] <;> rfl) | rfl | (simp only [List.length_drop, List.length_take]; rfl)) ?_; (with_reducible refine (laws_heldSender.calls kj111 _ _ t230 t212 t213 1 t231 _ ?side1 ?side2 A183.out).mono ?_); (case side1 => repeat (first | exact (Kd.R_reads' HO_217000.out).2.2 | (with_reducible refine Kd.C_alloc ?_ _) | (with_reducible refine Kd.C_drewN ?_ _) | (with_reducible refine Kd.C_drew ?_))); (case side2 => rw [show t230.length = t209.length from (Kd.R_reads' HO_217000.out).1.symm]; exact (Kd.R_reads' HO_217000.out).2.1); rintro e w193 ⟨rfl, hb⟩; refine ⟨_, rfl, ?_⟩; have n0_ := Aside0.mk (Kd.R_below HO_201000.out hb); have n1_ := Aside0.mk (Kd.R_below HO_207000.out hb); have n2_ := Aside0.mk (Kd.R_below HO_217000.out hb); have n3_ := Aside0.mk (blk_below (g := gb184) (o := .cells #[.slice A0_0 l0_0.length c0_0, .int .i64 a0_1, .int .i64 a0_2] 51 (0, 0)) BK184.out hb); have n4_ := Aside0.mk (blk_below (g := gb199) (o := .cells #[.int .i64 t191, .int .i64 t192] 54 (0, 0)) BK199.out hb); have n5_ := Aside0.mk (blk_below (g := gb200) (o := .cells #[.slice Ao25 t193.length co25, .int .i64 t196, .int .i64 t197] 55 (0, 0)) BK200.out hb); have n6_ := Aside0.mk (blk_below (g := gb206) (o := .cells #[.slice Ao31 t226.length co31, .int .i64 t204, .int .i64 t205] 55 (0, 0)) BK206.out hb); have n7_ := Aside0.mk (blk_below (g := gb215) (o := .cells #[.int .i64 t207, .int .i64 t208] 54 (0, 0)) BK215.out hb); have n8_ := Aside0.mk (blk_below (g := gb216) (o := .cells #[.slice Ao45 t209.length co45, .int .i64 t212, .int .i64 t213] 55 (0, 0)) BK216.out hb); have n9_ := Aside0.mk (below_step (by repeat (first | (with_reducible first | exact HB.out | apply below_alloc | apply pw_below_drewN | apply below_drew1 | refine below_set ?_ GE184.out | refine below_set ?_ GE199.out | refine below_set ?_ GE200.out | refine below_set ?_ GE206.out | refine below_set ?_ GE215.out | refine below_set ?_ GE216.out) | exact HB.out)) hb); clear HO_201000; clear HO_207000; clear HO_217000; clear BK184; clear BK199; clear BK200; clear BK206; clear BK215; clear BK216; clear HB; have HO_201000 := n0_; have HO_207000 := n1_; have HO_217000 := n2_; have BK184 := n3_; have BK199 := n4_; have BK200 := n5_; have BK206 := n6_; have BK215 := n7_; have BK216 := n8_; have HB := n9_; clear n0_ n1_ n2_ n3_ n4_ n5_ n6_ n7_ n8_ n9_; (try clear hb); (try clear hb2); (try clear hk); (try clear hi)))
                    go_ret
                    exact ⟨by first | rfl | (simp [errW_none, errW_some] <;> rfl) | (simp [*, errW_none, errW_some] <;> rfl), by repeat (first | (with_reducible first | exact HB.out | apply below_alloc | apply pw_below_drewN | apply below_drew1 | refine below_set ?_ GE184.out | refine below_set ?_ GE199.out | refine below_set ?_ GE200.out | refine below_set ?_ GE206.out | refine below_set ?_ GE215.out | refine below_set ?_ GE216.out) | exact HB.out)⟩
                  · rw [if_neg c184] at H
                    have c184b0 : decide (t231 < 0) = false := decide_eq_false c184
                    clear c184
                    by_cases c194 : t231 = t229
                    · rw [if_pos c194] at H
                      have c194b0 : (t231 == t229) = true := beq_iff_eq.mpr c194
                      have c194b1 : (t231 != t229) = false := bne_eq_false_iff_eq.mpr c194
                      clear c194
                      replace H := Option.bind_eq_some_iff.mp H
                      obtain ⟨⟨t232, t235, t236⟩, A1950, H⟩ := H
                      replace H : ((impl_SendNext.f kj111 t232 t235 t236 a1).bind fun bt237 => ((laws_eqParcel.f bt237.1 bt237.2.1 t191 t192).bind fun t247 => (if t247 = true then ((laws_eqSender.f kj111 bt237.2.2.1 bt237.2.2.2.1 bt237.2.2.2.2.1 t193 t196 t197).bind fun t248 => (if t248 = true then (laws_FnExactSendNext.j2 kj111 t229 (bt237.2.2.2.2.2 != t198) t230 t212 t213) else (laws_FnExactSendNext.j2 kj111 t229 true t230 t212 t213))) else (laws_FnExactSendNext.j2 kj111 t229 true t230 t212 t213)))) = some r := H
                      have A195 := Aside0.mk A1950
                      clear A1950
                      replace H := Option.bind_eq_some_iff.mp H
                      obtain ⟨⟨t237, t238, t239, t242, t243, t244⟩, A1960, H⟩ := H
                      replace H : ((laws_eqParcel.f t237 t238 t191 t192).bind fun t247 => (if t247 = true then ((laws_eqSender.f kj111 t239 t242 t243 t193 t196 t197).bind fun t248 => (if t248 = true then (laws_FnExactSendNext.j2 kj111 t229 (t244 != t198) t230 t212 t213) else (laws_FnExactSendNext.j2 kj111 t229 true t230 t212 t213))) else (laws_FnExactSendNext.j2 kj111 t229 true t230 t212 t213))) = some r := H
                      have A196 := Aside0.mk A1960
                      clear A1960
                      have HC197 := Aside0.mk H
                      clear H
                      have hnb198 := NB216_184.out
                      have hnc198 := NB184_216.out
                      have hnb199 := NB216_199.out
                      have hnc199 := NB199_216.out
                      have hnb200 := NB216_200.out
                      have hnc200 := NB200_216.out
                      have hnb201 := NB216_206.out
                      have hnc201 := NB206_216.out
                      have hnb202 := NB216_215.out
                      have hnc202 := NB215_216.out
                      have hcz203_0 : wc.cell? ⟨gb216, 0, none⟩ = some (.slice Ao45 t209.length co45) := (blk_cell BK216.out 0).trans rfl
                      have hcz203_1 : wc.cell? ⟨gb216, 1, none⟩ = some (.int .i64 t212) := (blk_cell BK216.out 1).trans rfl
                      have hcz203_2 : wc.cell? ⟨gb216, 2, none⟩ = some (.int .i64 t213) := (blk_cell BK216.out 2).trans rfl
                      have hfz203_0 := blk_frozen BK216.out 0
                      have hfz203_1 := blk_frozen BK216.out 1
                      have hfz203_2 := blk_frozen BK216.out 2
                      go_upto_region 25 with (first | ((with_reducible refine gate_callee (f := 35) rfl ?_); refine goesL_ (some 85) rfl rfl Try.func35 (by kernel_rfl) rfl #[.agg #[.slice Ao45 t209.length co45, .int .i64 t212, .int .i64 t213], .int .i64 1] rfl (by (try simp only [List.map_toArray, List.map_cons, List.map_nil]); first | done | rfl | (simp only [List.length_drop, List.length_take]; rfl)) ?_; (with_reducible refine (laws_markSender.calls kj111 (fun k_ => some k_ = (.slice Ao45 t209.length co45 : Value).ownBlock) (.slice Ao45 t209.length co45) t209 t212 t213 1 t229 t230 w _ ?side1 ?side2 A182.out).mono ?_); (case side1 => repeat (first | (with_reducible first | exact HB.out | apply below_alloc | apply pw_below_drewN | apply below_drew1 | refine below_set ?_ GE184.out | refine below_set ?_ GE199.out | refine below_set ?_ GE200.out | refine below_set ?_ GE206.out | refine below_set ?_ GE215.out | refine below_set ?_ GE216.out) | exact HB.out)); (case side2 => exact Kd.R_tight rfl HO_217000.out); rintro e w204 ⟨rfl, hy0, hb, hkp⟩; refine ⟨_, rfl, ?_⟩; have n0_ := Aside0.mk (Kd.R_mono (ok' := fun k_ => some k_ ≠ (.slice Ao31 t226.length co31 : Value).ownBlock ∧ some k_ ≠ (.slice Ao45 t209.length co45 : Value).ownBlock) (Kd.R_keptB (HO_201000.out) hkp (fun k_ hk_ hs_ => (hk_.2) hs_)) (fun k_ hk_ => ⟨hk_.1.1, hk_.1.2⟩)); have n1_ := Aside0.mk (Kd.R_mono (ok' := fun k_ => some k_ ≠ (.slice Ao25 t193.length co25 : Value).ownBlock ∧ some k_ ≠ (.slice Ao45 t209.length co45 : Value).ownBlock) (Kd.R_keptB (HO_207000.out) hkp (fun k_ hk_ hs_ => (hk_.2) hs_)) (fun k_ hk_ => ⟨hk_.1.1, hk_.1.2⟩)); have n2_ := Aside0.mk (Kd.R_reok rfl hy0 (fun k_ e_ => HO_217000.out.1 k_ e_)); have n3_ := Aside0.mk (blk_kept BK184.out hkp (fun hs_ => (fun e_ => (Kd.R_ne HO_217000.out BK184.out (by decide)) e_) hs_)); have n4_ := Aside0.mk (blk_kept BK199.out hkp (fun hs_ => (fun e_ => (Kd.R_ne HO_217000.out BK199.out (by decide)) e_) hs_)); have n5_ := Aside0.mk (blk_kept BK200.out hkp (fun hs_ => (fun e_ => (Kd.R_ne HO_217000.out BK200.out (by decide)) e_) hs_)); have n6_ := Aside0.mk (blk_kept BK206.out hkp (fun hs_ => (fun e_ => (Kd.R_ne HO_217000.out BK206.out (by decide)) e_) hs_)); have n7_ := Aside0.mk (blk_kept BK215.out hkp (fun hs_ => (fun e_ => (Kd.R_ne HO_217000.out BK215.out (by decide)) e_) hs_)); have n8_ := Aside0.mk (blk_kept BK216.out hkp (fun hs_ => (fun e_ => (Kd.R_ne HO_217000.out BK216.out (by decide)) e_) hs_)); have n9_ := Aside0.mk (hb); clear HO_201000; clear HO_207000; clear HO_217000; clear BK184; clear BK199; clear BK200; clear BK206; clear BK215; clear BK216; clear HB; have HO_201000 := n0_; have HO_207000 := n1_; have HO_217000 := n2_; have BK184 := n3_; have BK199 := n4_; have BK200 := n5_; have BK206 := n6_; have BK215 := n7_; have BK216 := n8_; have HB := n9_; clear n0_ n1_ n2_ n3_ n4_ n5_ n6_ n7_ n8_ n9_; (try clear hb); (try clear hkp); (try clear hy0); have hcz205_0 : w204.cell? ⟨gb216, 0, none⟩ = some (.slice Ao45 t209.length co45) := (blk_cell BK216.out 0).trans rfl; have hcz205_1 : w204.cell? ⟨gb216, 1, none⟩ = some (.int .i64 t212) := (blk_cell BK216.out 1).trans rfl; have hcz205_2 : w204.cell? ⟨gb216, 2, none⟩ = some (.int .i64 t213) := (blk_cell BK216.out 2).trans rfl; have hfz205_0 := blk_frozen BK216.out 0; have hfz205_1 := blk_frozen BK216.out 1; have hfz205_2 := blk_frozen BK216.out 2) | ((with_reducible refine gate_callee (f := 36) rfl ?_); refine goesL_ (some 88) rfl rfl Try.func36 (by kernel_rfl) rfl #[.agg #[.slice Ao45 t230.length co45, .int .i64 t212, .int .i64 t213], .int .i64 1] rfl (by (try simp only [List.map_toArray, List.map_cons, List.map_nil]); first | done | (rw [show t230.length = t209.length from (Kd.R_reads' HO_217000.out).1.symm] <;> rfl) | rfl | (simp only [List.length_drop, List.length_take]; rfl)) ?_; (with_reducible refine (laws_heldSender.calls kj111 _ _ t230 t212 t213 1 t231 _ ?side1 ?side2 A183.out).mono ?_); (case side1 => repeat (first | exact (Kd.R_reads' HO_217000.out).2.2 | (with_reducible refine Kd.C_alloc ?_ _) | (with_reducible refine Kd.C_drewN ?_ _) | (with_reducible refine Kd.C_drew ?_))); (case side2 => rw [show t230.length = t209.length from (Kd.R_reads' HO_217000.out).1.symm]; exact (Kd.R_reads' HO_217000.out).2.1); rintro e w206 ⟨rfl, hb⟩; refine ⟨_, rfl, ?_⟩; have n0_ := Aside0.mk (Kd.R_below HO_201000.out hb); have n1_ := Aside0.mk (Kd.R_below HO_207000.out hb); have n2_ := Aside0.mk (Kd.R_below HO_217000.out hb); have n3_ := Aside0.mk (blk_below (g := gb184) (o := .cells #[.slice A0_0 l0_0.length c0_0, .int .i64 a0_1, .int .i64 a0_2] 51 (0, 0)) BK184.out hb); have n4_ := Aside0.mk (blk_below (g := gb199) (o := .cells #[.int .i64 t191, .int .i64 t192] 54 (0, 0)) BK199.out hb); have n5_ := Aside0.mk (blk_below (g := gb200) (o := .cells #[.slice Ao25 t193.length co25, .int .i64 t196, .int .i64 t197] 55 (0, 0)) BK200.out hb); have n6_ := Aside0.mk (blk_below (g := gb206) (o := .cells #[.slice Ao31 t226.length co31, .int .i64 t204, .int .i64 t205] 55 (0, 0)) BK206.out hb); have n7_ := Aside0.mk (blk_below (g := gb215) (o := .cells #[.int .i64 t207, .int .i64 t208] 54 (0, 0)) BK215.out hb); have n8_ := Aside0.mk (blk_below (g := gb216) (o := .cells #[.slice Ao45 t209.length co45, .int .i64 t212, .int .i64 t213] 55 (0, 0)) BK216.out hb); have n9_ := Aside0.mk (below_step (by repeat (first | (with_reducible first | exact HB.out | apply below_alloc | apply pw_below_drewN | apply below_drew1 | refine below_set ?_ GE184.out | refine below_set ?_ GE199.out | refine below_set ?_ GE200.out | refine below_set ?_ GE206.out | refine below_set ?_ GE215.out | refine below_set ?_ GE216.out) | exact HB.out)) hb); clear HO_201000; clear HO_207000; clear HO_217000; clear BK184; clear BK199; clear BK200; clear BK206; clear BK215; clear BK216; clear HB; have HO_201000 := n0_; have HO_207000 := n1_; have HO_217000 := n2_; have BK184 := n3_; have BK199 := n4_; have BK200 := n5_; have BK206 := n6_; have BK215 := n7_; have BK216 := n8_; have HB := n9_; clear n0_ n1_ n2_ n3_ n4_ n5_ n6_ n7_ n8_ n9_; (try clear hb); (try clear hb2); (try clear hk); (try clear hi); have hnb207 := NB184_199.out; have hnc207 := NB199_184.out; have hnb208 := NB184_200.out; have hnc208 := NB200_184.out; have hnb209 := NB184_206.out; have hnc209 := NB206_184.out; have hnb210 := NB184_215.out; have hnc210 := NB215_184.out; have hcz211_0 : w206.cell? ⟨gb184, 0, none⟩ = some (.slice A0_0 l0_0.length c0_0) := (blk_cell BK184.out 0).trans rfl; have hcz211_1 : w206.cell? ⟨gb184, 1, none⟩ = some (.int .i64 a0_1) := (blk_cell BK184.out 1).trans rfl; have hcz211_2 : w206.cell? ⟨gb184, 2, none⟩ = some (.int .i64 a0_2) := (blk_cell BK184.out 2).trans rfl; have hfz211_0 := blk_frozen BK184.out 0; have hfz211_1 := blk_frozen BK184.out 1; have hfz211_2 := blk_frozen BK184.out 2) | ((with_reducible refine gate_callee (f := 31) rfl ?_); refine goesL_ (some 96) rfl rfl Try.func31 (by kernel_rfl) rfl #[.agg #[.slice A0_0 l0_0.length c0_0, .int .i64 a0_1, .int .i64 a0_2]] rfl (by (try simp only [List.map_toArray, List.map_cons, List.map_nil]); first | done | rfl | (simp only [List.length_drop, List.length_take]; rfl)) ?_; (with_reducible refine (laws_toSender.calls kj111 _ _ l0_0 a0_1 a0_2 t232 t235 t236 _ ?side1 ?side2 A195.out).mono ?_); (case side1 => repeat (first | exact (Kd.C_below HR0_0.out HB.out) | (with_reducible refine Kd.C_alloc ?_ _) | (with_reducible refine Kd.C_drewN ?_ _) | (with_reducible refine Kd.C_drew ?_))); (case side2 => exact HC0_0.out); rintro e w212 ⟨v233, rfl, ho0, hb⟩; refine ⟨_, rfl, ?_⟩; have n0_ := Aside0.mk (Kd.R_elder' HO_201000.out (Kd.R_base ho0) hb); have n1_ := Aside0.mk (Kd.R_elder' HO_207000.out (Kd.R_base ho0) hb); have n2_ := Aside0.mk (Kd.R_elder' HO_217000.out (Kd.R_base ho0) hb); have n3_ := Aside0.mk (Kd.R_lower (Kd.R_new' (Kd.R_new' (Kd.R_new' ho0 (Kd.R_lt HO_201000.out)) (Kd.R_lt HO_207000.out)) (Kd.R_lt HO_217000.out)) (below_size (by repeat (first | (with_reducible first | exact HB.out | apply below_alloc | apply pw_below_drewN | apply below_drew1 | refine below_set ?_ GE184.out | refine below_set ?_ GE199.out | refine below_set ?_ GE200.out | refine below_set ?_ GE206.out | refine below_set ?_ GE215.out | refine below_set ?_ GE216.out) | exact HB.out)))); have n4_ := Aside0.mk (blk_below (g := gb184) (o := .cells #[.slice A0_0 l0_0.length c0_0, .int .i64 a0_1, .int .i64 a0_2] 51 (0, 0)) BK184.out hb); have n5_ := Aside0.mk (blk_below (g := gb199) (o := .cells #[.int .i64 t191, .int .i64 t192] 54 (0, 0)) BK199.out hb); have n6_ := Aside0.mk (blk_below (g := gb200) (o := .cells #[.slice Ao25 t193.length co25, .int .i64 t196, .int .i64 t197] 55 (0, 0)) BK200.out hb); have n7_ := Aside0.mk (blk_below (g := gb206) (o := .cells #[.slice Ao31 t226.length co31, .int .i64 t204, .int .i64 t205] 55 (0, 0)) BK206.out hb); have n8_ := Aside0.mk (blk_below (g := gb215) (o := .cells #[.int .i64 t207, .int .i64 t208] 54 (0, 0)) BK215.out hb); have n9_ := Aside0.mk (blk_below (g := gb216) (o := .cells #[.slice Ao45 t209.length co45, .int .i64 t212, .int .i64 t213] 55 (0, 0)) BK216.out hb); have n10_ := Aside0.mk (below_step (by repeat (first | (with_reducible first | exact HB.out | apply below_alloc | apply pw_below_drewN | apply below_drew1 | refine below_set ?_ GE184.out | refine below_set ?_ GE199.out | refine below_set ?_ GE200.out | refine below_set ?_ GE206.out | refine below_set ?_ GE215.out | refine below_set ?_ GE216.out) | exact HB.out)) hb); clear HO_201000; clear HO_207000; clear HO_217000; clear BK184; clear BK199; clear BK200; clear BK206; clear BK215; clear BK216; clear HB; have HO_201000 := n0_; have HO_207000 := n1_; have HO_217000 := n2_; have HO234 := n3_; have BK184 := n4_; have BK199 := n5_; have BK200 := n6_; have BK206 := n7_; have BK215 := n8_; have BK216 := n9_; have HB := n10_; clear n0_ n1_ n2_ n3_ n4_ n5_ n6_ n7_ n8_ n9_ n10_; (try clear hb); (try clear hb2); (try clear hk); (try clear hi); (try clear ho0); obtain ⟨Ao213, co213, eo213⟩ := Kd.R_slice HO234.out; subst eo213) | ((with_reducible refine gate_callee (f := 32) rfl ?_); refine goesL_ (some 98) rfl rfl Try.func32 (by kernel_rfl) rfl #[.agg #[.slice Ao213 t232.length co213, .int .i64 t235, .int .i64 t236], .int .i64 a1] rfl (by (try simp only [List.map_toArray, List.map_cons, List.map_nil]); first | done | rfl | (simp only [List.length_drop, List.length_take]; rfl)) ?_; (with_reducible refine (impl_SendNext.calls kj111 _ _ t232 t235 t236 a1 t237 t238 t239 t242 t243 t244 _ ?side1 ?side2 A196.out).mono ?_); (case side1 => repeat (first | exact (Kd.R_reads' HO234.out).2.2 | (with_reducible refine Kd.C_alloc ?_ _) | (with_reducible refine Kd.C_drewN ?_ _) | (with_reducible refine Kd.C_drew ?_))); (case side2 => exact (Kd.R_reads' HO234.out).2.1); rintro e w214 ⟨v240, rfl, ho0, hb⟩; refine ⟨_, rfl, ?_⟩; have n0_ := Aside0.mk (Kd.R_elder' HO_201000.out (Kd.R_base ho0) hb); have n1_ := Aside0.mk (Kd.R_elder' HO_207000.out (Kd.R_base ho0) hb); have n2_ := Aside0.mk (Kd.R_elder' HO_217000.out (Kd.R_base ho0) hb); have n3_ := Aside0.mk (Kd.R_elder' HO234.out (Kd.R_base ho0) hb); have n4_ := Aside0.mk (Kd.R_lower (Kd.R_new' (Kd.R_new' (Kd.R_new' (Kd.R_new' ho0 (Kd.R_lt HO_201000.out)) (Kd.R_lt HO_207000.out)) (Kd.R_lt HO_217000.out)) (Kd.R_lt HO234.out)) (below_size (by repeat (first | (with_reducible first | exact HB.out | apply below_alloc | apply pw_below_drewN | apply below_drew1 | refine below_set ?_ GE184.out | refine below_set ?_ GE199.out | refine below_set ?_ GE200.out | refine below_set ?_ GE206.out | refine below_set ?_ GE215.out | refine below_set ?_ GE216.out) | exact HB.out)))); have n5_ := Aside0.mk (blk_below (g := gb184) (o := .cells #[.slice A0_0 l0_0.length c0_0, .int .i64 a0_1, .int .i64 a0_2] 51 (0, 0)) BK184.out hb); have n6_ := Aside0.mk (blk_below (g := gb199) (o := .cells #[.int .i64 t191, .int .i64 t192] 54 (0, 0)) BK199.out hb); have n7_ := Aside0.mk (blk_below (g := gb200) (o := .cells #[.slice Ao25 t193.length co25, .int .i64 t196, .int .i64 t197] 55 (0, 0)) BK200.out hb); have n8_ := Aside0.mk (blk_below (g := gb206) (o := .cells #[.slice Ao31 t226.length co31, .int .i64 t204, .int .i64 t205] 55 (0, 0)) BK206.out hb); have n9_ := Aside0.mk (blk_below (g := gb215) (o := .cells #[.int .i64 t207, .int .i64 t208] 54 (0, 0)) BK215.out hb); have n10_ := Aside0.mk (blk_below (g := gb216) (o := .cells #[.slice Ao45 t209.length co45, .int .i64 t212, .int .i64 t213] 55 (0, 0)) BK216.out hb); have n11_ := Aside0.mk (below_step (by repeat (first | (with_reducible first | exact HB.out | apply below_alloc | apply pw_below_drewN | apply below_drew1 | refine below_set ?_ GE184.out | refine below_set ?_ GE199.out | refine below_set ?_ GE200.out | refine below_set ?_ GE206.out | refine below_set ?_ GE215.out | refine below_set ?_ GE216.out) | exact HB.out)) hb); clear HO_201000; clear HO_207000; clear HO_217000; clear HO234; clear BK184; clear BK199; clear BK200; clear BK206; clear BK215; clear BK216; clear HB; have HO_201000 := n0_; have HO_207000 := n1_; have HO_217000 := n2_; have HO234 := n3_; have HO241 := n4_; have BK184 := n5_; have BK199 := n6_; have BK200 := n7_; have BK206 := n8_; have BK215 := n9_; have BK216 := n10_; have HB := n11_; clear n0_ n1_ n2_ n3_ n4_ n5_ n6_ n7_ n8_ n9_ n10_ n11_; (try clear hb); (try clear hb2); (try clear hk); (try clear hi); (try clear ho0)) | ((with_reducible refine gate_dst (N := 16) rfl ?_); refine box_event ?hg (N := 16) ?hd (cs := #[.int .i64 0, .int .i64 0]) (t := 54) ?hr ?_; (case hd => rfl); (case hg => rfl); (case hr => first | (go_simp; done) | (go_simp; rfl)); intro gb245 hg w215 hbox hb; have n0_ := Aside0.mk (Kd.R_below HO_201000.out hb); have n1_ := Aside0.mk (Kd.R_below HO_207000.out hb); have n2_ := Aside0.mk (Kd.R_below HO_217000.out hb); have n3_ := Aside0.mk (Kd.R_below HO234.out hb); have n4_ := Aside0.mk (Kd.R_below HO241.out hb); have n5_ := Aside0.mk (blk_below (g := gb184) (o := .cells #[.slice A0_0 l0_0.length c0_0, .int .i64 a0_1, .int .i64 a0_2] 51 (0, 0)) BK184.out hb); have n6_ := Aside0.mk (blk_below (g := gb199) (o := .cells #[.int .i64 t191, .int .i64 t192] 54 (0, 0)) BK199.out hb); have n7_ := Aside0.mk (blk_below (g := gb200) (o := .cells #[.slice Ao25 t193.length co25, .int .i64 t196, .int .i64 t197] 55 (0, 0)) BK200.out hb); have n8_ := Aside0.mk (blk_below (g := gb206) (o := .cells #[.slice Ao31 t226.length co31, .int .i64 t204, .int .i64 t205] 55 (0, 0)) BK206.out hb); have n9_ := Aside0.mk (blk_below (g := gb215) (o := .cells #[.int .i64 t207, .int .i64 t208] 54 (0, 0)) BK215.out hb); have n10_ := Aside0.mk (blk_below (g := gb216) (o := .cells #[.slice Ao45 t209.length co45, .int .i64 t212, .int .i64 t213] 55 (0, 0)) BK216.out hb); have n11_ := Aside0.mk (below_step (by repeat (first | (with_reducible first | exact HB.out | apply below_alloc | apply pw_below_drewN | apply below_drew1 | refine below_set ?_ GE184.out | refine below_set ?_ GE199.out | refine below_set ?_ GE200.out | refine below_set ?_ GE206.out | refine below_set ?_ GE215.out | refine below_set ?_ GE216.out) | exact HB.out)) hb); have n12_ := Aside0.mk (hbox); have n13_ := Aside0.mk ((by rw [hg]; exact (below_size (by repeat (first | (with_reducible first | exact HB.out | apply below_alloc | apply pw_below_drewN | apply below_drew1 | refine below_set ?_ GE184.out | refine below_set ?_ GE199.out | refine below_set ?_ GE200.out | refine below_set ?_ GE206.out | refine below_set ?_ GE215.out | refine below_set ?_ GE216.out) | exact HB.out))) : w.heap.size ≤ gb245)); have n14_ := Aside0.mk ((by rw [hg]; exact (below_size (by repeat (first | (with_reducible first | exact HB.out | apply below_alloc | apply pw_below_drewN | apply below_drew1 | refine below_set ?_ GE184.out | refine below_set ?_ GE199.out | refine below_set ?_ GE200.out | refine below_set ?_ GE206.out | refine below_set ?_ GE215.out | refine below_set ?_ GE216.out) | exact HB.out))) : w.heap.size ≤ gb245)); have n15_ := Aside0.mk ((by rw [hg]; exact Nat.ne_of_lt (blk_lt (g := gb184) (o := .cells #[.slice A0_0 l0_0.length c0_0, .int .i64 a0_1, .int .i64 a0_2] 51 (0, 0)) BK184.out) : gb184 ≠ gb245)); have n16_ := Aside0.mk ((by rw [hg]; exact Nat.ne_of_gt (blk_lt (g := gb184) (o := .cells #[.slice A0_0 l0_0.length c0_0, .int .i64 a0_1, .int .i64 a0_2] 51 (0, 0)) BK184.out) : gb245 ≠ gb184)); have n17_ := Aside0.mk ((by rw [hg]; exact Nat.ne_of_lt (blk_lt (g := gb199) (o := .cells #[.int .i64 t191, .int .i64 t192] 54 (0, 0)) BK199.out) : gb199 ≠ gb245)); have n18_ := Aside0.mk ((by rw [hg]; exact Nat.ne_of_gt (blk_lt (g := gb199) (o := .cells #[.int .i64 t191, .int .i64 t192] 54 (0, 0)) BK199.out) : gb245 ≠ gb199)); have n19_ := Aside0.mk ((by rw [hg]; exact Nat.ne_of_lt (blk_lt (g := gb200) (o := .cells #[.slice Ao25 t193.length co25, .int .i64 t196, .int .i64 t197] 55 (0, 0)) BK200.out) : gb200 ≠ gb245)); have n20_ := Aside0.mk ((by rw [hg]; exact Nat.ne_of_gt (blk_lt (g := gb200) (o := .cells #[.slice Ao25 t193.length co25, .int .i64 t196, .int .i64 t197] 55 (0, 0)) BK200.out) : gb245 ≠ gb200)); have n21_ := Aside0.mk ((by rw [hg]; exact Nat.ne_of_lt (blk_lt (g := gb206) (o := .cells #[.slice Ao31 t226.length co31, .int .i64 t204, .int .i64 t205] 55 (0, 0)) BK206.out) : gb206 ≠ gb245)); have n22_ := Aside0.mk ((by rw [hg]; exact Nat.ne_of_gt (blk_lt (g := gb206) (o := .cells #[.slice Ao31 t226.length co31, .int .i64 t204, .int .i64 t205] 55 (0, 0)) BK206.out) : gb245 ≠ gb206)); have n23_ := Aside0.mk ((by rw [hg]; exact Nat.ne_of_lt (blk_lt (g := gb215) (o := .cells #[.int .i64 t207, .int .i64 t208] 54 (0, 0)) BK215.out) : gb215 ≠ gb245)); have n24_ := Aside0.mk ((by rw [hg]; exact Nat.ne_of_gt (blk_lt (g := gb215) (o := .cells #[.int .i64 t207, .int .i64 t208] 54 (0, 0)) BK215.out) : gb245 ≠ gb215)); have n25_ := Aside0.mk ((by rw [hg]; exact Nat.ne_of_lt (blk_lt (g := gb216) (o := .cells #[.slice Ao45 t209.length co45, .int .i64 t212, .int .i64 t213] 55 (0, 0)) BK216.out) : gb216 ≠ gb245)); have n26_ := Aside0.mk ((by rw [hg]; exact Nat.ne_of_gt (blk_lt (g := gb216) (o := .cells #[.slice Ao45 t209.length co45, .int .i64 t212, .int .i64 t213] 55 (0, 0)) BK216.out) : gb245 ≠ gb216)); clear HO_201000; clear HO_207000; clear HO_217000; clear HO234; clear HO241; clear BK184; clear BK199; clear BK200; clear BK206; clear BK215; clear BK216; clear HB; have HO_201000 := n0_; have HO_207000 := n1_; have HO_217000 := n2_; have HO234 := n3_; have HO241 := n4_; have BK184 := n5_; have BK199 := n6_; have BK200 := n7_; have BK206 := n8_; have BK215 := n9_; have BK216 := n10_; have HB := n11_; have BK245 := n12_; have GW245 := n13_; have GE245 := n14_; have NB184_245 := n15_; have NB245_184 := n16_; have NB199_245 := n17_; have NB245_199 := n18_; have NB200_245 := n19_; have NB245_200 := n20_; have NB206_245 := n21_; have NB245_206 := n22_; have NB215_245 := n23_; have NB245_215 := n24_; have NB216_245 := n25_; have NB245_216 := n26_; clear n0_ n1_ n2_ n3_ n4_ n5_ n6_ n7_ n8_ n9_ n10_ n11_ n12_ n13_ n14_ n15_ n16_ n17_ n18_ n19_ n20_ n21_ n22_ n23_ n24_ n25_ n26_; clear hb hbox hg) | ((with_reducible refine gate_dst (N := 17) rfl ?_); refine box_event ?hg (N := 17) ?hd (cs := #[.slice none 0 0, .int .i64 0, .int .i64 0]) (t := 55) ?hr ?_; (case hd => rfl); (case hg => rfl); (case hr => first | (go_simp; done) | (go_simp; rfl)); intro gb246 hg w216 hbox hb; have n0_ := Aside0.mk (Kd.R_below HO_201000.out hb); have n1_ := Aside0.mk (Kd.R_below HO_207000.out hb); have n2_ := Aside0.mk (Kd.R_below HO_217000.out hb); have n3_ := Aside0.mk (Kd.R_below HO234.out hb); have n4_ := Aside0.mk (Kd.R_below HO241.out hb); have n5_ := Aside0.mk (blk_below (g := gb184) (o := .cells #[.slice A0_0 l0_0.length c0_0, .int .i64 a0_1, .int .i64 a0_2] 51 (0, 0)) BK184.out hb); have n6_ := Aside0.mk (blk_below (g := gb199) (o := .cells #[.int .i64 t191, .int .i64 t192] 54 (0, 0)) BK199.out hb); have n7_ := Aside0.mk (blk_below (g := gb200) (o := .cells #[.slice Ao25 t193.length co25, .int .i64 t196, .int .i64 t197] 55 (0, 0)) BK200.out hb); have n8_ := Aside0.mk (blk_below (g := gb206) (o := .cells #[.slice Ao31 t226.length co31, .int .i64 t204, .int .i64 t205] 55 (0, 0)) BK206.out hb); have n9_ := Aside0.mk (blk_below (g := gb215) (o := .cells #[.int .i64 t207, .int .i64 t208] 54 (0, 0)) BK215.out hb); have n10_ := Aside0.mk (blk_below (g := gb216) (o := .cells #[.slice Ao45 t209.length co45, .int .i64 t212, .int .i64 t213] 55 (0, 0)) BK216.out hb); have n11_ := Aside0.mk (blk_below (g := gb245) (o := .cells #[.int .i64 0, .int .i64 0] 54 (0, 0)) BK245.out hb); have n12_ := Aside0.mk (below_step (by repeat (first | (with_reducible first | exact HB.out | apply below_alloc | apply pw_below_drewN | apply below_drew1 | refine below_set ?_ GE184.out | refine below_set ?_ GE199.out | refine below_set ?_ GE200.out | refine below_set ?_ GE206.out | refine below_set ?_ GE215.out | refine below_set ?_ GE216.out | refine below_set ?_ GE245.out) | exact HB.out)) hb); have n13_ := Aside0.mk (hbox); have n14_ := Aside0.mk ((by rw [hg]; exact (below_size (by repeat (first | (with_reducible first | exact HB.out | apply below_alloc | apply pw_below_drewN | apply below_drew1 | refine below_set ?_ GE184.out | refine below_set ?_ GE199.out | refine below_set ?_ GE200.out | refine below_set ?_ GE206.out | refine below_set ?_ GE215.out | refine below_set ?_ GE216.out | refine below_set ?_ GE245.out) | exact HB.out))) : w.heap.size ≤ gb246)); have n15_ := Aside0.mk ((by rw [hg]; exact (below_size (by repeat (first | (with_reducible first | exact HB.out | apply below_alloc | apply pw_below_drewN | apply below_drew1 | refine below_set ?_ GE184.out | refine below_set ?_ GE199.out | refine below_set ?_ GE200.out | refine below_set ?_ GE206.out | refine below_set ?_ GE215.out | refine below_set ?_ GE216.out | refine below_set ?_ GE245.out) | exact HB.out))) : w.heap.size ≤ gb246)); have n16_ := Aside0.mk ((by rw [hg]; exact Nat.ne_of_lt (blk_lt (g := gb184) (o := .cells #[.slice A0_0 l0_0.length c0_0, .int .i64 a0_1, .int .i64 a0_2] 51 (0, 0)) BK184.out) : gb184 ≠ gb246)); have n17_ := Aside0.mk ((by rw [hg]; exact Nat.ne_of_gt (blk_lt (g := gb184) (o := .cells #[.slice A0_0 l0_0.length c0_0, .int .i64 a0_1, .int .i64 a0_2] 51 (0, 0)) BK184.out) : gb246 ≠ gb184)); have n18_ := Aside0.mk ((by rw [hg]; exact Nat.ne_of_lt (blk_lt (g := gb199) (o := .cells #[.int .i64 t191, .int .i64 t192] 54 (0, 0)) BK199.out) : gb199 ≠ gb246)); have n19_ := Aside0.mk ((by rw [hg]; exact Nat.ne_of_gt (blk_lt (g := gb199) (o := .cells #[.int .i64 t191, .int .i64 t192] 54 (0, 0)) BK199.out) : gb246 ≠ gb199)); have n20_ := Aside0.mk ((by rw [hg]; exact Nat.ne_of_lt (blk_lt (g := gb200) (o := .cells #[.slice Ao25 t193.length co25, .int .i64 t196, .int .i64 t197] 55 (0, 0)) BK200.out) : gb200 ≠ gb246)); have n21_ := Aside0.mk ((by rw [hg]; exact Nat.ne_of_gt (blk_lt (g := gb200) (o := .cells #[.slice Ao25 t193.length co25, .int .i64 t196, .int .i64 t197] 55 (0, 0)) BK200.out) : gb246 ≠ gb200)); have n22_ := Aside0.mk ((by rw [hg]; exact Nat.ne_of_lt (blk_lt (g := gb206) (o := .cells #[.slice Ao31 t226.length co31, .int .i64 t204, .int .i64 t205] 55 (0, 0)) BK206.out) : gb206 ≠ gb246)); have n23_ := Aside0.mk ((by rw [hg]; exact Nat.ne_of_gt (blk_lt (g := gb206) (o := .cells #[.slice Ao31 t226.length co31, .int .i64 t204, .int .i64 t205] 55 (0, 0)) BK206.out) : gb246 ≠ gb206)); have n24_ := Aside0.mk ((by rw [hg]; exact Nat.ne_of_lt (blk_lt (g := gb215) (o := .cells #[.int .i64 t207, .int .i64 t208] 54 (0, 0)) BK215.out) : gb215 ≠ gb246)); have n25_ := Aside0.mk ((by rw [hg]; exact Nat.ne_of_gt (blk_lt (g := gb215) (o := .cells #[.int .i64 t207, .int .i64 t208] 54 (0, 0)) BK215.out) : gb246 ≠ gb215)); have n26_ := Aside0.mk ((by rw [hg]; exact Nat.ne_of_lt (blk_lt (g := gb216) (o := .cells #[.slice Ao45 t209.length co45, .int .i64 t212, .int .i64 t213] 55 (0, 0)) BK216.out) : gb216 ≠ gb246)); have n27_ := Aside0.mk ((by rw [hg]; exact Nat.ne_of_gt (blk_lt (g := gb216) (o := .cells #[.slice Ao45 t209.length co45, .int .i64 t212, .int .i64 t213] 55 (0, 0)) BK216.out) : gb246 ≠ gb216)); have n28_ := Aside0.mk ((by rw [hg]; exact Nat.ne_of_lt (blk_lt (g := gb245) (o := .cells #[.int .i64 0, .int .i64 0] 54 (0, 0)) BK245.out) : gb245 ≠ gb246)); have n29_ := Aside0.mk ((by rw [hg]; exact Nat.ne_of_gt (blk_lt (g := gb245) (o := .cells #[.int .i64 0, .int .i64 0] 54 (0, 0)) BK245.out) : gb246 ≠ gb245)); clear HO_201000; clear HO_207000; clear HO_217000; clear HO234; clear HO241; clear BK184; clear BK199; clear BK200; clear BK206; clear BK215; clear BK216; clear BK245; clear HB; have HO_201000 := n0_; have HO_207000 := n1_; have HO_217000 := n2_; have HO234 := n3_; have HO241 := n4_; have BK184 := n5_; have BK199 := n6_; have BK200 := n7_; have BK206 := n8_; have BK215 := n9_; have BK216 := n10_; have BK245 := n11_; have HB := n12_; have BK246 := n13_; have GW246 := n14_; have GE246 := n15_; have NB184_246 := n16_; have NB246_184 := n17_; have NB199_246 := n18_; have NB246_199 := n19_; have NB200_246 := n20_; have NB246_200 := n21_; have NB206_246 := n22_; have NB246_206 := n23_; have NB215_246 := n24_; have NB246_215 := n25_; have NB216_246 := n26_; have NB246_216 := n27_; have NB245_246 := n28_; have NB246_245 := n29_; clear n0_ n1_ n2_ n3_ n4_ n5_ n6_ n7_ n8_ n9_ n10_ n11_ n12_ n13_ n14_ n15_ n16_ n17_ n18_ n19_ n20_ n21_ n22_ n23_ n24_ n25_ n26_ n27_ n28_ n29_; clear hb hbox hg; have hnb217 := NB245_184.out; have hnc217 := NB184_245.out; have hnb218 := NB245_199.out; have hnc218 := NB199_245.out; have hnb219 := NB245_200.out; have hnc219 := NB200_245.out; have hnb220 := NB245_206.out; have hnc220 := NB206_245.out; have hnb221 := NB245_215.out; have hnc221 := NB215_245.out; have hnb222 := NB245_216.out; have hnc222 := NB216_245.out; have hnb223 := NB245_246.out; have hnc223 := NB246_245.out; have hcz224_0 : w216.cell? ⟨gb245, 0, none⟩ = some (.int .i64 0) := (blk_cell BK245.out 0).trans rfl; have hcz224_1 : w216.cell? ⟨gb245, 1, none⟩ = some (.int .i64 0) := (blk_cell BK245.out 1).trans rfl; have hfz224_0 := blk_frozen BK245.out 0; have hfz224_1 := blk_frozen BK245.out 1; obtain ⟨Ao225, co225, eo225⟩ := Kd.R_slice HO241.out; subst eo225; have hnb226 := NB246_184.out; have hnc226 := NB184_246.out; have hnb227 := NB246_199.out; have hnc227 := NB199_246.out; have hnb228 := NB246_200.out; have hnc228 := NB200_246.out; have hnb229 := NB246_206.out; have hnc229 := NB206_246.out; have hnb230 := NB246_215.out; have hnc230 := NB215_246.out; have hnb231 := NB246_216.out; have hnc231 := NB216_246.out; have hcz232_0 : w216.cell? ⟨gb246, 0, none⟩ = some (.slice none 0 0) := (blk_cell BK246.out 0).trans rfl; have hcz232_1 : w216.cell? ⟨gb246, 1, none⟩ = some (.int .i64 0) := (blk_cell BK246.out 1).trans rfl; have hcz232_2 : w216.cell? ⟨gb246, 2, none⟩ = some (.int .i64 0) := (blk_cell BK246.out 2).trans rfl; have hfz232_0 := blk_frozen BK246.out 0; have hfz232_1 := blk_frozen BK246.out 1; have hfz232_2 := blk_frozen BK246.out 2))
                      (try simp only [Act.put, List.setIfInBounds_toArray, List.set_cons_zero, List.set_cons_succ])
                      go_cut [116] (fun v116 wc => ∃ (kq : Nat) (x116_196 : Bool), v116 = .bool x116_196 ∧ Aside0 (laws_FnExactSendNext.j2 kq t229 x116_196 t230 t212 t213 = some r) ∧ Aside0 (kq ≤ kj111) ∧ Aside0 (Kd.R (Kd.int .i64) 3 wc w.heap.size (fun k_ => some k_ ≠ ((.slice Ao31 t226.length co31) : Value).ownBlock ∧ some k_ ≠ ((.slice Ao45 t209.length co45) : Value).ownBlock ∧ some k_ ≠ ((.slice Ao225 t239.length co225) : Value).ownBlock) (.slice Ao25 t193.length co25) t193) ∧ Aside0 (Kd.R (Kd.int .i64) 3 wc w.heap.size (fun k_ => some k_ ≠ ((.slice Ao25 t193.length co25) : Value).ownBlock ∧ some k_ ≠ ((.slice Ao45 t209.length co45) : Value).ownBlock ∧ some k_ ≠ ((.slice Ao225 t239.length co225) : Value).ownBlock) (.slice Ao31 t226.length co31) t226) ∧ Aside0 (Kd.R (Kd.int .i64) 3 wc w.heap.size (fun k_ => some k_ ≠ ((.slice Ao25 t193.length co25) : Value).ownBlock ∧ some k_ ≠ ((.slice Ao31 t226.length co31) : Value).ownBlock ∧ some k_ ≠ ((.slice Ao225 t239.length co225) : Value).ownBlock) (.slice Ao45 t209.length co45) t230) ∧ Aside0 (Kd.R (Kd.int .i64) 3 wc w.heap.size (fun k_ => some k_ ≠ ((.slice Ao25 t193.length co25) : Value).ownBlock ∧ some k_ ≠ ((.slice Ao31 t226.length co31) : Value).ownBlock ∧ some k_ ≠ ((.slice Ao45 t209.length co45) : Value).ownBlock) (.slice Ao225 t239.length co225) t239) ∧ Aside0 (wc.heap[gb184]? = some (.cells #[(.slice A0_0 l0_0.length c0_0), .int .i64 a0_1, .int .i64 a0_2] 51 (0, 0))) ∧ Aside0 (wc.heap[gb199]? = some (.cells #[.int .i64 t191, .int .i64 t192] 54 (0, 0))) ∧ Aside0 (wc.heap[gb200]? = some (.cells #[(.slice Ao25 t193.length co25), .int .i64 t196, .int .i64 t197] 55 (0, 0))) ∧ Aside0 (wc.heap[gb206]? = some (.cells #[(.slice Ao31 t226.length co31), .int .i64 t204, .int .i64 t205] 55 (0, 0))) ∧ Aside0 (wc.heap[gb215]? = some (.cells #[.int .i64 t207, .int .i64 t208] 54 (0, 0))) ∧ Aside0 (wc.heap[gb216]? = some (.cells #[(.slice Ao45 t209.length co45), .int .i64 t212, .int .i64 t213] 55 (0, 0))) ∧ Aside0 (wc.heap[gb245]? = some (.cells #[.int .i64 t237, .int .i64 t238] 54 (0, 0))) ∧ Aside0 (wc.heap[gb246]? = some (.cells #[(.slice Ao225 t239.length co225), .int .i64 t242, .int .i64 t243] 55 (0, 0))) ∧ Aside0 (Below w.heap.size w wc))
                      case first =>
                        have H := HC197.out
                        clear HC197
                        replace H := Option.bind_eq_some_iff.mp H
                        obtain ⟨t247, A2330, H⟩ := H
                        replace H : (if t247 = true then ((laws_eqSender.f kj111 t239 t242 t243 t193 t196 t197).bind fun t248 => (if t248 = true then (laws_FnExactSendNext.j2 kj111 t229 (t244 != t198) t230 t212 t213) else (laws_FnExactSendNext.j2 kj111 t229 true t230 t212 t213))) else (laws_FnExactSendNext.j2 kj111 t229 true t230 t212 t213)) = some r := H
                        have A233 := Aside0.mk A2330
                        clear A2330
                        by_cases c234 : t247 = true
                        · subst c234
                          have H1 : ((laws_eqSender.f kj111 t239 t242 t243 t193 t196 t197).bind fun t248 => (if t248 = true then (laws_FnExactSendNext.j2 kj111 t229 (t244 != t198) t230 t212 t213) else (laws_FnExactSendNext.j2 kj111 t229 true t230 t212 t213))) = some r := by rw [if_pos rfl] at H; exact H
                          clear H
                          have H := H1
                          clear H1
                          replace H := Option.bind_eq_some_iff.mp H
                          obtain ⟨t248, A2350, H⟩ := H
                          replace H : (if t248 = true then (laws_FnExactSendNext.j2 kj111 t229 (t244 != t198) t230 t212 t213) else (laws_FnExactSendNext.j2 kj111 t229 true t230 t212 t213)) = some r := H
                          have A235 := Aside0.mk A2350
                          clear A2350
                          by_cases c236 : t248 = true
                          · subst c236
                            have H1 : (laws_FnExactSendNext.j2 kj111 t229 (t244 != t198) t230 t212 t213) = some r := by rw [if_pos rfl] at H; exact H
                            clear H
                            have H := H1
                            clear H1
                            have H' := Aside0.mk H
                            clear H
                            have hnb237 := NB245_184.out
                            have hnc237 := NB184_245.out
                            have hnb238 := NB245_199.out
                            have hnc238 := NB199_245.out
                            have hnb239 := NB245_200.out
                            have hnc239 := NB200_245.out
                            have hnb240 := NB245_206.out
                            have hnc240 := NB206_245.out
                            have hnb241 := NB245_215.out
                            have hnc241 := NB215_245.out
                            have hnb242 := NB245_216.out
                            have hnc242 := NB216_245.out
                            have hnb243 := NB245_246.out
                            have hnc243 := NB246_245.out
                            have hcz244_0 : w216.cell? ⟨gb245, 0, none⟩ = some (.int .i64 0) := (blk_cell BK245.out 0).trans rfl
                            have hcz244_1 : w216.cell? ⟨gb245, 1, none⟩ = some (.int .i64 0) := (blk_cell BK245.out 1).trans rfl
                            have hfz244_0 := blk_frozen BK245.out 0
                            have hfz244_1 := blk_frozen BK245.out 1
                            have hnb245 := NB199_184.out
                            have hnc245 := NB184_199.out
                            have hnb246 := NB199_200.out
                            have hnc246 := NB200_199.out
                            have hnb247 := NB199_206.out
                            have hnc247 := NB206_199.out
                            have hnb248 := NB199_215.out
                            have hnc248 := NB215_199.out
                            have hnb249 := NB199_216.out
                            have hnc249 := NB216_199.out
                            have hnb250 := NB199_246.out
                            have hnc250 := NB246_199.out
                            have hcz251_0 : w216.cell? ⟨gb199, 0, none⟩ = some (.int .i64 t191) := (blk_cell BK199.out 0).trans rfl
                            have hcz251_1 : w216.cell? ⟨gb199, 1, none⟩ = some (.int .i64 t192) := (blk_cell BK199.out 1).trans rfl
                            have hfz251_0 := blk_frozen BK199.out 0
                            have hfz251_1 := blk_frozen BK199.out 1
                            go_wp2_with (first | ((with_reducible refine gate_callee (f := 33) rfl ?_); refine goesL_ (some 104) rfl rfl Try.func33 (by kernel_rfl) rfl #[.agg #[.int .i64 t237, .int .i64 t238], .agg #[.int .i64 t191, .int .i64 t192]] rfl (by (try simp only [List.map_toArray, List.map_cons, List.map_nil]); first | done | rfl | (simp only [List.length_drop, List.length_take]; rfl)) ?_; (with_reducible refine (laws_eqParcel.calls t237 t238 t191 t192 true _ A233.out).mono ?_); rintro e w252 ⟨rfl, hb⟩; refine ⟨_, rfl, ?_⟩; have n0_ := Aside0.mk (Kd.R_below (by exact (Kd.R_mono (Kd.R_mono (Kd.R_far (p := ⟨gb246, 2, none⟩) (Kd.R_far (p := ⟨gb246, 1, none⟩) (Kd.R_far (p := ⟨gb246, 0, none⟩) (Kd.R_far (p := ⟨gb245, 1, none⟩) (Kd.R_far (p := ⟨gb245, 0, none⟩) (Kd.R_types (Kd.R_types HO_201000.out BK245.out (by decide)) BK246.out (by decide)) (fun _ hk => hk.1.2) (.int .i64 t237)) (fun _ hk => hk.1.2) (.int .i64 t238)) (fun _ hk => hk.2) (.slice Ao225 t239.length co225)) (fun _ hk => hk.2) (.int .i64 t242)) (fun _ hk => hk.2) (.int .i64 t243)) (fun _ h_ => h_.1)) (fun _ h_ => h_.1))) hb); have n1_ := Aside0.mk (Kd.R_below (by exact (Kd.R_mono (Kd.R_mono (Kd.R_far (p := ⟨gb246, 2, none⟩) (Kd.R_far (p := ⟨gb246, 1, none⟩) (Kd.R_far (p := ⟨gb246, 0, none⟩) (Kd.R_far (p := ⟨gb245, 1, none⟩) (Kd.R_far (p := ⟨gb245, 0, none⟩) (Kd.R_types (Kd.R_types HO_207000.out BK245.out (by decide)) BK246.out (by decide)) (fun _ hk => hk.1.2) (.int .i64 t237)) (fun _ hk => hk.1.2) (.int .i64 t238)) (fun _ hk => hk.2) (.slice Ao225 t239.length co225)) (fun _ hk => hk.2) (.int .i64 t242)) (fun _ hk => hk.2) (.int .i64 t243)) (fun _ h_ => h_.1)) (fun _ h_ => h_.1))) hb); have n2_ := Aside0.mk (Kd.R_below (by exact (Kd.R_mono (Kd.R_mono (Kd.R_far (p := ⟨gb246, 2, none⟩) (Kd.R_far (p := ⟨gb246, 1, none⟩) (Kd.R_far (p := ⟨gb246, 0, none⟩) (Kd.R_far (p := ⟨gb245, 1, none⟩) (Kd.R_far (p := ⟨gb245, 0, none⟩) (Kd.R_types (Kd.R_types HO_217000.out BK245.out (by decide)) BK246.out (by decide)) (fun _ hk => hk.1.2) (.int .i64 t237)) (fun _ hk => hk.1.2) (.int .i64 t238)) (fun _ hk => hk.2) (.slice Ao225 t239.length co225)) (fun _ hk => hk.2) (.int .i64 t242)) (fun _ hk => hk.2) (.int .i64 t243)) (fun _ h_ => h_.1)) (fun _ h_ => h_.1))) hb); have n3_ := Aside0.mk (Kd.R_below (by exact (Kd.R_mono (Kd.R_mono (Kd.R_far (p := ⟨gb246, 2, none⟩) (Kd.R_far (p := ⟨gb246, 1, none⟩) (Kd.R_far (p := ⟨gb246, 0, none⟩) (Kd.R_far (p := ⟨gb245, 1, none⟩) (Kd.R_far (p := ⟨gb245, 0, none⟩) (Kd.R_types (Kd.R_types HO234.out BK245.out (by decide)) BK246.out (by decide)) (fun _ hk => hk.1.2) (.int .i64 t237)) (fun _ hk => hk.1.2) (.int .i64 t238)) (fun _ hk => hk.2) (.slice Ao225 t239.length co225)) (fun _ hk => hk.2) (.int .i64 t242)) (fun _ hk => hk.2) (.int .i64 t243)) (fun _ h_ => h_.1)) (fun _ h_ => h_.1))) hb); have n4_ := Aside0.mk (Kd.R_below (by exact (Kd.R_mono (Kd.R_mono (Kd.R_far (p := ⟨gb246, 2, none⟩) (Kd.R_far (p := ⟨gb246, 1, none⟩) (Kd.R_far (p := ⟨gb246, 0, none⟩) (Kd.R_far (p := ⟨gb245, 1, none⟩) (Kd.R_far (p := ⟨gb245, 0, none⟩) (Kd.R_types (Kd.R_types HO241.out BK245.out (by decide)) BK246.out (by decide)) (fun _ hk => hk.1.2) (.int .i64 t237)) (fun _ hk => hk.1.2) (.int .i64 t238)) (fun _ hk => hk.2) (.slice Ao225 t239.length co225)) (fun _ hk => hk.2) (.int .i64 t242)) (fun _ hk => hk.2) (.int .i64 t243)) (fun _ h_ => h_.1)) (fun _ h_ => h_.1))) hb); have n5_ := Aside0.mk (blk_below (g := gb184) (o := .cells #[.slice A0_0 l0_0.length c0_0, .int .i64 a0_1, .int .i64 a0_2] 51 (0, 0)) (by refine blk_far ?_ NB184_246.out _; refine blk_far ?_ NB184_246.out _; refine blk_far ?_ NB184_246.out _; refine blk_far ?_ NB184_245.out _; refine blk_far ?_ NB184_245.out _; exact BK184.out) hb); have n6_ := Aside0.mk (blk_below (g := gb199) (o := .cells #[.int .i64 t191, .int .i64 t192] 54 (0, 0)) (by refine blk_far ?_ NB199_246.out _; refine blk_far ?_ NB199_246.out _; refine blk_far ?_ NB199_246.out _; refine blk_far ?_ NB199_245.out _; refine blk_far ?_ NB199_245.out _; exact BK199.out) hb); have n7_ := Aside0.mk (blk_below (g := gb200) (o := .cells #[.slice Ao25 t193.length co25, .int .i64 t196, .int .i64 t197] 55 (0, 0)) (by refine blk_far ?_ NB200_246.out _; refine blk_far ?_ NB200_246.out _; refine blk_far ?_ NB200_246.out _; refine blk_far ?_ NB200_245.out _; refine blk_far ?_ NB200_245.out _; exact BK200.out) hb); have n8_ := Aside0.mk (blk_below (g := gb206) (o := .cells #[.slice Ao31 t226.length co31, .int .i64 t204, .int .i64 t205] 55 (0, 0)) (by refine blk_far ?_ NB206_246.out _; refine blk_far ?_ NB206_246.out _; refine blk_far ?_ NB206_246.out _; refine blk_far ?_ NB206_245.out _; refine blk_far ?_ NB206_245.out _; exact BK206.out) hb); have n9_ := Aside0.mk (blk_below (g := gb215) (o := .cells #[.int .i64 t207, .int .i64 t208] 54 (0, 0)) (by refine blk_far ?_ NB215_246.out _; refine blk_far ?_ NB215_246.out _; refine blk_far ?_ NB215_246.out _; refine blk_far ?_ NB215_245.out _; refine blk_far ?_ NB215_245.out _; exact BK215.out) hb); have n10_ := Aside0.mk (blk_below (g := gb216) (o := .cells #[.slice Ao45 t209.length co45, .int .i64 t212, .int .i64 t213] 55 (0, 0)) (by refine blk_far ?_ NB216_246.out _; refine blk_far ?_ NB216_246.out _; refine blk_far ?_ NB216_246.out _; refine blk_far ?_ NB216_245.out _; refine blk_far ?_ NB216_245.out _; exact BK216.out) hb); have n11_ := Aside0.mk (blk_below (g := gb245) (o := .cells #[.int .i64 t237, .int .i64 t238] 54 (0, 0)) (by refine blk_far ?_ NB245_246.out _; refine blk_far ?_ NB245_246.out _; refine blk_far ?_ NB245_246.out _; refine blk_put (cs := #[.int .i64 t237, .int .i64 0]) ?_ 1 _ rfl; refine blk_put (cs := #[.int .i64 0, .int .i64 0]) ?_ 0 _ rfl; exact BK245.out) hb); have n12_ := Aside0.mk (blk_below (g := gb246) (o := .cells #[.slice Ao225 t239.length co225, .int .i64 t242, .int .i64 t243] 55 (0, 0)) (by refine blk_put (cs := #[.slice Ao225 t239.length co225, .int .i64 t242, .int .i64 0]) ?_ 2 _ rfl; refine blk_put (cs := #[.slice Ao225 t239.length co225, .int .i64 0, .int .i64 0]) ?_ 1 _ rfl; refine blk_put (cs := #[.slice none 0 0, .int .i64 0, .int .i64 0]) ?_ 0 _ rfl; refine blk_far ?_ NB246_245.out _; refine blk_far ?_ NB246_245.out _; exact BK246.out) hb); have n13_ := Aside0.mk (below_step (by repeat (first | (with_reducible first | exact HB.out | apply below_alloc | apply pw_below_drewN | apply below_drew1 | refine below_set ?_ GE184.out | refine below_set ?_ GE199.out | refine below_set ?_ GE200.out | refine below_set ?_ GE206.out | refine below_set ?_ GE215.out | refine below_set ?_ GE216.out | refine below_set ?_ GE245.out | refine below_set ?_ GE246.out) | exact HB.out)) hb); clear HO_201000; clear HO_207000; clear HO_217000; clear HO234; clear HO241; clear BK184; clear BK199; clear BK200; clear BK206; clear BK215; clear BK216; clear BK245; clear BK246; clear HB; have HO_201000 := n0_; have HO_207000 := n1_; have HO_217000 := n2_; have HO234 := n3_; have HO241 := n4_; have BK184 := n5_; have BK199 := n6_; have BK200 := n7_; have BK206 := n8_; have BK215 := n9_; have BK216 := n10_; have BK245 := n11_; have BK246 := n12_; have HB := n13_; clear n0_ n1_ n2_ n3_ n4_ n5_ n6_ n7_ n8_ n9_ n10_ n11_ n12_ n13_; (try clear hb); (try clear hb2); (try clear hk); (try clear hi); have hnb253 := NB246_184.out; have hnc253 := NB184_246.out; have hnb254 := NB246_200.out; have hnc254 := NB200_246.out; have hnb255 := NB246_206.out; have hnc255 := NB206_246.out; have hnb256 := NB246_215.out; have hnc256 := NB215_246.out; have hnb257 := NB246_216.out; have hnc257 := NB216_246.out; have hcz258_0 : w252.cell? ⟨gb246, 0, none⟩ = some (.slice Ao225 t239.length co225) := (blk_cell BK246.out 0).trans rfl; have hcz258_1 : w252.cell? ⟨gb246, 1, none⟩ = some (.int .i64 t242) := (blk_cell BK246.out 1).trans rfl; have hcz258_2 : w252.cell? ⟨gb246, 2, none⟩ = some (.int .i64 t243) := (blk_cell BK246.out 2).trans rfl; have hfz258_0 := blk_frozen BK246.out 0; have hfz258_1 := blk_frozen BK246.out 1; have hfz258_2 := blk_frozen BK246.out 2; have hnb259 := NB200_184.out; have hnc259 := NB184_200.out; have hnb260 := NB200_206.out; have hnc260 := NB206_200.out; have hnb261 := NB200_215.out; have hnc261 := NB215_200.out; have hnb262 := NB200_216.out; have hnc262 := NB216_200.out; have hcz263_0 : w252.cell? ⟨gb200, 0, none⟩ = some (.slice Ao25 t193.length co25) := (blk_cell BK200.out 0).trans rfl; have hcz263_1 : w252.cell? ⟨gb200, 1, none⟩ = some (.int .i64 t196) := (blk_cell BK200.out 1).trans rfl; have hcz263_2 : w252.cell? ⟨gb200, 2, none⟩ = some (.int .i64 t197) := (blk_cell BK200.out 2).trans rfl; have hfz263_0 := blk_frozen BK200.out 0; have hfz263_1 := blk_frozen BK200.out 1; have hfz263_2 := blk_frozen BK200.out 2) | (go_at_call 34; (with_reducible refine (laws_eqSender.calls kj111 _ _ t239 t242 t243 _ _ t193 t196 t197 true _ ?side1 ?side2 ?side3 ?side4 A235.out).mono ?_); (case side1 => repeat (first | exact (Kd.R_reads' HO241.out).2.2 | (with_reducible refine Kd.C_alloc ?_ _) | (with_reducible refine Kd.C_drewN ?_ _) | (with_reducible refine Kd.C_drew ?_))); (case side2 => exact (Kd.R_reads' HO241.out).2.1); (case side3 => repeat (first | exact (Kd.R_reads' HO_201000.out).2.2 | (with_reducible refine Kd.C_alloc ?_ _) | (with_reducible refine Kd.C_drewN ?_ _) | (with_reducible refine Kd.C_drew ?_))); (case side4 => exact (Kd.R_reads' HO_201000.out).2.1); rintro e w264 ⟨rfl, hb⟩; have n0_ := Aside0.mk (Kd.R_below HO_201000.out hb); have n1_ := Aside0.mk (Kd.R_below HO_207000.out hb); have n2_ := Aside0.mk (Kd.R_below HO_217000.out hb); have n3_ := Aside0.mk (Kd.R_below HO234.out hb); have n4_ := Aside0.mk (Kd.R_below HO241.out hb); have n5_ := Aside0.mk (blk_below (g := gb184) (o := .cells #[.slice A0_0 l0_0.length c0_0, .int .i64 a0_1, .int .i64 a0_2] 51 (0, 0)) BK184.out hb); have n6_ := Aside0.mk (blk_below (g := gb199) (o := .cells #[.int .i64 t191, .int .i64 t192] 54 (0, 0)) BK199.out hb); have n7_ := Aside0.mk (blk_below (g := gb200) (o := .cells #[.slice Ao25 t193.length co25, .int .i64 t196, .int .i64 t197] 55 (0, 0)) BK200.out hb); have n8_ := Aside0.mk (blk_below (g := gb206) (o := .cells #[.slice Ao31 t226.length co31, .int .i64 t204, .int .i64 t205] 55 (0, 0)) BK206.out hb); have n9_ := Aside0.mk (blk_below (g := gb215) (o := .cells #[.int .i64 t207, .int .i64 t208] 54 (0, 0)) BK215.out hb); have n10_ := Aside0.mk (blk_below (g := gb216) (o := .cells #[.slice Ao45 t209.length co45, .int .i64 t212, .int .i64 t213] 55 (0, 0)) BK216.out hb); have n11_ := Aside0.mk (blk_below (g := gb245) (o := .cells #[.int .i64 t237, .int .i64 t238] 54 (0, 0)) BK245.out hb); have n12_ := Aside0.mk (blk_below (g := gb246) (o := .cells #[.slice Ao225 t239.length co225, .int .i64 t242, .int .i64 t243] 55 (0, 0)) BK246.out hb); have n13_ := Aside0.mk (below_step (by repeat (first | (with_reducible first | exact HB.out | apply below_alloc | apply pw_below_drewN | apply below_drew1 | refine below_set ?_ GE184.out | refine below_set ?_ GE199.out | refine below_set ?_ GE200.out | refine below_set ?_ GE206.out | refine below_set ?_ GE215.out | refine below_set ?_ GE216.out | refine below_set ?_ GE245.out | refine below_set ?_ GE246.out) | exact HB.out)) hb); clear HO_201000; clear HO_207000; clear HO_217000; clear HO234; clear HO241; clear BK184; clear BK199; clear BK200; clear BK206; clear BK215; clear BK216; clear BK245; clear BK246; clear HB; have HO_201000 := n0_; have HO_207000 := n1_; have HO_217000 := n2_; have HO234 := n3_; have HO241 := n4_; have BK184 := n5_; have BK199 := n6_; have BK200 := n7_; have BK206 := n8_; have BK215 := n9_; have BK216 := n10_; have BK245 := n11_; have BK246 := n12_; have HB := n13_; clear n0_ n1_ n2_ n3_ n4_ n5_ n6_ n7_ n8_ n9_ n10_ n11_ n12_ n13_; (try clear hb); (try clear hb2); (try clear hk); (try clear hi)))
                            go_meet
                            case rel => exact ⟨_, ((t244 != t198)), (by first | rfl | (simp; done) | (simp [*]; done)), H', ⟨by have := HJ11.out; have := HJ111.out; first | omega | exact Nat.le_refl _⟩, ⟨by (try simp only [hl207000_111]); exact Kd.R_mono HO_201000.out (fun _ hk => ⟨hk.1.1.1, ⟨hk.1.1.2, hk.2⟩⟩)⟩, ⟨by (try simp only [hl207000_111]); exact Kd.R_mono HO_207000.out (fun _ hk => ⟨hk.1.1.1, ⟨hk.1.1.2, hk.2⟩⟩)⟩, ⟨by (try simp only [hl207000_111]); exact Kd.R_mono HO_217000.out (fun _ hk => ⟨hk.1.1.1, ⟨hk.1.1.2, hk.2⟩⟩)⟩, ⟨by (try simp only [hl207000_111]); exact Kd.R_mono HO241.out (fun _ hk => ⟨hk.1.1.1.2, ⟨hk.1.1.2, hk.1.2⟩⟩)⟩, ⟨by (try simp only [hl207000_111]); exact BK184.out⟩, ⟨by (try simp only [hl207000_111]); exact BK199.out⟩, ⟨by (try simp only [hl207000_111]); exact BK200.out⟩, ⟨by (try simp only [hl207000_111]); exact BK206.out⟩, ⟨by (try simp only [hl207000_111]); exact BK215.out⟩, ⟨by (try simp only [hl207000_111]); exact BK216.out⟩, ⟨by (try simp only [hl207000_111]); exact BK245.out⟩, ⟨by (try simp only [hl207000_111]); exact BK246.out⟩, ⟨by repeat (first | (with_reducible first | exact HB.out | apply below_alloc | apply pw_below_drewN | apply below_drew1 | refine below_set ?_ GE184.out | refine below_set ?_ GE199.out | refine below_set ?_ GE200.out | refine below_set ?_ GE206.out | refine below_set ?_ GE215.out | refine below_set ?_ GE216.out | refine below_set ?_ GE245.out | refine below_set ?_ GE246.out) | exact HB.out)⟩⟩
                          · replace c236 := Bool.eq_false_iff.mpr c236
                            subst c236
                            have H1 : (laws_FnExactSendNext.j2 kj111 t229 true t230 t212 t213) = some r := by rw [if_neg (show ¬ (false = true) by decide)] at H; exact H
                            clear H
                            have H := H1
                            clear H1
                            have H' := Aside0.mk H
                            clear H
                            have hnb265 := NB245_184.out
                            have hnc265 := NB184_245.out
                            have hnb266 := NB245_199.out
                            have hnc266 := NB199_245.out
                            have hnb267 := NB245_200.out
                            have hnc267 := NB200_245.out
                            have hnb268 := NB245_206.out
                            have hnc268 := NB206_245.out
                            have hnb269 := NB245_215.out
                            have hnc269 := NB215_245.out
                            have hnb270 := NB245_216.out
                            have hnc270 := NB216_245.out
                            have hnb271 := NB245_246.out
                            have hnc271 := NB246_245.out
                            have hcz272_0 : w216.cell? ⟨gb245, 0, none⟩ = some (.int .i64 0) := (blk_cell BK245.out 0).trans rfl
                            have hcz272_1 : w216.cell? ⟨gb245, 1, none⟩ = some (.int .i64 0) := (blk_cell BK245.out 1).trans rfl
                            have hfz272_0 := blk_frozen BK245.out 0
                            have hfz272_1 := blk_frozen BK245.out 1
                            have hnb273 := NB199_184.out
                            have hnc273 := NB184_199.out
                            have hnb274 := NB199_200.out
                            have hnc274 := NB200_199.out
                            have hnb275 := NB199_206.out
                            have hnc275 := NB206_199.out
                            have hnb276 := NB199_215.out
                            have hnc276 := NB215_199.out
                            have hnb277 := NB199_216.out
                            have hnc277 := NB216_199.out
                            have hnb278 := NB199_246.out
                            have hnc278 := NB246_199.out
                            have hcz279_0 : w216.cell? ⟨gb199, 0, none⟩ = some (.int .i64 t191) := (blk_cell BK199.out 0).trans rfl
                            have hcz279_1 : w216.cell? ⟨gb199, 1, none⟩ = some (.int .i64 t192) := (blk_cell BK199.out 1).trans rfl
                            have hfz279_0 := blk_frozen BK199.out 0
                            have hfz279_1 := blk_frozen BK199.out 1
                            go_wp2_with (first | ((with_reducible refine gate_callee (f := 33) rfl ?_); refine goesL_ (some 104) rfl rfl Try.func33 (by kernel_rfl) rfl #[.agg #[.int .i64 t237, .int .i64 t238], .agg #[.int .i64 t191, .int .i64 t192]] rfl (by (try simp only [List.map_toArray, List.map_cons, List.map_nil]); first | done | rfl | (simp only [List.length_drop, List.length_take]; rfl)) ?_; (with_reducible refine (laws_eqParcel.calls t237 t238 t191 t192 true _ A233.out).mono ?_); rintro e w280 ⟨rfl, hb⟩; refine ⟨_, rfl, ?_⟩; have n0_ := Aside0.mk (Kd.R_below (by exact (Kd.R_mono (Kd.R_mono (Kd.R_far (p := ⟨gb246, 2, none⟩) (Kd.R_far (p := ⟨gb246, 1, none⟩) (Kd.R_far (p := ⟨gb246, 0, none⟩) (Kd.R_far (p := ⟨gb245, 1, none⟩) (Kd.R_far (p := ⟨gb245, 0, none⟩) (Kd.R_types (Kd.R_types HO_201000.out BK245.out (by decide)) BK246.out (by decide)) (fun _ hk => hk.1.2) (.int .i64 t237)) (fun _ hk => hk.1.2) (.int .i64 t238)) (fun _ hk => hk.2) (.slice Ao225 t239.length co225)) (fun _ hk => hk.2) (.int .i64 t242)) (fun _ hk => hk.2) (.int .i64 t243)) (fun _ h_ => h_.1)) (fun _ h_ => h_.1))) hb); have n1_ := Aside0.mk (Kd.R_below (by exact (Kd.R_mono (Kd.R_mono (Kd.R_far (p := ⟨gb246, 2, none⟩) (Kd.R_far (p := ⟨gb246, 1, none⟩) (Kd.R_far (p := ⟨gb246, 0, none⟩) (Kd.R_far (p := ⟨gb245, 1, none⟩) (Kd.R_far (p := ⟨gb245, 0, none⟩) (Kd.R_types (Kd.R_types HO_207000.out BK245.out (by decide)) BK246.out (by decide)) (fun _ hk => hk.1.2) (.int .i64 t237)) (fun _ hk => hk.1.2) (.int .i64 t238)) (fun _ hk => hk.2) (.slice Ao225 t239.length co225)) (fun _ hk => hk.2) (.int .i64 t242)) (fun _ hk => hk.2) (.int .i64 t243)) (fun _ h_ => h_.1)) (fun _ h_ => h_.1))) hb); have n2_ := Aside0.mk (Kd.R_below (by exact (Kd.R_mono (Kd.R_mono (Kd.R_far (p := ⟨gb246, 2, none⟩) (Kd.R_far (p := ⟨gb246, 1, none⟩) (Kd.R_far (p := ⟨gb246, 0, none⟩) (Kd.R_far (p := ⟨gb245, 1, none⟩) (Kd.R_far (p := ⟨gb245, 0, none⟩) (Kd.R_types (Kd.R_types HO_217000.out BK245.out (by decide)) BK246.out (by decide)) (fun _ hk => hk.1.2) (.int .i64 t237)) (fun _ hk => hk.1.2) (.int .i64 t238)) (fun _ hk => hk.2) (.slice Ao225 t239.length co225)) (fun _ hk => hk.2) (.int .i64 t242)) (fun _ hk => hk.2) (.int .i64 t243)) (fun _ h_ => h_.1)) (fun _ h_ => h_.1))) hb); have n3_ := Aside0.mk (Kd.R_below (by exact (Kd.R_mono (Kd.R_mono (Kd.R_far (p := ⟨gb246, 2, none⟩) (Kd.R_far (p := ⟨gb246, 1, none⟩) (Kd.R_far (p := ⟨gb246, 0, none⟩) (Kd.R_far (p := ⟨gb245, 1, none⟩) (Kd.R_far (p := ⟨gb245, 0, none⟩) (Kd.R_types (Kd.R_types HO234.out BK245.out (by decide)) BK246.out (by decide)) (fun _ hk => hk.1.2) (.int .i64 t237)) (fun _ hk => hk.1.2) (.int .i64 t238)) (fun _ hk => hk.2) (.slice Ao225 t239.length co225)) (fun _ hk => hk.2) (.int .i64 t242)) (fun _ hk => hk.2) (.int .i64 t243)) (fun _ h_ => h_.1)) (fun _ h_ => h_.1))) hb); have n4_ := Aside0.mk (Kd.R_below (by exact (Kd.R_mono (Kd.R_mono (Kd.R_far (p := ⟨gb246, 2, none⟩) (Kd.R_far (p := ⟨gb246, 1, none⟩) (Kd.R_far (p := ⟨gb246, 0, none⟩) (Kd.R_far (p := ⟨gb245, 1, none⟩) (Kd.R_far (p := ⟨gb245, 0, none⟩) (Kd.R_types (Kd.R_types HO241.out BK245.out (by decide)) BK246.out (by decide)) (fun _ hk => hk.1.2) (.int .i64 t237)) (fun _ hk => hk.1.2) (.int .i64 t238)) (fun _ hk => hk.2) (.slice Ao225 t239.length co225)) (fun _ hk => hk.2) (.int .i64 t242)) (fun _ hk => hk.2) (.int .i64 t243)) (fun _ h_ => h_.1)) (fun _ h_ => h_.1))) hb); have n5_ := Aside0.mk (blk_below (g := gb184) (o := .cells #[.slice A0_0 l0_0.length c0_0, .int .i64 a0_1, .int .i64 a0_2] 51 (0, 0)) (by refine blk_far ?_ NB184_246.out _; refine blk_far ?_ NB184_246.out _; refine blk_far ?_ NB184_246.out _; refine blk_far ?_ NB184_245.out _; refine blk_far ?_ NB184_245.out _; exact BK184.out) hb); have n6_ := Aside0.mk (blk_below (g := gb199) (o := .cells #[.int .i64 t191, .int .i64 t192] 54 (0, 0)) (by refine blk_far ?_ NB199_246.out _; refine blk_far ?_ NB199_246.out _; refine blk_far ?_ NB199_246.out _; refine blk_far ?_ NB199_245.out _; refine blk_far ?_ NB199_245.out _; exact BK199.out) hb); have n7_ := Aside0.mk (blk_below (g := gb200) (o := .cells #[.slice Ao25 t193.length co25, .int .i64 t196, .int .i64 t197] 55 (0, 0)) (by refine blk_far ?_ NB200_246.out _; refine blk_far ?_ NB200_246.out _; refine blk_far ?_ NB200_246.out _; refine blk_far ?_ NB200_245.out _; refine blk_far ?_ NB200_245.out _; exact BK200.out) hb); have n8_ := Aside0.mk (blk_below (g := gb206) (o := .cells #[.slice Ao31 t226.length co31, .int .i64 t204, .int .i64 t205] 55 (0, 0)) (by refine blk_far ?_ NB206_246.out _; refine blk_far ?_ NB206_246.out _; refine blk_far ?_ NB206_246.out _; refine blk_far ?_ NB206_245.out _; refine blk_far ?_ NB206_245.out _; exact BK206.out) hb); have n9_ := Aside0.mk (blk_below (g := gb215) (o := .cells #[.int .i64 t207, .int .i64 t208] 54 (0, 0)) (by refine blk_far ?_ NB215_246.out _; refine blk_far ?_ NB215_246.out _; refine blk_far ?_ NB215_246.out _; refine blk_far ?_ NB215_245.out _; refine blk_far ?_ NB215_245.out _; exact BK215.out) hb); have n10_ := Aside0.mk (blk_below (g := gb216) (o := .cells #[.slice Ao45 t209.length co45, .int .i64 t212, .int .i64 t213] 55 (0, 0)) (by refine blk_far ?_ NB216_246.out _; refine blk_far ?_ NB216_246.out _; refine blk_far ?_ NB216_246.out _; refine blk_far ?_ NB216_245.out _; refine blk_far ?_ NB216_245.out _; exact BK216.out) hb); have n11_ := Aside0.mk (blk_below (g := gb245) (o := .cells #[.int .i64 t237, .int .i64 t238] 54 (0, 0)) (by refine blk_far ?_ NB245_246.out _; refine blk_far ?_ NB245_246.out _; refine blk_far ?_ NB245_246.out _; refine blk_put (cs := #[.int .i64 t237, .int .i64 0]) ?_ 1 _ rfl; refine blk_put (cs := #[.int .i64 0, .int .i64 0]) ?_ 0 _ rfl; exact BK245.out) hb); have n12_ := Aside0.mk (blk_below (g := gb246) (o := .cells #[.slice Ao225 t239.length co225, .int .i64 t242, .int .i64 t243] 55 (0, 0)) (by refine blk_put (cs := #[.slice Ao225 t239.length co225, .int .i64 t242, .int .i64 0]) ?_ 2 _ rfl; refine blk_put (cs := #[.slice Ao225 t239.length co225, .int .i64 0, .int .i64 0]) ?_ 1 _ rfl; refine blk_put (cs := #[.slice none 0 0, .int .i64 0, .int .i64 0]) ?_ 0 _ rfl; refine blk_far ?_ NB246_245.out _; refine blk_far ?_ NB246_245.out _; exact BK246.out) hb); have n13_ := Aside0.mk (below_step (by repeat (first | (with_reducible first | exact HB.out | apply below_alloc | apply pw_below_drewN | apply below_drew1 | refine below_set ?_ GE184.out | refine below_set ?_ GE199.out | refine below_set ?_ GE200.out | refine below_set ?_ GE206.out | refine below_set ?_ GE215.out | refine below_set ?_ GE216.out | refine below_set ?_ GE245.out | refine below_set ?_ GE246.out) | exact HB.out)) hb); clear HO_201000; clear HO_207000; clear HO_217000; clear HO234; clear HO241; clear BK184; clear BK199; clear BK200; clear BK206; clear BK215; clear BK216; clear BK245; clear BK246; clear HB; have HO_201000 := n0_; have HO_207000 := n1_; have HO_217000 := n2_; have HO234 := n3_; have HO241 := n4_; have BK184 := n5_; have BK199 := n6_; have BK200 := n7_; have BK206 := n8_; have BK215 := n9_; have BK216 := n10_; have BK245 := n11_; have BK246 := n12_; have HB := n13_; clear n0_ n1_ n2_ n3_ n4_ n5_ n6_ n7_ n8_ n9_ n10_ n11_ n12_ n13_; (try clear hb); (try clear hb2); (try clear hk); (try clear hi); have hnb281 := NB246_184.out; have hnc281 := NB184_246.out; have hnb282 := NB246_200.out; have hnc282 := NB200_246.out; have hnb283 := NB246_206.out; have hnc283 := NB206_246.out; have hnb284 := NB246_215.out; have hnc284 := NB215_246.out; have hnb285 := NB246_216.out; have hnc285 := NB216_246.out; have hcz286_0 : w280.cell? ⟨gb246, 0, none⟩ = some (.slice Ao225 t239.length co225) := (blk_cell BK246.out 0).trans rfl; have hcz286_1 : w280.cell? ⟨gb246, 1, none⟩ = some (.int .i64 t242) := (blk_cell BK246.out 1).trans rfl; have hcz286_2 : w280.cell? ⟨gb246, 2, none⟩ = some (.int .i64 t243) := (blk_cell BK246.out 2).trans rfl; have hfz286_0 := blk_frozen BK246.out 0; have hfz286_1 := blk_frozen BK246.out 1; have hfz286_2 := blk_frozen BK246.out 2; have hnb287 := NB200_184.out; have hnc287 := NB184_200.out; have hnb288 := NB200_206.out; have hnc288 := NB206_200.out; have hnb289 := NB200_215.out; have hnc289 := NB215_200.out; have hnb290 := NB200_216.out; have hnc290 := NB216_200.out; have hcz291_0 : w280.cell? ⟨gb200, 0, none⟩ = some (.slice Ao25 t193.length co25) := (blk_cell BK200.out 0).trans rfl; have hcz291_1 : w280.cell? ⟨gb200, 1, none⟩ = some (.int .i64 t196) := (blk_cell BK200.out 1).trans rfl; have hcz291_2 : w280.cell? ⟨gb200, 2, none⟩ = some (.int .i64 t197) := (blk_cell BK200.out 2).trans rfl; have hfz291_0 := blk_frozen BK200.out 0; have hfz291_1 := blk_frozen BK200.out 1; have hfz291_2 := blk_frozen BK200.out 2) | (go_at_call 34; (with_reducible refine (laws_eqSender.calls kj111 _ _ t239 t242 t243 _ _ t193 t196 t197 false _ ?side1 ?side2 ?side3 ?side4 A235.out).mono ?_); (case side1 => repeat (first | exact (Kd.R_reads' HO241.out).2.2 | (with_reducible refine Kd.C_alloc ?_ _) | (with_reducible refine Kd.C_drewN ?_ _) | (with_reducible refine Kd.C_drew ?_))); (case side2 => exact (Kd.R_reads' HO241.out).2.1); (case side3 => repeat (first | exact (Kd.R_reads' HO_201000.out).2.2 | (with_reducible refine Kd.C_alloc ?_ _) | (with_reducible refine Kd.C_drewN ?_ _) | (with_reducible refine Kd.C_drew ?_))); (case side4 => exact (Kd.R_reads' HO_201000.out).2.1); rintro e w292 ⟨rfl, hb⟩; have n0_ := Aside0.mk (Kd.R_below HO_201000.out hb); have n1_ := Aside0.mk (Kd.R_below HO_207000.out hb); have n2_ := Aside0.mk (Kd.R_below HO_217000.out hb); have n3_ := Aside0.mk (Kd.R_below HO234.out hb); have n4_ := Aside0.mk (Kd.R_below HO241.out hb); have n5_ := Aside0.mk (blk_below (g := gb184) (o := .cells #[.slice A0_0 l0_0.length c0_0, .int .i64 a0_1, .int .i64 a0_2] 51 (0, 0)) BK184.out hb); have n6_ := Aside0.mk (blk_below (g := gb199) (o := .cells #[.int .i64 t191, .int .i64 t192] 54 (0, 0)) BK199.out hb); have n7_ := Aside0.mk (blk_below (g := gb200) (o := .cells #[.slice Ao25 t193.length co25, .int .i64 t196, .int .i64 t197] 55 (0, 0)) BK200.out hb); have n8_ := Aside0.mk (blk_below (g := gb206) (o := .cells #[.slice Ao31 t226.length co31, .int .i64 t204, .int .i64 t205] 55 (0, 0)) BK206.out hb); have n9_ := Aside0.mk (blk_below (g := gb215) (o := .cells #[.int .i64 t207, .int .i64 t208] 54 (0, 0)) BK215.out hb); have n10_ := Aside0.mk (blk_below (g := gb216) (o := .cells #[.slice Ao45 t209.length co45, .int .i64 t212, .int .i64 t213] 55 (0, 0)) BK216.out hb); have n11_ := Aside0.mk (blk_below (g := gb245) (o := .cells #[.int .i64 t237, .int .i64 t238] 54 (0, 0)) BK245.out hb); have n12_ := Aside0.mk (blk_below (g := gb246) (o := .cells #[.slice Ao225 t239.length co225, .int .i64 t242, .int .i64 t243] 55 (0, 0)) BK246.out hb); have n13_ := Aside0.mk (below_step (by repeat (first | (with_reducible first | exact HB.out | apply below_alloc | apply pw_below_drewN | apply below_drew1 | refine below_set ?_ GE184.out | refine below_set ?_ GE199.out | refine below_set ?_ GE200.out | refine below_set ?_ GE206.out | refine below_set ?_ GE215.out | refine below_set ?_ GE216.out | refine below_set ?_ GE245.out | refine below_set ?_ GE246.out) | exact HB.out)) hb); clear HO_201000; clear HO_207000; clear HO_217000; clear HO234; clear HO241; clear BK184; clear BK199; clear BK200; clear BK206; clear BK215; clear BK216; clear BK245; clear BK246; clear HB; have HO_201000 := n0_; have HO_207000 := n1_; have HO_217000 := n2_; have HO234 := n3_; have HO241 := n4_; have BK184 := n5_; have BK199 := n6_; have BK200 := n7_; have BK206 := n8_; have BK215 := n9_; have BK216 := n10_; have BK245 := n11_; have BK246 := n12_; have HB := n13_; clear n0_ n1_ n2_ n3_ n4_ n5_ n6_ n7_ n8_ n9_ n10_ n11_ n12_ n13_; (try clear hb); (try clear hb2); (try clear hk); (try clear hi)))
                            go_meet
                            case rel => exact ⟨_, (true), (by first | rfl | (simp; done) | (simp [*]; done)), H', ⟨by have := HJ11.out; have := HJ111.out; first | omega | exact Nat.le_refl _⟩, ⟨by (try simp only [hl207000_111]); exact Kd.R_mono HO_201000.out (fun _ hk => ⟨hk.1.1.1, ⟨hk.1.1.2, hk.2⟩⟩)⟩, ⟨by (try simp only [hl207000_111]); exact Kd.R_mono HO_207000.out (fun _ hk => ⟨hk.1.1.1, ⟨hk.1.1.2, hk.2⟩⟩)⟩, ⟨by (try simp only [hl207000_111]); exact Kd.R_mono HO_217000.out (fun _ hk => ⟨hk.1.1.1, ⟨hk.1.1.2, hk.2⟩⟩)⟩, ⟨by (try simp only [hl207000_111]); exact Kd.R_mono HO241.out (fun _ hk => ⟨hk.1.1.1.2, ⟨hk.1.1.2, hk.1.2⟩⟩)⟩, ⟨by (try simp only [hl207000_111]); exact BK184.out⟩, ⟨by (try simp only [hl207000_111]); exact BK199.out⟩, ⟨by (try simp only [hl207000_111]); exact BK200.out⟩, ⟨by (try simp only [hl207000_111]); exact BK206.out⟩, ⟨by (try simp only [hl207000_111]); exact BK215.out⟩, ⟨by (try simp only [hl207000_111]); exact BK216.out⟩, ⟨by (try simp only [hl207000_111]); exact BK245.out⟩, ⟨by (try simp only [hl207000_111]); exact BK246.out⟩, ⟨by repeat (first | (with_reducible first | exact HB.out | apply below_alloc | apply pw_below_drewN | apply below_drew1 | refine below_set ?_ GE184.out | refine below_set ?_ GE199.out | refine below_set ?_ GE200.out | refine below_set ?_ GE206.out | refine below_set ?_ GE215.out | refine below_set ?_ GE216.out | refine below_set ?_ GE245.out | refine below_set ?_ GE246.out) | exact HB.out)⟩⟩
                        · replace c234 := Bool.eq_false_iff.mpr c234
                          subst c234
                          have H1 : (laws_FnExactSendNext.j2 kj111 t229 true t230 t212 t213) = some r := by rw [if_neg (show ¬ (false = true) by decide)] at H; exact H
                          clear H
                          have H := H1
                          clear H1
                          have H' := Aside0.mk H
                          clear H
                          have hnb293 := NB245_184.out
                          have hnc293 := NB184_245.out
                          have hnb294 := NB245_199.out
                          have hnc294 := NB199_245.out
                          have hnb295 := NB245_200.out
                          have hnc295 := NB200_245.out
                          have hnb296 := NB245_206.out
                          have hnc296 := NB206_245.out
                          have hnb297 := NB245_215.out
                          have hnc297 := NB215_245.out
                          have hnb298 := NB245_216.out
                          have hnc298 := NB216_245.out
                          have hnb299 := NB245_246.out
                          have hnc299 := NB246_245.out
                          have hcz300_0 : w216.cell? ⟨gb245, 0, none⟩ = some (.int .i64 0) := (blk_cell BK245.out 0).trans rfl
                          have hcz300_1 : w216.cell? ⟨gb245, 1, none⟩ = some (.int .i64 0) := (blk_cell BK245.out 1).trans rfl
                          have hfz300_0 := blk_frozen BK245.out 0
                          have hfz300_1 := blk_frozen BK245.out 1
                          have hnb301 := NB199_184.out
                          have hnc301 := NB184_199.out
                          have hnb302 := NB199_200.out
                          have hnc302 := NB200_199.out
                          have hnb303 := NB199_206.out
                          have hnc303 := NB206_199.out
                          have hnb304 := NB199_215.out
                          have hnc304 := NB215_199.out
                          have hnb305 := NB199_216.out
                          have hnc305 := NB216_199.out
                          have hnb306 := NB199_246.out
                          have hnc306 := NB246_199.out
                          have hcz307_0 : w216.cell? ⟨gb199, 0, none⟩ = some (.int .i64 t191) := (blk_cell BK199.out 0).trans rfl
                          have hcz307_1 : w216.cell? ⟨gb199, 1, none⟩ = some (.int .i64 t192) := (blk_cell BK199.out 1).trans rfl
                          have hfz307_0 := blk_frozen BK199.out 0
                          have hfz307_1 := blk_frozen BK199.out 1
                          go_wp2_with (first | ((with_reducible refine gate_callee (f := 33) rfl ?_); refine goesL_ (some 104) rfl rfl Try.func33 (by kernel_rfl) rfl #[.agg #[.int .i64 t237, .int .i64 t238], .agg #[.int .i64 t191, .int .i64 t192]] rfl (by (try simp only [List.map_toArray, List.map_cons, List.map_nil]); first | done | rfl | (simp only [List.length_drop, List.length_take]; rfl)) ?_; (with_reducible refine (laws_eqParcel.calls t237 t238 t191 t192 false _ A233.out).mono ?_); rintro e w308 ⟨rfl, hb⟩; refine ⟨_, rfl, ?_⟩; have n0_ := Aside0.mk (Kd.R_below (by exact (Kd.R_mono (Kd.R_mono (Kd.R_far (p := ⟨gb246, 2, none⟩) (Kd.R_far (p := ⟨gb246, 1, none⟩) (Kd.R_far (p := ⟨gb246, 0, none⟩) (Kd.R_far (p := ⟨gb245, 1, none⟩) (Kd.R_far (p := ⟨gb245, 0, none⟩) (Kd.R_types (Kd.R_types HO_201000.out BK245.out (by decide)) BK246.out (by decide)) (fun _ hk => hk.1.2) (.int .i64 t237)) (fun _ hk => hk.1.2) (.int .i64 t238)) (fun _ hk => hk.2) (.slice Ao225 t239.length co225)) (fun _ hk => hk.2) (.int .i64 t242)) (fun _ hk => hk.2) (.int .i64 t243)) (fun _ h_ => h_.1)) (fun _ h_ => h_.1))) hb); have n1_ := Aside0.mk (Kd.R_below (by exact (Kd.R_mono (Kd.R_mono (Kd.R_far (p := ⟨gb246, 2, none⟩) (Kd.R_far (p := ⟨gb246, 1, none⟩) (Kd.R_far (p := ⟨gb246, 0, none⟩) (Kd.R_far (p := ⟨gb245, 1, none⟩) (Kd.R_far (p := ⟨gb245, 0, none⟩) (Kd.R_types (Kd.R_types HO_207000.out BK245.out (by decide)) BK246.out (by decide)) (fun _ hk => hk.1.2) (.int .i64 t237)) (fun _ hk => hk.1.2) (.int .i64 t238)) (fun _ hk => hk.2) (.slice Ao225 t239.length co225)) (fun _ hk => hk.2) (.int .i64 t242)) (fun _ hk => hk.2) (.int .i64 t243)) (fun _ h_ => h_.1)) (fun _ h_ => h_.1))) hb); have n2_ := Aside0.mk (Kd.R_below (by exact (Kd.R_mono (Kd.R_mono (Kd.R_far (p := ⟨gb246, 2, none⟩) (Kd.R_far (p := ⟨gb246, 1, none⟩) (Kd.R_far (p := ⟨gb246, 0, none⟩) (Kd.R_far (p := ⟨gb245, 1, none⟩) (Kd.R_far (p := ⟨gb245, 0, none⟩) (Kd.R_types (Kd.R_types HO_217000.out BK245.out (by decide)) BK246.out (by decide)) (fun _ hk => hk.1.2) (.int .i64 t237)) (fun _ hk => hk.1.2) (.int .i64 t238)) (fun _ hk => hk.2) (.slice Ao225 t239.length co225)) (fun _ hk => hk.2) (.int .i64 t242)) (fun _ hk => hk.2) (.int .i64 t243)) (fun _ h_ => h_.1)) (fun _ h_ => h_.1))) hb); have n3_ := Aside0.mk (Kd.R_below (by exact (Kd.R_mono (Kd.R_mono (Kd.R_far (p := ⟨gb246, 2, none⟩) (Kd.R_far (p := ⟨gb246, 1, none⟩) (Kd.R_far (p := ⟨gb246, 0, none⟩) (Kd.R_far (p := ⟨gb245, 1, none⟩) (Kd.R_far (p := ⟨gb245, 0, none⟩) (Kd.R_types (Kd.R_types HO234.out BK245.out (by decide)) BK246.out (by decide)) (fun _ hk => hk.1.2) (.int .i64 t237)) (fun _ hk => hk.1.2) (.int .i64 t238)) (fun _ hk => hk.2) (.slice Ao225 t239.length co225)) (fun _ hk => hk.2) (.int .i64 t242)) (fun _ hk => hk.2) (.int .i64 t243)) (fun _ h_ => h_.1)) (fun _ h_ => h_.1))) hb); have n4_ := Aside0.mk (Kd.R_below (by exact (Kd.R_mono (Kd.R_mono (Kd.R_far (p := ⟨gb246, 2, none⟩) (Kd.R_far (p := ⟨gb246, 1, none⟩) (Kd.R_far (p := ⟨gb246, 0, none⟩) (Kd.R_far (p := ⟨gb245, 1, none⟩) (Kd.R_far (p := ⟨gb245, 0, none⟩) (Kd.R_types (Kd.R_types HO241.out BK245.out (by decide)) BK246.out (by decide)) (fun _ hk => hk.1.2) (.int .i64 t237)) (fun _ hk => hk.1.2) (.int .i64 t238)) (fun _ hk => hk.2) (.slice Ao225 t239.length co225)) (fun _ hk => hk.2) (.int .i64 t242)) (fun _ hk => hk.2) (.int .i64 t243)) (fun _ h_ => h_.1)) (fun _ h_ => h_.1))) hb); have n5_ := Aside0.mk (blk_below (g := gb184) (o := .cells #[.slice A0_0 l0_0.length c0_0, .int .i64 a0_1, .int .i64 a0_2] 51 (0, 0)) (by refine blk_far ?_ NB184_246.out _; refine blk_far ?_ NB184_246.out _; refine blk_far ?_ NB184_246.out _; refine blk_far ?_ NB184_245.out _; refine blk_far ?_ NB184_245.out _; exact BK184.out) hb); have n6_ := Aside0.mk (blk_below (g := gb199) (o := .cells #[.int .i64 t191, .int .i64 t192] 54 (0, 0)) (by refine blk_far ?_ NB199_246.out _; refine blk_far ?_ NB199_246.out _; refine blk_far ?_ NB199_246.out _; refine blk_far ?_ NB199_245.out _; refine blk_far ?_ NB199_245.out _; exact BK199.out) hb); have n7_ := Aside0.mk (blk_below (g := gb200) (o := .cells #[.slice Ao25 t193.length co25, .int .i64 t196, .int .i64 t197] 55 (0, 0)) (by refine blk_far ?_ NB200_246.out _; refine blk_far ?_ NB200_246.out _; refine blk_far ?_ NB200_246.out _; refine blk_far ?_ NB200_245.out _; refine blk_far ?_ NB200_245.out _; exact BK200.out) hb); have n8_ := Aside0.mk (blk_below (g := gb206) (o := .cells #[.slice Ao31 t226.length co31, .int .i64 t204, .int .i64 t205] 55 (0, 0)) (by refine blk_far ?_ NB206_246.out _; refine blk_far ?_ NB206_246.out _; refine blk_far ?_ NB206_246.out _; refine blk_far ?_ NB206_245.out _; refine blk_far ?_ NB206_245.out _; exact BK206.out) hb); have n9_ := Aside0.mk (blk_below (g := gb215) (o := .cells #[.int .i64 t207, .int .i64 t208] 54 (0, 0)) (by refine blk_far ?_ NB215_246.out _; refine blk_far ?_ NB215_246.out _; refine blk_far ?_ NB215_246.out _; refine blk_far ?_ NB215_245.out _; refine blk_far ?_ NB215_245.out _; exact BK215.out) hb); have n10_ := Aside0.mk (blk_below (g := gb216) (o := .cells #[.slice Ao45 t209.length co45, .int .i64 t212, .int .i64 t213] 55 (0, 0)) (by refine blk_far ?_ NB216_246.out _; refine blk_far ?_ NB216_246.out _; refine blk_far ?_ NB216_246.out _; refine blk_far ?_ NB216_245.out _; refine blk_far ?_ NB216_245.out _; exact BK216.out) hb); have n11_ := Aside0.mk (blk_below (g := gb245) (o := .cells #[.int .i64 t237, .int .i64 t238] 54 (0, 0)) (by refine blk_far ?_ NB245_246.out _; refine blk_far ?_ NB245_246.out _; refine blk_far ?_ NB245_246.out _; refine blk_put (cs := #[.int .i64 t237, .int .i64 0]) ?_ 1 _ rfl; refine blk_put (cs := #[.int .i64 0, .int .i64 0]) ?_ 0 _ rfl; exact BK245.out) hb); have n12_ := Aside0.mk (blk_below (g := gb246) (o := .cells #[.slice Ao225 t239.length co225, .int .i64 t242, .int .i64 t243] 55 (0, 0)) (by refine blk_put (cs := #[.slice Ao225 t239.length co225, .int .i64 t242, .int .i64 0]) ?_ 2 _ rfl; refine blk_put (cs := #[.slice Ao225 t239.length co225, .int .i64 0, .int .i64 0]) ?_ 1 _ rfl; refine blk_put (cs := #[.slice none 0 0, .int .i64 0, .int .i64 0]) ?_ 0 _ rfl; refine blk_far ?_ NB246_245.out _; refine blk_far ?_ NB246_245.out _; exact BK246.out) hb); have n13_ := Aside0.mk (below_step (by repeat (first | (with_reducible first | exact HB.out | apply below_alloc | apply pw_below_drewN | apply below_drew1 | refine below_set ?_ GE184.out | refine below_set ?_ GE199.out | refine below_set ?_ GE200.out | refine below_set ?_ GE206.out | refine below_set ?_ GE215.out | refine below_set ?_ GE216.out | refine below_set ?_ GE245.out | refine below_set ?_ GE246.out) | exact HB.out)) hb); clear HO_201000; clear HO_207000; clear HO_217000; clear HO234; clear HO241; clear BK184; clear BK199; clear BK200; clear BK206; clear BK215; clear BK216; clear BK245; clear BK246; clear HB; have HO_201000 := n0_; have HO_207000 := n1_; have HO_217000 := n2_; have HO234 := n3_; have HO241 := n4_; have BK184 := n5_; have BK199 := n6_; have BK200 := n7_; have BK206 := n8_; have BK215 := n9_; have BK216 := n10_; have BK245 := n11_; have BK246 := n12_; have HB := n13_; clear n0_ n1_ n2_ n3_ n4_ n5_ n6_ n7_ n8_ n9_ n10_ n11_ n12_ n13_; (try clear hb); (try clear hb2); (try clear hk); (try clear hi)))
                          go_meet
                          case rel => exact ⟨_, (true), (by first | rfl | (simp; done) | (simp [*]; done)), H', ⟨by have := HJ11.out; have := HJ111.out; first | omega | exact Nat.le_refl _⟩, ⟨by (try simp only [hl207000_111]); exact Kd.R_mono HO_201000.out (fun _ hk => ⟨hk.1.1.1, ⟨hk.1.1.2, hk.2⟩⟩)⟩, ⟨by (try simp only [hl207000_111]); exact Kd.R_mono HO_207000.out (fun _ hk => ⟨hk.1.1.1, ⟨hk.1.1.2, hk.2⟩⟩)⟩, ⟨by (try simp only [hl207000_111]); exact Kd.R_mono HO_217000.out (fun _ hk => ⟨hk.1.1.1, ⟨hk.1.1.2, hk.2⟩⟩)⟩, ⟨by (try simp only [hl207000_111]); exact Kd.R_mono HO241.out (fun _ hk => ⟨hk.1.1.1.2, ⟨hk.1.1.2, hk.1.2⟩⟩)⟩, ⟨by (try simp only [hl207000_111]); exact BK184.out⟩, ⟨by (try simp only [hl207000_111]); exact BK199.out⟩, ⟨by (try simp only [hl207000_111]); exact BK200.out⟩, ⟨by (try simp only [hl207000_111]); exact BK206.out⟩, ⟨by (try simp only [hl207000_111]); exact BK215.out⟩, ⟨by (try simp only [hl207000_111]); exact BK216.out⟩, ⟨by (try simp only [hl207000_111]); exact BK245.out⟩, ⟨by (try simp only [hl207000_111]); exact BK246.out⟩, ⟨by repeat (first | (with_reducible first | exact HB.out | apply below_alloc | apply pw_below_drewN | apply below_drew1 | refine below_set ?_ GE184.out | refine below_set ?_ GE199.out | refine below_set ?_ GE200.out | refine below_set ?_ GE206.out | refine below_set ?_ GE215.out | refine below_set ?_ GE216.out | refine below_set ?_ GE245.out | refine below_set ?_ GE246.out) | exact HB.out)⟩⟩
                      case rest =>
                        clear HC197
                        try clear c1
                        try clear c2
                        try clear p2
                        try clear c3
                        try clear c4
                        try clear c4b0
                        try clear c5
                        try clear c6
                        try clear c7
                        try clear c8
                        try clear c9
                        try clear c10
                        try clear c11
                        try clear c12
                        try clear c13
                        try clear c14
                        try clear c15
                        try clear c16
                        try clear c17
                        try clear c18
                        try clear c19
                        try clear c20
                        try clear c21
                        try clear c22
                        try clear c23
                        try clear c24
                        try clear c25
                        try clear c26
                        try clear c27
                        try clear c28
                        try clear c29
                        try clear c30
                        try clear c31
                        try clear c32
                        try clear c33
                        try clear c34
                        try clear c35
                        try clear c36
                        try clear c39
                        try clear c40
                        try clear c41
                        try clear c42
                        try clear c43
                        try clear c46
                        try clear c47
                        try clear c48
                        try clear c49
                        try clear c52
                        try clear c54
                        try clear c55
                        try clear c56
                        try clear c57
                        try clear c58
                        try clear c59
                        try clear c61
                        try clear c62
                        try clear c63
                        try clear c64
                        try clear c67
                        try clear c68
                        try clear c69
                        try clear c71
                        try clear c72
                        try clear c75
                        try clear c76
                        try clear c77
                        try clear c78
                        try clear c79
                        try clear c81
                        try clear c82
                        try clear c83
                        try clear c84
                        try clear c87
                        try clear c88
                        try clear c89
                        try clear c91
                        try clear c92
                        try clear c95
                        try clear c96
                        try clear c97
                        try clear c98
                        try clear c99
                        try clear c101
                        try clear c102
                        try clear c103
                        try clear c104
                        try clear c107
                        try clear c110
                        try clear c117
                        try clear c118
                        try clear c119
                        try clear c120
                        try clear c121
                        try clear c124
                        try clear c124b0
                        try clear c126
                        try clear c128
                        try clear c129
                        try clear c130
                        try clear c131
                        try clear c132
                        try clear c133
                        try clear c135
                        try clear c136
                        try clear c137
                        try clear c138
                        try clear c141
                        try clear c142
                        try clear c143
                        try clear c145
                        try clear c146
                        try clear c149
                        try clear c150
                        try clear c151
                        try clear c152
                        try clear c153
                        try clear c155
                        try clear c156
                        try clear c157
                        try clear c158
                        try clear c161
                        try clear c162
                        try clear c163
                        try clear c165
                        try clear c166
                        try clear c169
                        try clear c170
                        try clear c171
                        try clear c172
                        try clear c173
                        try clear c175
                        try clear c176
                        try clear c177
                        try clear c178
                        try clear c181
                        try clear c184
                        try clear c184b0
                        try clear c185
                        try clear c186
                        try clear c187
                        try clear c188
                        try clear c189
                        try clear c194
                        try clear c194b0
                        try clear c194b1
                        try clear c198
                        try clear c199
                        try clear c200
                        try clear c201
                        try clear c202
                        try clear c207
                        try clear c208
                        try clear c209
                        try clear c210
                        try clear c217
                        try clear c218
                        try clear c219
                        try clear c220
                        try clear c221
                        try clear c222
                        try clear c223
                        try clear c226
                        try clear c227
                        try clear c228
                        try clear c229
                        try clear c230
                        try clear c231
                        try clear c234
                        try clear c236
                        try clear c237
                        try clear c238
                        try clear c239
                        try clear c240
                        try clear c241
                        try clear c242
                        try clear c243
                        try clear c245
                        try clear c246
                        try clear c247
                        try clear c248
                        try clear c249
                        try clear c250
                        try clear c253
                        try clear c254
                        try clear c255
                        try clear c256
                        try clear c257
                        try clear c259
                        try clear c260
                        try clear c261
                        try clear c262
                        try clear c265
                        try clear c266
                        try clear c267
                        try clear c268
                        try clear c269
                        try clear c270
                        try clear c271
                        try clear c273
                        try clear c274
                        try clear c275
                        try clear c276
                        try clear c277
                        try clear c278
                        try clear c281
                        try clear c282
                        try clear c283
                        try clear c284
                        try clear c285
                        try clear c287
                        try clear c288
                        try clear c289
                        try clear c290
                        try clear c293
                        try clear c294
                        try clear c295
                        try clear c296
                        try clear c297
                        try clear c298
                        try clear c299
                        try clear c301
                        try clear c302
                        try clear c303
                        try clear c304
                        try clear c305
                        try clear c306
                        try clear hcz100_0
                        try clear hcz100_1
                        try clear hcz105_0
                        try clear hcz105_1
                        try clear hcz122_0
                        try clear hcz122_1
                        try clear hcz122_2
                        try clear hcz134_0
                        try clear hcz134_1
                        try clear hcz139_0
                        try clear hcz139_1
                        try clear hcz144_0
                        try clear hcz144_1
                        try clear hcz144_2
                        try clear hcz147_0
                        try clear hcz147_1
                        try clear hcz147_2
                        try clear hcz14_0
                        try clear hcz14_1
                        try clear hcz14_2
                        try clear hcz154_0
                        try clear hcz154_1
                        try clear hcz159_0
                        try clear hcz159_1
                        try clear hcz164_0
                        try clear hcz164_1
                        try clear hcz164_2
                        try clear hcz167_0
                        try clear hcz167_1
                        try clear hcz167_2
                        try clear hcz16_0
                        try clear hcz16_1
                        try clear hcz16_2
                        try clear hcz174_0
                        try clear hcz174_1
                        try clear hcz179_0
                        try clear hcz179_1
                        try clear hcz190_0
                        try clear hcz190_1
                        try clear hcz190_2
                        try clear hcz192_0
                        try clear hcz192_1
                        try clear hcz192_2
                        try clear hcz203_0
                        try clear hcz203_1
                        try clear hcz203_2
                        try clear hcz205_0
                        try clear hcz205_1
                        try clear hcz205_2
                        try clear hcz211_0
                        try clear hcz211_1
                        try clear hcz211_2
                        try clear hcz224_0
                        try clear hcz224_1
                        try clear hcz232_0
                        try clear hcz232_1
                        try clear hcz232_2
                        try clear hcz244_0
                        try clear hcz244_1
                        try clear hcz24_0
                        try clear hcz24_1
                        try clear hcz251_0
                        try clear hcz251_1
                        try clear hcz258_0
                        try clear hcz258_1
                        try clear hcz258_2
                        try clear hcz263_0
                        try clear hcz263_1
                        try clear hcz263_2
                        try clear hcz272_0
                        try clear hcz272_1
                        try clear hcz279_0
                        try clear hcz279_1
                        try clear hcz27_0
                        try clear hcz27_1
                        try clear hcz27_2
                        try clear hcz286_0
                        try clear hcz286_1
                        try clear hcz286_2
                        try clear hcz28_0
                        try clear hcz28_1
                        try clear hcz28_2
                        try clear hcz291_0
                        try clear hcz291_1
                        try clear hcz291_2
                        try clear hcz300_0
                        try clear hcz300_1
                        try clear hcz307_0
                        try clear hcz307_1
                        try clear hcz35_0
                        try clear hcz35_1
                        try clear hcz35_2
                        try clear hcz44_0
                        try clear hcz44_1
                        try clear hcz50_0
                        try clear hcz50_1
                        try clear hcz50_2
                        try clear hcz60_0
                        try clear hcz60_1
                        try clear hcz65_0
                        try clear hcz65_1
                        try clear hcz6_0
                        try clear hcz6_1
                        try clear hcz6_2
                        try clear hcz70_0
                        try clear hcz70_1
                        try clear hcz70_2
                        try clear hcz73_0
                        try clear hcz73_1
                        try clear hcz73_2
                        try clear hcz80_0
                        try clear hcz80_1
                        try clear hcz85_0
                        try clear hcz85_1
                        try clear hcz90_0
                        try clear hcz90_1
                        try clear hcz90_2
                        try clear hcz93_0
                        try clear hcz93_1
                        try clear hcz93_2
                        try clear hfz100_0
                        try clear hfz100_1
                        try clear hfz105_0
                        try clear hfz105_1
                        try clear hfz122_0
                        try clear hfz122_1
                        try clear hfz122_2
                        try clear hfz134_0
                        try clear hfz134_1
                        try clear hfz139_0
                        try clear hfz139_1
                        try clear hfz144_0
                        try clear hfz144_1
                        try clear hfz144_2
                        try clear hfz147_0
                        try clear hfz147_1
                        try clear hfz147_2
                        try clear hfz14_0
                        try clear hfz14_1
                        try clear hfz14_2
                        try clear hfz154_0
                        try clear hfz154_1
                        try clear hfz159_0
                        try clear hfz159_1
                        try clear hfz164_0
                        try clear hfz164_1
                        try clear hfz164_2
                        try clear hfz167_0
                        try clear hfz167_1
                        try clear hfz167_2
                        try clear hfz16_0
                        try clear hfz16_1
                        try clear hfz16_2
                        try clear hfz174_0
                        try clear hfz174_1
                        try clear hfz179_0
                        try clear hfz179_1
                        try clear hfz190_0
                        try clear hfz190_1
                        try clear hfz190_2
                        try clear hfz192_0
                        try clear hfz192_1
                        try clear hfz192_2
                        try clear hfz203_0
                        try clear hfz203_1
                        try clear hfz203_2
                        try clear hfz205_0
                        try clear hfz205_1
                        try clear hfz205_2
                        try clear hfz211_0
                        try clear hfz211_1
                        try clear hfz211_2
                        try clear hfz224_0
                        try clear hfz224_1
                        try clear hfz232_0
                        try clear hfz232_1
                        try clear hfz232_2
                        try clear hfz244_0
                        try clear hfz244_1
                        try clear hfz24_0
                        try clear hfz24_1
                        try clear hfz251_0
                        try clear hfz251_1
                        try clear hfz258_0
                        try clear hfz258_1
                        try clear hfz258_2
                        try clear hfz263_0
                        try clear hfz263_1
                        try clear hfz263_2
                        try clear hfz272_0
                        try clear hfz272_1
                        try clear hfz279_0
                        try clear hfz279_1
                        try clear hfz27_0
                        try clear hfz27_1
                        try clear hfz27_2
                        try clear hfz286_0
                        try clear hfz286_1
                        try clear hfz286_2
                        try clear hfz28_0
                        try clear hfz28_1
                        try clear hfz28_2
                        try clear hfz291_0
                        try clear hfz291_1
                        try clear hfz291_2
                        try clear hfz300_0
                        try clear hfz300_1
                        try clear hfz307_0
                        try clear hfz307_1
                        try clear hfz35_0
                        try clear hfz35_1
                        try clear hfz35_2
                        try clear hfz44_0
                        try clear hfz44_1
                        try clear hfz50_0
                        try clear hfz50_1
                        try clear hfz50_2
                        try clear hfz60_0
                        try clear hfz60_1
                        try clear hfz65_0
                        try clear hfz65_1
                        try clear hfz6_0
                        try clear hfz6_1
                        try clear hfz6_2
                        try clear hfz70_0
                        try clear hfz70_1
                        try clear hfz70_2
                        try clear hfz73_0
                        try clear hfz73_1
                        try clear hfz73_2
                        try clear hfz80_0
                        try clear hfz80_1
                        try clear hfz85_0
                        try clear hfz85_1
                        try clear hfz90_0
                        try clear hfz90_1
                        try clear hfz90_2
                        try clear hfz93_0
                        try clear hfz93_1
                        try clear hfz93_2
                        try clear p2
                        obtain ⟨kq, x116_196, rfl, HA, HJ196, HO_201000, HO_207000, HO_217000, HO_247000, BK184, BK199, BK200, BK206, BK215, BK216, BK245, BK246, HB⟩ := hcut
                        have hl217000_196 := (Kd.R_reads' HO_217000.out).1
                        rw [hl217000_196] at HO_217000
                        (try simp only [hl217000_196])
                        (try simp only [hl217000_196] at BK184)
                        (try simp only [hl217000_196] at BK199)
                        (try simp only [hl217000_196] at BK200)
                        (try simp only [hl217000_196] at BK206)
                        (try simp only [hl217000_196] at BK215)
                        (try simp only [hl217000_196] at BK216)
                        (try simp only [hl217000_196] at BK245)
                        (try simp only [hl217000_196] at BK246)
                        (try simp only [hl217000_196] at HO_201000)
                        (try simp only [hl217000_196] at HO_207000)
                        (try simp only [hl217000_196] at HO_247000)
                        cases kq with
                        | zero => exact absurd HA.out (by simp [laws_FnExactSendNext.j2])
                        | succ kj196 =>
                          have H := HA.out
                          clear HA
                          simp only [laws_FnExactSendNext.j2] at H
                          by_cases c309 : x116_196 = true
                          · subst c309
                            have H1 : (some false) = some r := by rw [if_pos rfl] at H; exact H
                            clear H
                            have H := H1
                            clear H1
                            obtain rfl := Option.some.inj H
                            go_wp2
                            go_ret
                            exact ⟨by first | rfl | (simp [errW_none, errW_some] <;> rfl) | (simp [*, errW_none, errW_some] <;> rfl), by repeat (first | (with_reducible first | exact HB.out | apply below_alloc | apply pw_below_drewN | apply below_drew1 | refine below_set ?_ GE184.out | refine below_set ?_ GE199.out | refine below_set ?_ GE200.out | refine below_set ?_ GE206.out | refine below_set ?_ GE215.out | refine below_set ?_ GE216.out | refine below_set ?_ GE245.out | refine below_set ?_ GE246.out) | exact HB.out)⟩
                          · replace c309 := Bool.eq_false_iff.mpr c309
                            subst c309
                            have H1 : ((laws_heldSender.f kj196 t230 t212 t213 1).bind fun t249 => (if t249 < 0 then (some false) else (if t249 = t229 then (some true) else (some false)))) = some r := by rw [if_neg (show ¬ (false = true) by decide)] at H; exact H
                            clear H
                            have H := H1
                            clear H1
                            replace H := Option.bind_eq_some_iff.mp H
                            obtain ⟨t249, A3100, H⟩ := H
                            replace H : (if t249 < 0 then (some false) else (if t249 = t229 then (some true) else (some false))) = some r := H
                            have A310 := Aside0.mk A3100
                            clear A3100
                            by_cases c311 : t249 < 0
                            · rw [if_pos c311] at H
                              have c311b0 : decide (t249 < 0) = true := decide_eq_true c311
                              clear c311
                              obtain rfl := Option.some.inj H
                              have hnb312 := NB216_184.out
                              have hnc312 := NB184_216.out
                              have hnb313 := NB216_199.out
                              have hnc313 := NB199_216.out
                              have hnb314 := NB216_200.out
                              have hnc314 := NB200_216.out
                              have hnb315 := NB216_206.out
                              have hnc315 := NB206_216.out
                              have hnb316 := NB216_215.out
                              have hnc316 := NB215_216.out
                              have hnb317 := NB216_245.out
                              have hnc317 := NB245_216.out
                              have hnb318 := NB216_246.out
                              have hnc318 := NB246_216.out
                              have hcz319_0 : wc.cell? ⟨gb216, 0, none⟩ = some (.slice Ao45 t230.length co45) := (blk_cell BK216.out 0).trans rfl
                              have hcz319_1 : wc.cell? ⟨gb216, 1, none⟩ = some (.int .i64 t212) := (blk_cell BK216.out 1).trans rfl
                              have hcz319_2 : wc.cell? ⟨gb216, 2, none⟩ = some (.int .i64 t213) := (blk_cell BK216.out 2).trans rfl
                              have hfz319_0 := blk_frozen BK216.out 0
                              have hfz319_1 := blk_frozen BK216.out 1
                              have hfz319_2 := blk_frozen BK216.out 2
                              go_wp2_with (first | ((with_reducible refine gate_callee (f := 36) rfl ?_); refine goesL_ (some 119) rfl rfl Try.func36 (by kernel_rfl) rfl #[.agg #[.slice Ao45 t230.length co45, .int .i64 t212, .int .i64 t213], .int .i64 1] rfl (by (try simp only [List.map_toArray, List.map_cons, List.map_nil]); first | done | rfl | (simp only [List.length_drop, List.length_take]; rfl)) ?_; (with_reducible refine (laws_heldSender.calls kj196 _ _ t230 t212 t213 1 t249 _ ?side1 ?side2 A310.out).mono ?_); (case side1 => repeat (first | exact (Kd.R_reads' HO_217000.out).2.2 | (with_reducible refine Kd.C_alloc ?_ _) | (with_reducible refine Kd.C_drewN ?_ _) | (with_reducible refine Kd.C_drew ?_))); (case side2 => exact (Kd.R_reads' HO_217000.out).2.1); rintro e w320 ⟨rfl, hb⟩; refine ⟨_, rfl, ?_⟩; have n0_ := Aside0.mk (Kd.R_below HO_201000.out hb); have n1_ := Aside0.mk (Kd.R_below HO_207000.out hb); have n2_ := Aside0.mk (Kd.R_below HO_217000.out hb); have n3_ := Aside0.mk (Kd.R_below HO_247000.out hb); have n4_ := Aside0.mk (blk_below (g := gb184) (o := .cells #[.slice A0_0 l0_0.length c0_0, .int .i64 a0_1, .int .i64 a0_2] 51 (0, 0)) BK184.out hb); have n5_ := Aside0.mk (blk_below (g := gb199) (o := .cells #[.int .i64 t191, .int .i64 t192] 54 (0, 0)) BK199.out hb); have n6_ := Aside0.mk (blk_below (g := gb200) (o := .cells #[.slice Ao25 t193.length co25, .int .i64 t196, .int .i64 t197] 55 (0, 0)) BK200.out hb); have n7_ := Aside0.mk (blk_below (g := gb206) (o := .cells #[.slice Ao31 t226.length co31, .int .i64 t204, .int .i64 t205] 55 (0, 0)) BK206.out hb); have n8_ := Aside0.mk (blk_below (g := gb215) (o := .cells #[.int .i64 t207, .int .i64 t208] 54 (0, 0)) BK215.out hb); have n9_ := Aside0.mk (blk_below (g := gb216) (o := .cells #[.slice Ao45 t230.length co45, .int .i64 t212, .int .i64 t213] 55 (0, 0)) BK216.out hb); have n10_ := Aside0.mk (blk_below (g := gb245) (o := .cells #[.int .i64 t237, .int .i64 t238] 54 (0, 0)) BK245.out hb); have n11_ := Aside0.mk (blk_below (g := gb246) (o := .cells #[.slice Ao225 t239.length co225, .int .i64 t242, .int .i64 t243] 55 (0, 0)) BK246.out hb); have n12_ := Aside0.mk (below_step (by repeat (first | (with_reducible first | exact HB.out | apply below_alloc | apply pw_below_drewN | apply below_drew1 | refine below_set ?_ GE184.out | refine below_set ?_ GE199.out | refine below_set ?_ GE200.out | refine below_set ?_ GE206.out | refine below_set ?_ GE215.out | refine below_set ?_ GE216.out | refine below_set ?_ GE245.out | refine below_set ?_ GE246.out) | exact HB.out)) hb); clear HO_201000; clear HO_207000; clear HO_217000; clear HO_247000; clear BK184; clear BK199; clear BK200; clear BK206; clear BK215; clear BK216; clear BK245; clear BK246; clear HB; have HO_201000 := n0_; have HO_207000 := n1_; have HO_217000 := n2_; have HO_247000 := n3_; have BK184 := n4_; have BK199 := n5_; have BK200 := n6_; have BK206 := n7_; have BK215 := n8_; have BK216 := n9_; have BK245 := n10_; have BK246 := n11_; have HB := n12_; clear n0_ n1_ n2_ n3_ n4_ n5_ n6_ n7_ n8_ n9_ n10_ n11_ n12_; (try clear hb); (try clear hb2); (try clear hk); (try clear hi)))
                              go_ret
                              exact ⟨by first | rfl | (simp [errW_none, errW_some] <;> rfl) | (simp [*, errW_none, errW_some] <;> rfl), by repeat (first | (with_reducible first | exact HB.out | apply below_alloc | apply pw_below_drewN | apply below_drew1 | refine below_set ?_ GE184.out | refine below_set ?_ GE199.out | refine below_set ?_ GE200.out | refine below_set ?_ GE206.out | refine below_set ?_ GE215.out | refine below_set ?_ GE216.out | refine below_set ?_ GE245.out | refine below_set ?_ GE246.out) | exact HB.out)⟩
                            · rw [if_neg c311] at H
                              have c311b0 : decide (t249 < 0) = false := decide_eq_false c311
                              clear c311
                              by_cases c321 : t249 = t229
                              · rw [if_pos c321] at H
                                have c321b0 : (t249 == t229) = true := beq_iff_eq.mpr c321
                                have c321b1 : (t249 != t229) = false := bne_eq_false_iff_eq.mpr c321
                                clear c321
                                obtain rfl := Option.some.inj H
                                have hnb322 := NB216_184.out
                                have hnc322 := NB184_216.out
                                have hnb323 := NB216_199.out
                                have hnc323 := NB199_216.out
                                have hnb324 := NB216_200.out
                                have hnc324 := NB200_216.out
                                have hnb325 := NB216_206.out
                                have hnc325 := NB206_216.out
                                have hnb326 := NB216_215.out
                                have hnc326 := NB215_216.out
                                have hnb327 := NB216_245.out
                                have hnc327 := NB245_216.out
                                have hnb328 := NB216_246.out
                                have hnc328 := NB246_216.out
                                have hcz329_0 : wc.cell? ⟨gb216, 0, none⟩ = some (.slice Ao45 t230.length co45) := (blk_cell BK216.out 0).trans rfl
                                have hcz329_1 : wc.cell? ⟨gb216, 1, none⟩ = some (.int .i64 t212) := (blk_cell BK216.out 1).trans rfl
                                have hcz329_2 : wc.cell? ⟨gb216, 2, none⟩ = some (.int .i64 t213) := (blk_cell BK216.out 2).trans rfl
                                have hfz329_0 := blk_frozen BK216.out 0
                                have hfz329_1 := blk_frozen BK216.out 1
                                have hfz329_2 := blk_frozen BK216.out 2
                                go_wp2_with (first | ((with_reducible refine gate_callee (f := 36) rfl ?_); refine goesL_ (some 119) rfl rfl Try.func36 (by kernel_rfl) rfl #[.agg #[.slice Ao45 t230.length co45, .int .i64 t212, .int .i64 t213], .int .i64 1] rfl (by (try simp only [List.map_toArray, List.map_cons, List.map_nil]); first | done | rfl | (simp only [List.length_drop, List.length_take]; rfl)) ?_; (with_reducible refine (laws_heldSender.calls kj196 _ _ t230 t212 t213 1 t249 _ ?side1 ?side2 A310.out).mono ?_); (case side1 => repeat (first | exact (Kd.R_reads' HO_217000.out).2.2 | (with_reducible refine Kd.C_alloc ?_ _) | (with_reducible refine Kd.C_drewN ?_ _) | (with_reducible refine Kd.C_drew ?_))); (case side2 => exact (Kd.R_reads' HO_217000.out).2.1); rintro e w330 ⟨rfl, hb⟩; refine ⟨_, rfl, ?_⟩; have n0_ := Aside0.mk (Kd.R_below HO_201000.out hb); have n1_ := Aside0.mk (Kd.R_below HO_207000.out hb); have n2_ := Aside0.mk (Kd.R_below HO_217000.out hb); have n3_ := Aside0.mk (Kd.R_below HO_247000.out hb); have n4_ := Aside0.mk (blk_below (g := gb184) (o := .cells #[.slice A0_0 l0_0.length c0_0, .int .i64 a0_1, .int .i64 a0_2] 51 (0, 0)) BK184.out hb); have n5_ := Aside0.mk (blk_below (g := gb199) (o := .cells #[.int .i64 t191, .int .i64 t192] 54 (0, 0)) BK199.out hb); have n6_ := Aside0.mk (blk_below (g := gb200) (o := .cells #[.slice Ao25 t193.length co25, .int .i64 t196, .int .i64 t197] 55 (0, 0)) BK200.out hb); have n7_ := Aside0.mk (blk_below (g := gb206) (o := .cells #[.slice Ao31 t226.length co31, .int .i64 t204, .int .i64 t205] 55 (0, 0)) BK206.out hb); have n8_ := Aside0.mk (blk_below (g := gb215) (o := .cells #[.int .i64 t207, .int .i64 t208] 54 (0, 0)) BK215.out hb); have n9_ := Aside0.mk (blk_below (g := gb216) (o := .cells #[.slice Ao45 t230.length co45, .int .i64 t212, .int .i64 t213] 55 (0, 0)) BK216.out hb); have n10_ := Aside0.mk (blk_below (g := gb245) (o := .cells #[.int .i64 t237, .int .i64 t238] 54 (0, 0)) BK245.out hb); have n11_ := Aside0.mk (blk_below (g := gb246) (o := .cells #[.slice Ao225 t239.length co225, .int .i64 t242, .int .i64 t243] 55 (0, 0)) BK246.out hb); have n12_ := Aside0.mk (below_step (by repeat (first | (with_reducible first | exact HB.out | apply below_alloc | apply pw_below_drewN | apply below_drew1 | refine below_set ?_ GE184.out | refine below_set ?_ GE199.out | refine below_set ?_ GE200.out | refine below_set ?_ GE206.out | refine below_set ?_ GE215.out | refine below_set ?_ GE216.out | refine below_set ?_ GE245.out | refine below_set ?_ GE246.out) | exact HB.out)) hb); clear HO_201000; clear HO_207000; clear HO_217000; clear HO_247000; clear BK184; clear BK199; clear BK200; clear BK206; clear BK215; clear BK216; clear BK245; clear BK246; clear HB; have HO_201000 := n0_; have HO_207000 := n1_; have HO_217000 := n2_; have HO_247000 := n3_; have BK184 := n4_; have BK199 := n5_; have BK200 := n6_; have BK206 := n7_; have BK215 := n8_; have BK216 := n9_; have BK245 := n10_; have BK246 := n11_; have HB := n12_; clear n0_ n1_ n2_ n3_ n4_ n5_ n6_ n7_ n8_ n9_ n10_ n11_ n12_; (try clear hb); (try clear hb2); (try clear hk); (try clear hi)))
                                go_ret
                                exact ⟨by first | rfl | (simp [errW_none, errW_some] <;> rfl) | (simp [*, errW_none, errW_some] <;> rfl), by repeat (first | (with_reducible first | exact HB.out | apply below_alloc | apply pw_below_drewN | apply below_drew1 | refine below_set ?_ GE184.out | refine below_set ?_ GE199.out | refine below_set ?_ GE200.out | refine below_set ?_ GE206.out | refine below_set ?_ GE215.out | refine below_set ?_ GE216.out | refine below_set ?_ GE245.out | refine below_set ?_ GE246.out) | exact HB.out)⟩
                              · rw [if_neg c321] at H
                                have c321b0 : (t249 == t229) = false := beq_eq_false_iff_ne.mpr c321
                                have c321b1 : (t249 != t229) = true := bne_iff_ne.mpr c321
                                obtain rfl := Option.some.inj H
                                have hnb331 := NB216_184.out
                                have hnc331 := NB184_216.out
                                have hnb332 := NB216_199.out
                                have hnc332 := NB199_216.out
                                have hnb333 := NB216_200.out
                                have hnc333 := NB200_216.out
                                have hnb334 := NB216_206.out
                                have hnc334 := NB206_216.out
                                have hnb335 := NB216_215.out
                                have hnc335 := NB215_216.out
                                have hnb336 := NB216_245.out
                                have hnc336 := NB245_216.out
                                have hnb337 := NB216_246.out
                                have hnc337 := NB246_216.out
                                have hcz338_0 : wc.cell? ⟨gb216, 0, none⟩ = some (.slice Ao45 t230.length co45) := (blk_cell BK216.out 0).trans rfl
                                have hcz338_1 : wc.cell? ⟨gb216, 1, none⟩ = some (.int .i64 t212) := (blk_cell BK216.out 1).trans rfl
                                have hcz338_2 : wc.cell? ⟨gb216, 2, none⟩ = some (.int .i64 t213) := (blk_cell BK216.out 2).trans rfl
                                have hfz338_0 := blk_frozen BK216.out 0
                                have hfz338_1 := blk_frozen BK216.out 1
                                have hfz338_2 := blk_frozen BK216.out 2
                                go_wp2_with (first | ((with_reducible refine gate_callee (f := 36) rfl ?_); refine goesL_ (some 119) rfl rfl Try.func36 (by kernel_rfl) rfl #[.agg #[.slice Ao45 t230.length co45, .int .i64 t212, .int .i64 t213], .int .i64 1] rfl (by (try simp only [List.map_toArray, List.map_cons, List.map_nil]); first | done | rfl | (simp only [List.length_drop, List.length_take]; rfl)) ?_; (with_reducible refine (laws_heldSender.calls kj196 _ _ t230 t212 t213 1 t249 _ ?side1 ?side2 A310.out).mono ?_); (case side1 => repeat (first | exact (Kd.R_reads' HO_217000.out).2.2 | (with_reducible refine Kd.C_alloc ?_ _) | (with_reducible refine Kd.C_drewN ?_ _) | (with_reducible refine Kd.C_drew ?_))); (case side2 => exact (Kd.R_reads' HO_217000.out).2.1); rintro e w339 ⟨rfl, hb⟩; refine ⟨_, rfl, ?_⟩; have n0_ := Aside0.mk (Kd.R_below HO_201000.out hb); have n1_ := Aside0.mk (Kd.R_below HO_207000.out hb); have n2_ := Aside0.mk (Kd.R_below HO_217000.out hb); have n3_ := Aside0.mk (Kd.R_below HO_247000.out hb); have n4_ := Aside0.mk (blk_below (g := gb184) (o := .cells #[.slice A0_0 l0_0.length c0_0, .int .i64 a0_1, .int .i64 a0_2] 51 (0, 0)) BK184.out hb); have n5_ := Aside0.mk (blk_below (g := gb199) (o := .cells #[.int .i64 t191, .int .i64 t192] 54 (0, 0)) BK199.out hb); have n6_ := Aside0.mk (blk_below (g := gb200) (o := .cells #[.slice Ao25 t193.length co25, .int .i64 t196, .int .i64 t197] 55 (0, 0)) BK200.out hb); have n7_ := Aside0.mk (blk_below (g := gb206) (o := .cells #[.slice Ao31 t226.length co31, .int .i64 t204, .int .i64 t205] 55 (0, 0)) BK206.out hb); have n8_ := Aside0.mk (blk_below (g := gb215) (o := .cells #[.int .i64 t207, .int .i64 t208] 54 (0, 0)) BK215.out hb); have n9_ := Aside0.mk (blk_below (g := gb216) (o := .cells #[.slice Ao45 t230.length co45, .int .i64 t212, .int .i64 t213] 55 (0, 0)) BK216.out hb); have n10_ := Aside0.mk (blk_below (g := gb245) (o := .cells #[.int .i64 t237, .int .i64 t238] 54 (0, 0)) BK245.out hb); have n11_ := Aside0.mk (blk_below (g := gb246) (o := .cells #[.slice Ao225 t239.length co225, .int .i64 t242, .int .i64 t243] 55 (0, 0)) BK246.out hb); have n12_ := Aside0.mk (below_step (by repeat (first | (with_reducible first | exact HB.out | apply below_alloc | apply pw_below_drewN | apply below_drew1 | refine below_set ?_ GE184.out | refine below_set ?_ GE199.out | refine below_set ?_ GE200.out | refine below_set ?_ GE206.out | refine below_set ?_ GE215.out | refine below_set ?_ GE216.out | refine below_set ?_ GE245.out | refine below_set ?_ GE246.out) | exact HB.out)) hb); clear HO_201000; clear HO_207000; clear HO_217000; clear HO_247000; clear BK184; clear BK199; clear BK200; clear BK206; clear BK215; clear BK216; clear BK245; clear BK246; clear HB; have HO_201000 := n0_; have HO_207000 := n1_; have HO_217000 := n2_; have HO_247000 := n3_; have BK184 := n4_; have BK199 := n5_; have BK200 := n6_; have BK206 := n7_; have BK215 := n8_; have BK216 := n9_; have BK245 := n10_; have BK246 := n11_; have HB := n12_; clear n0_ n1_ n2_ n3_ n4_ n5_ n6_ n7_ n8_ n9_ n10_ n11_ n12_; (try clear hb); (try clear hb2); (try clear hk); (try clear hi)))
                                go_ret
                                exact ⟨by first | rfl | (simp [errW_none, errW_some] <;> rfl) | (simp [*, errW_none, errW_some] <;> rfl), by repeat (first | (with_reducible first | exact HB.out | apply below_alloc | apply pw_below_drewN | apply below_drew1 | refine below_set ?_ GE184.out | refine below_set ?_ GE199.out | refine below_set ?_ GE200.out | refine below_set ?_ GE206.out | refine below_set ?_ GE215.out | refine below_set ?_ GE216.out | refine below_set ?_ GE245.out | refine below_set ?_ GE246.out) | exact HB.out)⟩
                    · rw [if_neg c194] at H
                      have c194b0 : (t231 == t229) = false := beq_eq_false_iff_ne.mpr c194
                      have c194b1 : (t231 != t229) = true := bne_iff_ne.mpr c194
                      obtain rfl := Option.some.inj H
                      have hnb340 := NB216_184.out
                      have hnc340 := NB184_216.out
                      have hnb341 := NB216_199.out
                      have hnc341 := NB199_216.out
                      have hnb342 := NB216_200.out
                      have hnc342 := NB200_216.out
                      have hnb343 := NB216_206.out
                      have hnc343 := NB206_216.out
                      have hnb344 := NB216_215.out
                      have hnc344 := NB215_216.out
                      have hcz345_0 : wc.cell? ⟨gb216, 0, none⟩ = some (.slice Ao45 t209.length co45) := (blk_cell BK216.out 0).trans rfl
                      have hcz345_1 : wc.cell? ⟨gb216, 1, none⟩ = some (.int .i64 t212) := (blk_cell BK216.out 1).trans rfl
                      have hcz345_2 : wc.cell? ⟨gb216, 2, none⟩ = some (.int .i64 t213) := (blk_cell BK216.out 2).trans rfl
                      have hfz345_0 := blk_frozen BK216.out 0
                      have hfz345_1 := blk_frozen BK216.out 1
                      have hfz345_2 := blk_frozen BK216.out 2
                      go_wp2_with (first | ((with_reducible refine gate_callee (f := 35) rfl ?_); refine goesL_ (some 85) rfl rfl Try.func35 (by kernel_rfl) rfl #[.agg #[.slice Ao45 t209.length co45, .int .i64 t212, .int .i64 t213], .int .i64 1] rfl (by (try simp only [List.map_toArray, List.map_cons, List.map_nil]); first | done | rfl | (simp only [List.length_drop, List.length_take]; rfl)) ?_; (with_reducible refine (laws_markSender.calls kj111 (fun k_ => some k_ = (.slice Ao45 t209.length co45 : Value).ownBlock) (.slice Ao45 t209.length co45) t209 t212 t213 1 t229 t230 w _ ?side1 ?side2 A182.out).mono ?_); (case side1 => repeat (first | (with_reducible first | exact HB.out | apply below_alloc | apply pw_below_drewN | apply below_drew1 | refine below_set ?_ GE184.out | refine below_set ?_ GE199.out | refine below_set ?_ GE200.out | refine below_set ?_ GE206.out | refine below_set ?_ GE215.out | refine below_set ?_ GE216.out) | exact HB.out)); (case side2 => exact Kd.R_tight rfl HO_217000.out); rintro e w346 ⟨rfl, hy0, hb, hkp⟩; refine ⟨_, rfl, ?_⟩; have n0_ := Aside0.mk (Kd.R_mono (ok' := fun k_ => some k_ ≠ (.slice Ao31 t226.length co31 : Value).ownBlock ∧ some k_ ≠ (.slice Ao45 t209.length co45 : Value).ownBlock) (Kd.R_keptB (HO_201000.out) hkp (fun k_ hk_ hs_ => (hk_.2) hs_)) (fun k_ hk_ => ⟨hk_.1.1, hk_.1.2⟩)); have n1_ := Aside0.mk (Kd.R_mono (ok' := fun k_ => some k_ ≠ (.slice Ao25 t193.length co25 : Value).ownBlock ∧ some k_ ≠ (.slice Ao45 t209.length co45 : Value).ownBlock) (Kd.R_keptB (HO_207000.out) hkp (fun k_ hk_ hs_ => (hk_.2) hs_)) (fun k_ hk_ => ⟨hk_.1.1, hk_.1.2⟩)); have n2_ := Aside0.mk (Kd.R_reok rfl hy0 (fun k_ e_ => HO_217000.out.1 k_ e_)); have n3_ := Aside0.mk (blk_kept BK184.out hkp (fun hs_ => (fun e_ => (Kd.R_ne HO_217000.out BK184.out (by decide)) e_) hs_)); have n4_ := Aside0.mk (blk_kept BK199.out hkp (fun hs_ => (fun e_ => (Kd.R_ne HO_217000.out BK199.out (by decide)) e_) hs_)); have n5_ := Aside0.mk (blk_kept BK200.out hkp (fun hs_ => (fun e_ => (Kd.R_ne HO_217000.out BK200.out (by decide)) e_) hs_)); have n6_ := Aside0.mk (blk_kept BK206.out hkp (fun hs_ => (fun e_ => (Kd.R_ne HO_217000.out BK206.out (by decide)) e_) hs_)); have n7_ := Aside0.mk (blk_kept BK215.out hkp (fun hs_ => (fun e_ => (Kd.R_ne HO_217000.out BK215.out (by decide)) e_) hs_)); have n8_ := Aside0.mk (blk_kept BK216.out hkp (fun hs_ => (fun e_ => (Kd.R_ne HO_217000.out BK216.out (by decide)) e_) hs_)); have n9_ := Aside0.mk (hb); clear HO_201000; clear HO_207000; clear HO_217000; clear BK184; clear BK199; clear BK200; clear BK206; clear BK215; clear BK216; clear HB; have HO_201000 := n0_; have HO_207000 := n1_; have HO_217000 := n2_; have BK184 := n3_; have BK199 := n4_; have BK200 := n5_; have BK206 := n6_; have BK215 := n7_; have BK216 := n8_; have HB := n9_; clear n0_ n1_ n2_ n3_ n4_ n5_ n6_ n7_ n8_ n9_; (try clear hb); (try clear hkp); (try clear hy0); have hcz347_0 : w346.cell? ⟨gb216, 0, none⟩ = some (.slice Ao45 t209.length co45) := (blk_cell BK216.out 0).trans rfl; have hcz347_1 : w346.cell? ⟨gb216, 1, none⟩ = some (.int .i64 t212) := (blk_cell BK216.out 1).trans rfl; have hcz347_2 : w346.cell? ⟨gb216, 2, none⟩ = some (.int .i64 t213) := (blk_cell BK216.out 2).trans rfl; have hfz347_0 := blk_frozen BK216.out 0; have hfz347_1 := blk_frozen BK216.out 1; have hfz347_2 := blk_frozen BK216.out 2) | ((with_reducible refine gate_callee (f := 36) rfl ?_); refine goesL_ (some 88) rfl rfl Try.func36 (by kernel_rfl) rfl #[.agg #[.slice Ao45 t230.length co45, .int .i64 t212, .int .i64 t213], .int .i64 1] rfl (by (try simp only [List.map_toArray, List.map_cons, List.map_nil]); first | done | (rw [show t230.length = t209.length from (Kd.R_reads' HO_217000.out).1.symm] <;> rfl) | rfl | (simp only [List.length_drop, List.length_take]; rfl)) ?_; (with_reducible refine (laws_heldSender.calls kj111 _ _ t230 t212 t213 1 t231 _ ?side1 ?side2 A183.out).mono ?_); (case side1 => repeat (first | exact (Kd.R_reads' HO_217000.out).2.2 | (with_reducible refine Kd.C_alloc ?_ _) | (with_reducible refine Kd.C_drewN ?_ _) | (with_reducible refine Kd.C_drew ?_))); (case side2 => rw [show t230.length = t209.length from (Kd.R_reads' HO_217000.out).1.symm]; exact (Kd.R_reads' HO_217000.out).2.1); rintro e w348 ⟨rfl, hb⟩; refine ⟨_, rfl, ?_⟩; have n0_ := Aside0.mk (Kd.R_below HO_201000.out hb); have n1_ := Aside0.mk (Kd.R_below HO_207000.out hb); have n2_ := Aside0.mk (Kd.R_below HO_217000.out hb); have n3_ := Aside0.mk (blk_below (g := gb184) (o := .cells #[.slice A0_0 l0_0.length c0_0, .int .i64 a0_1, .int .i64 a0_2] 51 (0, 0)) BK184.out hb); have n4_ := Aside0.mk (blk_below (g := gb199) (o := .cells #[.int .i64 t191, .int .i64 t192] 54 (0, 0)) BK199.out hb); have n5_ := Aside0.mk (blk_below (g := gb200) (o := .cells #[.slice Ao25 t193.length co25, .int .i64 t196, .int .i64 t197] 55 (0, 0)) BK200.out hb); have n6_ := Aside0.mk (blk_below (g := gb206) (o := .cells #[.slice Ao31 t226.length co31, .int .i64 t204, .int .i64 t205] 55 (0, 0)) BK206.out hb); have n7_ := Aside0.mk (blk_below (g := gb215) (o := .cells #[.int .i64 t207, .int .i64 t208] 54 (0, 0)) BK215.out hb); have n8_ := Aside0.mk (blk_below (g := gb216) (o := .cells #[.slice Ao45 t209.length co45, .int .i64 t212, .int .i64 t213] 55 (0, 0)) BK216.out hb); have n9_ := Aside0.mk (below_step (by repeat (first | (with_reducible first | exact HB.out | apply below_alloc | apply pw_below_drewN | apply below_drew1 | refine below_set ?_ GE184.out | refine below_set ?_ GE199.out | refine below_set ?_ GE200.out | refine below_set ?_ GE206.out | refine below_set ?_ GE215.out | refine below_set ?_ GE216.out) | exact HB.out)) hb); clear HO_201000; clear HO_207000; clear HO_217000; clear BK184; clear BK199; clear BK200; clear BK206; clear BK215; clear BK216; clear HB; have HO_201000 := n0_; have HO_207000 := n1_; have HO_217000 := n2_; have BK184 := n3_; have BK199 := n4_; have BK200 := n5_; have BK206 := n6_; have BK215 := n7_; have BK216 := n8_; have HB := n9_; clear n0_ n1_ n2_ n3_ n4_ n5_ n6_ n7_ n8_ n9_; (try clear hb); (try clear hb2); (try clear hk); (try clear hi)))
                      go_ret
                      exact ⟨by first | rfl | (simp [errW_none, errW_some] <;> rfl) | (simp [*, errW_none, errW_some] <;> rfl), by repeat (first | (with_reducible first | exact HB.out | apply below_alloc | apply pw_below_drewN | apply below_drew1 | refine below_set ?_ GE184.out | refine below_set ?_ GE199.out | refine below_set ?_ GE200.out | refine below_set ?_ GE206.out | refine below_set ?_ GE215.out | refine below_set ?_ GE216.out) | exact HB.out)⟩
          · replace c110 := Bool.eq_false_iff.mpr c110
            subst c110
            have H1 : (some false) = some r := by rw [if_neg (show ¬ (false = true) by decide)] at H; exact H
            clear H
            have H := H1
            clear H1
            obtain rfl := Option.some.inj H
            try go_wp2
            have n0_ := Aside0.mk (Kd.R_drew HO_201000.out)
            have n1_ := Aside0.mk (Kd.R_drew HO_207000.out)
            have n2_ := Aside0.mk (Kd.R_drew HO_217000.out)
            have n3_ := Aside0.mk (blk_drew BK184.out)
            have n4_ := Aside0.mk (blk_drew BK199.out)
            have n5_ := Aside0.mk (blk_drew BK200.out)
            have n6_ := Aside0.mk (blk_drew BK206.out)
            have n7_ := Aside0.mk (blk_drew BK215.out)
            have n8_ := Aside0.mk (blk_drew BK216.out)
            have n9_ := Aside0.mk (below_drew1 HB.out)
            clear HO_201000
            clear HO_207000
            clear HO_217000
            clear BK184
            clear BK199
            clear BK200
            clear BK206
            clear BK215
            clear BK216
            clear HB
            have HO_201000 := n0_
            have HO_207000 := n1_
            have HO_217000 := n2_
            have BK184 := n3_
            have BK199 := n4_
            have BK200 := n5_
            have BK206 := n6_
            have BK215 := n7_
            have BK216 := n8_
            have HB := n9_
            clear n0_ n1_ n2_ n3_ n4_ n5_ n6_ n7_ n8_ n9_
            refine start_ (n := 5) (S := fun w' => w'.cell? ⟨gb206, 0, none⟩ = some (.slice Ao31 t201.length co31) ∧ w'.cell? ⟨gb206, 1, none⟩ = some (.int .i64 t204) ∧ w'.cell? ⟨gb206, 2, none⟩ = some (.int .i64 t205) ∧ w'.cell? ⟨gb184, 0, none⟩ = some (.slice A0_0 l0_0.length c0_0) ∧ w'.cell? ⟨gb184, 1, none⟩ = some (.int .i64 a0_1) ∧ w'.cell? ⟨gb184, 2, none⟩ = some (.int .i64 a0_2)) (ds := []) #[false, false, false, false, false] (by kernel_rfl) rfl rfl ⟨(blk_cell BK206.out 0).trans rfl, (blk_cell BK206.out 1).trans rfl, (blk_cell BK206.out 2).trans rfl, (blk_cell BK184.out 0).trans rfl, (blk_cell BK184.out 1).trans rfl, (blk_cell BK184.out 2).trans rfl⟩ (fun hHeld => ?_)
            generalize wc.drew = w349 at HO_201000 HO_207000 HO_217000 BK184 BK199 BK200 BK206 BK215 BK216 HB hHeld ⊢
            refine take_ (i := 0) (N := some 56) (v := ?_) (a' := ?_) #[true, false, false, false, false] rfl rfl (by kernel_rfl) (fun _ _ _ h => h) (Or.inl ⟨by rfl, ?_⟩) hHeld ?_ ?_
            rotate_left
            · rintro w' ⟨s0, s1, s2, s3, s4, s5⟩
              go_simp
              with_reducible rfl
            rotate_left
            · simp only [Act.put, List.setIfInBounds_toArray, List.set_cons_zero, List.set_cons_succ, i64_w, i32_w]
              rfl
            refine take_ (i := 1) (N := some 57) (v := ?_) (a' := ?_) #[true, true, false, false, false] rfl rfl (by kernel_rfl) (fun _ _ _ h => h) (Or.inl ⟨by rfl, ?_⟩) hHeld ?_ ?_
            rotate_left
            · rintro w' ⟨s0, s1, s2, s3, s4, s5⟩
              go_simp
              with_reducible rfl
            rotate_left
            · simp only [Act.put, List.setIfInBounds_toArray, List.set_cons_zero, List.set_cons_succ, i64_w, i32_w]
              rfl
            refine one_ (i := 2) (N := some 58) #[true, true, true, false, false] rfl rfl (by kernel_rfl) (by decide) (fun K hK => ?_)
            refine goes_ Try.func31 (by kernel_rfl) rfl #[.agg #[.slice A0_0 l0_0.length c0_0, .int .i64 a0_1, .int .i64 a0_2]] (by rfl) rfl rfl (by (try simp only [List.map_toArray, List.map_cons, List.map_nil]); first | done | rfl | (simp only [List.length_drop, List.length_take]; rfl)) ?_
            with_reducible refine (laws_toSender.calls kj11 _ _ l0_0 a0_1 a0_2 t219 t222 t223 _ ?side1 ?side2 A108.out).mono ?_
            (case side1 => repeat (first | exact (Kd.C_below HR0_0.out HB.out) | (with_reducible refine Kd.C_alloc ?_ _) | (with_reducible refine Kd.C_drewN ?_ _) | (with_reducible refine Kd.C_drew ?_)))
            (case side2 => exact HC0_0.out)
            rintro e w350 ⟨v220, rfl, ho0, hb⟩
            refine ⟨_, rfl, ?_⟩
            have n0_ := Aside0.mk (Kd.R_elder' HO_201000.out (Kd.R_base ho0) hb)
            have n1_ := Aside0.mk (Kd.R_elder' HO_207000.out (Kd.R_base ho0) hb)
            have n2_ := Aside0.mk (Kd.R_elder' HO_217000.out (Kd.R_base ho0) hb)
            have n3_ := Aside0.mk (Kd.R_lower (Kd.R_new' (Kd.R_new' (Kd.R_new' ho0 (Kd.R_lt HO_201000.out)) (Kd.R_lt HO_207000.out)) (Kd.R_lt HO_217000.out)) (below_size (by repeat (first | (with_reducible first | exact HB.out | apply below_alloc | apply pw_below_drewN | apply below_drew1 | refine below_set ?_ GE184.out | refine below_set ?_ GE199.out | refine below_set ?_ GE200.out | refine below_set ?_ GE206.out | refine below_set ?_ GE215.out | refine below_set ?_ GE216.out) | exact HB.out))))
            have n4_ := Aside0.mk (blk_below (g := gb184) (o := .cells #[.slice A0_0 l0_0.length c0_0, .int .i64 a0_1, .int .i64 a0_2] 51 (0, 0)) BK184.out hb)
            have n5_ := Aside0.mk (blk_below (g := gb199) (o := .cells #[.int .i64 t191, .int .i64 t192] 54 (0, 0)) BK199.out hb)
            have n6_ := Aside0.mk (blk_below (g := gb200) (o := .cells #[.slice Ao25 t193.length co25, .int .i64 t196, .int .i64 t197] 55 (0, 0)) BK200.out hb)
            have n7_ := Aside0.mk (blk_below (g := gb206) (o := .cells #[.slice Ao31 t201.length co31, .int .i64 t204, .int .i64 t205] 55 (0, 0)) BK206.out hb)
            have n8_ := Aside0.mk (blk_below (g := gb215) (o := .cells #[.int .i64 t207, .int .i64 t208] 54 (0, 0)) BK215.out hb)
            have n9_ := Aside0.mk (blk_below (g := gb216) (o := .cells #[.slice Ao45 t209.length co45, .int .i64 t212, .int .i64 t213] 55 (0, 0)) BK216.out hb)
            have n10_ := Aside0.mk (below_step (by repeat (first | (with_reducible first | exact HB.out | apply below_alloc | apply pw_below_drewN | apply below_drew1 | refine below_set ?_ GE184.out | refine below_set ?_ GE199.out | refine below_set ?_ GE200.out | refine below_set ?_ GE206.out | refine below_set ?_ GE215.out | refine below_set ?_ GE216.out) | exact HB.out)) hb)
            clear HO_201000
            clear HO_207000
            clear HO_217000
            clear BK184
            clear BK199
            clear BK200
            clear BK206
            clear BK215
            clear BK216
            clear HB
            have HO_201000 := n0_
            have HO_207000 := n1_
            have HO_217000 := n2_
            have HO221 := n3_
            have BK184 := n4_
            have BK199 := n5_
            have BK200 := n6_
            have BK206 := n7_
            have BK215 := n8_
            have BK216 := n9_
            have HB := n10_
            clear n0_ n1_ n2_ n3_ n4_ n5_ n6_ n7_ n8_ n9_ n10_
            (try clear hb)
            (try clear hb2)
            (try clear hk)
            (try clear hi)
            (try clear ho0)
            obtain ⟨Ao351, co351, eo351⟩ := Kd.R_slice HO221.out
            (first | subst eo351 | (injection eo351 with f1_ f2_ f3_; have f4_ := f1_.symm; have f5_ := f3_.symm; clear f1_ f2_ f3_; subst f4_; subst f5_))
            refine hK.out _ _ ⟨(blk_cell BK206.out 0).trans rfl, (blk_cell BK206.out 1).trans rfl, (blk_cell BK206.out 2).trans rfl, (blk_cell BK184.out 0).trans rfl, (blk_cell BK184.out 1).trans rfl, (blk_cell BK184.out 2).trans rfl⟩ (fun hHeld => ?_)
            clear hK K
            refine norm_ (a' := ?_) ?_ ?_
            rotate_left
            · show Act.put _ (some 58) _ = _
              simp only [Act.put, List.setIfInBounds_toArray, List.set_cons_zero, List.set_cons_succ, i64_w, i32_w]
              rfl
            refine one_ (i := 3) (N := some 59) #[true, true, true, true, false] rfl rfl (by kernel_rfl) (by decide) (fun K hK => ?_)
            refine goes_ Try.func34 (by kernel_rfl) rfl #[.agg #[.slice Ao31 t201.length co31, .int .i64 t204, .int .i64 t205], .agg #[.slice Ao351 t219.length co351, .int .i64 t222, .int .i64 t223]] (by rfl) rfl rfl (by (try simp only [List.map_toArray, List.map_cons, List.map_nil]); first | done | rfl | (simp only [List.length_drop, List.length_take]; rfl)) ?_
            with_reducible refine (laws_eqSender.calls kj11 _ _ t201 t204 t205 _ _ t219 t222 t223 false _ ?side1 ?side2 ?side3 ?side4 A109.out).mono ?_
            (case side1 => repeat (first | exact (Kd.R_reads' HO_207000.out).2.2 | (with_reducible refine Kd.C_alloc ?_ _) | (with_reducible refine Kd.C_drewN ?_ _) | (with_reducible refine Kd.C_drew ?_)))
            (case side2 => exact (Kd.R_reads' HO_207000.out).2.1)
            (case side3 => repeat (first | exact (Kd.R_reads' HO221.out).2.2 | (with_reducible refine Kd.C_alloc ?_ _) | (with_reducible refine Kd.C_drewN ?_ _) | (with_reducible refine Kd.C_drew ?_)))
            (case side4 => exact (Kd.R_reads' HO221.out).2.1)
            rintro e w352 ⟨rfl, hb⟩
            refine ⟨_, rfl, ?_⟩
            have n0_ := Aside0.mk (Kd.R_below HO_201000.out hb)
            have n1_ := Aside0.mk (Kd.R_below HO_207000.out hb)
            have n2_ := Aside0.mk (Kd.R_below HO_217000.out hb)
            have n3_ := Aside0.mk (Kd.R_below HO221.out hb)
            have n4_ := Aside0.mk (blk_below (g := gb184) (o := .cells #[.slice A0_0 l0_0.length c0_0, .int .i64 a0_1, .int .i64 a0_2] 51 (0, 0)) BK184.out hb)
            have n5_ := Aside0.mk (blk_below (g := gb199) (o := .cells #[.int .i64 t191, .int .i64 t192] 54 (0, 0)) BK199.out hb)
            have n6_ := Aside0.mk (blk_below (g := gb200) (o := .cells #[.slice Ao25 t193.length co25, .int .i64 t196, .int .i64 t197] 55 (0, 0)) BK200.out hb)
            have n7_ := Aside0.mk (blk_below (g := gb206) (o := .cells #[.slice Ao31 t201.length co31, .int .i64 t204, .int .i64 t205] 55 (0, 0)) BK206.out hb)
            have n8_ := Aside0.mk (blk_below (g := gb215) (o := .cells #[.int .i64 t207, .int .i64 t208] 54 (0, 0)) BK215.out hb)
            have n9_ := Aside0.mk (blk_below (g := gb216) (o := .cells #[.slice Ao45 t209.length co45, .int .i64 t212, .int .i64 t213] 55 (0, 0)) BK216.out hb)
            have n10_ := Aside0.mk (below_step (by repeat (first | (with_reducible first | exact HB.out | apply below_alloc | apply pw_below_drewN | apply below_drew1 | refine below_set ?_ GE184.out | refine below_set ?_ GE199.out | refine below_set ?_ GE200.out | refine below_set ?_ GE206.out | refine below_set ?_ GE215.out | refine below_set ?_ GE216.out) | exact HB.out)) hb)
            clear HO_201000
            clear HO_207000
            clear HO_217000
            clear HO221
            clear BK184
            clear BK199
            clear BK200
            clear BK206
            clear BK215
            clear BK216
            clear HB
            have HO_201000 := n0_
            have HO_207000 := n1_
            have HO_217000 := n2_
            have HO221 := n3_
            have BK184 := n4_
            have BK199 := n5_
            have BK200 := n6_
            have BK206 := n7_
            have BK215 := n8_
            have BK216 := n9_
            have HB := n10_
            clear n0_ n1_ n2_ n3_ n4_ n5_ n6_ n7_ n8_ n9_ n10_
            (try clear hb)
            (try clear hb2)
            (try clear hk)
            (try clear hi)
            refine hK.out _ _ ⟨(blk_cell BK206.out 0).trans rfl, (blk_cell BK206.out 1).trans rfl, (blk_cell BK206.out 2).trans rfl, (blk_cell BK184.out 0).trans rfl, (blk_cell BK184.out 1).trans rfl, (blk_cell BK184.out 2).trans rfl⟩ (fun hHeld => ?_)
            clear hK K
            refine norm_ (a' := ?_) ?_ ?_
            rotate_left
            · show Act.put _ (some 59) _ = _
              simp only [Act.put, List.setIfInBounds_toArray, List.set_cons_zero, List.set_cons_succ, i64_w, i32_w]
              rfl
            refine pure_ (i := 4) (N := some 60) (v := ?_) (a' := ?_) #[true, true, true, true, true] rfl rfl (by kernel_rfl) (fun _ _ _ h => h) (Or.inl ⟨by rfl, ?_⟩) ?_ ?_
            rotate_left
            · intro w'
              go_simp
              with_reducible rfl
            rotate_left
            · simp only [Act.put, List.setIfInBounds_toArray, List.set_cons_zero, List.set_cons_succ, i64_w, i32_w]
              rfl
            refine done_ (by kernel_rfl) ?_
            try go_wp2
            go_ret
            exact ⟨by first | rfl | (simp [errW_none, errW_some] <;> rfl) | (simp [*, errW_none, errW_some] <;> rfl), by repeat (first | (with_reducible first | exact HB.out | apply below_alloc | apply pw_below_drewN | apply below_drew1 | refine below_set ?_ GE184.out | refine below_set ?_ GE199.out | refine below_set ?_ GE200.out | refine below_set ?_ GE206.out | refine below_set ?_ GE215.out | refine below_set ?_ GE216.out) | exact HB.out)⟩

end Go.Proofs.Ytmlejakajcmbdaa.PFnExactSendNext
