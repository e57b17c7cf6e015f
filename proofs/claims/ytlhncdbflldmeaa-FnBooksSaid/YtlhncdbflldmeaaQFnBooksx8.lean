-- Written by this session's own program for the law FnBooks; it began as the print's text.
import Derived.Test.YtlhncdbflldmeaaQFnBooksx0
import Derived.Test.YtlhncdbflldmeaaQFnBooksx6
import Derived.Test.YtlhncdbflldmeaaQFnBooksx7
namespace Go.Proofs.Ytlhncdbflldmeaa.PFnBooks
open Go.RowKit Go.Proofs.YtlhncdbflldmeaaW.PrintWords Go.Proofs.YtlhncdbflldmeaaW.PrintLast Go.Proofs.YtlhncdbflldmeaaW.PrintMore
attribute [local go_sem] max2_int min2_int max_two min_two max_three min_three max_four min_four   -- for this text's walks alone
set_option linter.unusedVariables false
set_option linter.unusedSimpArgs false

/-! ### spec_DrawBookLane: function 34 -/
def spec_DrawBookLane.j0 : Nat → List (S53) → List Int → Int → Int → Int → Int → Int → Int → Option ((List (S53)) × Int × Int × Int × Int)
  | 0, _, _, _, _, _, _, _, _ => none
  | k + 1, x5, x274000, x274001, x274002, x289000, x289001, x289002, x289003 => (spec_l1Cur_one.f x274000 x274001 x274002 24).bind fun bt297 => (if bt297.1 = true then ((spec_l1Cur_among.f x274000 bt297.2.1 bt297.2.2 (([(-1), 10, 9] : List Int))).bind fun bt303 => (some (x5, bt303.1, x289001, x289002, x289003))) else (some (x5, x289000, x289001, x289002, x289003)))
def spec_DrawBookLane.f (k : Nat) (l0 : List Int) : Option ((List (S53)) × Int × Int × Int × Int) := (spec_l1Cur_books.f k l0 0 0).bind fun bt274 => ((spec_l1Cur_pick.f l0 bt274.2.1 bt274.2.2 4).bind fun bt279 => ((spec_l1Cur_pick.f l0 bt279.2.1 bt279.2.2 40).bind fun bt282 => ((spec_l1Cur_pick.f l0 bt282.2.1 bt282.2.2 4).bind fun bt285 => ((spec_l1Cur_pick.f l0 bt285.2.1 bt285.2.2 5).bind fun bt289 => ((spec_l1Cur_one.f l0 bt289.2.1 bt289.2.2 3).bind fun bt292 => (if bt292.1 = true then ((spec_FirstFree.f k bt274.1 bt279.1 bt282.1 3).bind fun bt295 => (spec_DrawBookLane.j0 k bt274.1 l0 bt292.2.1 bt292.2.2 bt279.1 bt295.1 (wrap64 (bt295.1 + 3)) bt285.1)) else (spec_DrawBookLane.j0 k bt274.1 l0 bt292.2.1 bt292.2.2 bt279.1 bt282.1 (wrap64 ((wrap64 (bt282.1 + 1)) + bt289.1)) bt285.1)))))))
theorem spec_DrawBookLane.mono_l : ∀ k, (∀ y0 y1 y2 y3 y4 y5 y6 y7, LeO (spec_DrawBookLane.j0 k y0 y1 y2 y3 y4 y5 y6 y7) (spec_DrawBookLane.j0 (k + 1) y0 y1 y2 y3 y4 y5 y6 y7))
  | 0 => fun _ _ _ _ _ _ _ _ r h => by simp [spec_DrawBookLane.j0] at h
  | k + 1 => by
    have ih0 := spec_DrawBookLane.mono_l k
    · intro y0 y1 y2 y3 y4 y5 y6 y7
      unfold spec_DrawBookLane.j0
      repeat' first
      | (with_reducible exact ih0 _ _ _ _ _ _ _ _)
      | (with_reducible exact spec_FirstFree.mono _ _ _ _ _)
      | (with_reducible exact spec_l1Cur_books.mono _ _ _ _)
      | (with_reducible exact LeO.refl _)
      | (with_reducible exact LeO.none _)
      | (with_reducible refine LeO.ite ?_ ?_)
      | (with_reducible refine LeO.bind ?_ (fun _ => ?_))
      | exact ih0 _ _ _ _ _ _ _ _
      | exact spec_FirstFree.mono _ _ _ _ _
      | exact spec_l1Cur_books.mono _ _ _ _
      | exact LeO.none _
      | refine LeO.ite ?_ ?_
      | refine LeO.bind ?_ (fun _ => ?_)
theorem spec_DrawBookLane.mono : ∀ a0 k, LeO (spec_DrawBookLane.f k a0) (spec_DrawBookLane.f (k + 1) a0) := by
  intro a0 k
  have ih0 := spec_DrawBookLane.mono_l k
  unfold spec_DrawBookLane.f
  repeat' first
      | (with_reducible exact ih0 _ _ _ _ _ _ _ _)
      | (with_reducible exact spec_FirstFree.mono _ _ _ _ _)
      | (with_reducible exact spec_l1Cur_books.mono _ _ _ _)
      | (with_reducible exact LeO.refl _)
      | (with_reducible exact LeO.none _)
      | (with_reducible refine LeO.ite ?_ ?_)
      | (with_reducible refine LeO.bind ?_ (fun _ => ?_))
      | exact ih0 _ _ _ _ _ _ _ _
      | exact spec_FirstFree.mono _ _ _ _ _
      | exact spec_l1Cur_books.mono _ _ _ _
      | exact LeO.none _
      | refine LeO.ite ?_ ?_
      | refine LeO.bind ?_ (fun _ => ?_)
def spec_DrawBookLane.T4 : Bool × List (List Nat × List Nat) := (true, [([], []), ([0], [0]), ([1], [1]), ([], []), ([3], [3]), ([2, 4], [2, 4]), ([0, 1, 2, 3, 4, 5], []), ([6, 5, 4, 0, 1, 2, 3, 4, 5], [5, 6])])
def spec_DrawBookLane.B4 : List Nat := [0, 1, 3, 0, 8, 31, 63, 127]
theorem spec_DrawBookLane.tab4 : rtab .any (opsOf Try.f34 4) = spec_DrawBookLane.T4 := by kernel_rfl
theorem spec_DrawBookLane.bits4 : waitsOk spec_DrawBookLane.T4.2 spec_DrawBookLane.B4 = true := by kernel_rfl
set_option maxHeartbeats 8000000 in
set_option maxRecDepth 100000 in
theorem spec_DrawBookLane.calls (k : Nat) (A0 : Option Addr) (c0 : Nat) (l0 : List Int) (r1 : List (S53)) (r2 : Int) (r3 : Int) (r4 : Int) (r5 : Int) (w : World) (hr0 : Kd.C (Kd.int .u8) w A0 l0.length l0) (hc0 : l0.length ≤ c0) (h : spec_DrawBookLane.f k l0 = some (r1, r2, r3, r4, r5)) :
    Calls Try.prog 34 #[.slice A0 l0.length c0] w fun e w' => ∃ v0_ : Value, e = .returned (.tuple #[v0_, .agg #[.int .i64 r2, .int .i64 r3, .int .i64 r4, .int .i64 r5]]) ∧ Kd.R k53 53 w' w.heap.size (fun _ => True) v0_ r1 ∧ Below w.heap.size w w' := by
  have hu53 := Try.underlying53
  have hu71 := Try.underlying71
  have HR0 := Aside0.mk hr0
  have HC0 := Aside0.mk hc0
  clear hr0 hc0
  have HB := Aside0.mk (Below.refl w.heap.size w)
  have H : ((spec_l1Cur_books.f k l0 0 0).bind fun bt274 => ((spec_l1Cur_pick.f l0 bt274.2.1 bt274.2.2 4).bind fun bt279 => ((spec_l1Cur_pick.f l0 bt279.2.1 bt279.2.2 40).bind fun bt282 => ((spec_l1Cur_pick.f l0 bt282.2.1 bt282.2.2 4).bind fun bt285 => ((spec_l1Cur_pick.f l0 bt285.2.1 bt285.2.2 5).bind fun bt289 => ((spec_l1Cur_one.f l0 bt289.2.1 bt289.2.2 3).bind fun bt292 => (if bt292.1 = true then ((spec_FirstFree.f k bt274.1 bt279.1 bt282.1 3).bind fun bt295 => (spec_DrawBookLane.j0 k bt274.1 l0 bt292.2.1 bt292.2.2 bt279.1 bt295.1 (wrap64 (bt295.1 + 3)) bt285.1)) else (spec_DrawBookLane.j0 k bt274.1 l0 bt292.2.1 bt292.2.2 bt279.1 bt282.1 (wrap64 ((wrap64 (bt282.1 + 1)) + bt289.1)) bt285.1)))))))) = some (r1, r2, r3, r4, r5) := h
  clear h
  replace H := Option.bind_eq_some_iff.mp H
  obtain ⟨⟨t274, t277, t278⟩, A20, H⟩ := H
  replace H : ((spec_l1Cur_pick.f l0 t277 t278 4).bind fun bt279 => ((spec_l1Cur_pick.f l0 bt279.2.1 bt279.2.2 40).bind fun bt282 => ((spec_l1Cur_pick.f l0 bt282.2.1 bt282.2.2 4).bind fun bt285 => ((spec_l1Cur_pick.f l0 bt285.2.1 bt285.2.2 5).bind fun bt289 => ((spec_l1Cur_one.f l0 bt289.2.1 bt289.2.2 3).bind fun bt292 => (if bt292.1 = true then ((spec_FirstFree.f k t274 bt279.1 bt282.1 3).bind fun bt295 => (spec_DrawBookLane.j0 k t274 l0 bt292.2.1 bt292.2.2 bt279.1 bt295.1 (wrap64 (bt295.1 + 3)) bt285.1)) else (spec_DrawBookLane.j0 k t274 l0 bt292.2.1 bt292.2.2 bt279.1 bt282.1 (wrap64 ((wrap64 (bt282.1 + 1)) + bt289.1)) bt285.1))))))) = some (r1, r2, r3, r4, r5) := H
  have A2 := Aside0.mk A20
  clear A20
  replace H := Option.bind_eq_some_iff.mp H
  obtain ⟨⟨t279, t280, t281⟩, A30, H⟩ := H
  replace H : ((spec_l1Cur_pick.f l0 t280 t281 40).bind fun bt282 => ((spec_l1Cur_pick.f l0 bt282.2.1 bt282.2.2 4).bind fun bt285 => ((spec_l1Cur_pick.f l0 bt285.2.1 bt285.2.2 5).bind fun bt289 => ((spec_l1Cur_one.f l0 bt289.2.1 bt289.2.2 3).bind fun bt292 => (if bt292.1 = true then ((spec_FirstFree.f k t274 t279 bt282.1 3).bind fun bt295 => (spec_DrawBookLane.j0 k t274 l0 bt292.2.1 bt292.2.2 t279 bt295.1 (wrap64 (bt295.1 + 3)) bt285.1)) else (spec_DrawBookLane.j0 k t274 l0 bt292.2.1 bt292.2.2 t279 bt282.1 (wrap64 ((wrap64 (bt282.1 + 1)) + bt289.1)) bt285.1)))))) = some (r1, r2, r3, r4, r5) := H
  have A3 := Aside0.mk A30
  clear A30
  replace H := Option.bind_eq_some_iff.mp H
  obtain ⟨⟨t282, t283, t284⟩, A40, H⟩ := H
  replace H : ((spec_l1Cur_pick.f l0 t283 t284 4).bind fun bt285 => ((spec_l1Cur_pick.f l0 bt285.2.1 bt285.2.2 5).bind fun bt289 => ((spec_l1Cur_one.f l0 bt289.2.1 bt289.2.2 3).bind fun bt292 => (if bt292.1 = true then ((spec_FirstFree.f k t274 t279 t282 3).bind fun bt295 => (spec_DrawBookLane.j0 k t274 l0 bt292.2.1 bt292.2.2 t279 bt295.1 (wrap64 (bt295.1 + 3)) bt285.1)) else (spec_DrawBookLane.j0 k t274 l0 bt292.2.1 bt292.2.2 t279 t282 (wrap64 ((wrap64 (t282 + 1)) + bt289.1)) bt285.1))))) = some (r1, r2, r3, r4, r5) := H
  have A4 := Aside0.mk A40
  clear A40
  replace H := Option.bind_eq_some_iff.mp H
  obtain ⟨⟨t285, t286, t287⟩, A50, H⟩ := H
  replace H : ((spec_l1Cur_pick.f l0 t286 t287 5).bind fun bt289 => ((spec_l1Cur_one.f l0 bt289.2.1 bt289.2.2 3).bind fun bt292 => (if bt292.1 = true then ((spec_FirstFree.f k t274 t279 t282 3).bind fun bt295 => (spec_DrawBookLane.j0 k t274 l0 bt292.2.1 bt292.2.2 t279 bt295.1 (wrap64 (bt295.1 + 3)) t285)) else (spec_DrawBookLane.j0 k t274 l0 bt292.2.1 bt292.2.2 t279 t282 (wrap64 ((wrap64 (t282 + 1)) + bt289.1)) t285)))) = some (r1, r2, r3, r4, r5) := H
  have A5 := Aside0.mk A50
  clear A50
  replace H := Option.bind_eq_some_iff.mp H
  obtain ⟨⟨t289, t290, t291⟩, A60, H⟩ := H
  replace H : ((spec_l1Cur_one.f l0 t290 t291 3).bind fun bt292 => (if bt292.1 = true then ((spec_FirstFree.f k t274 t279 t282 3).bind fun bt295 => (spec_DrawBookLane.j0 k t274 l0 bt292.2.1 bt292.2.2 t279 bt295.1 (wrap64 (bt295.1 + 3)) t285)) else (spec_DrawBookLane.j0 k t274 l0 bt292.2.1 bt292.2.2 t279 t282 (wrap64 ((wrap64 (t282 + 1)) + t289)) t285))) = some (r1, r2, r3, r4, r5) := H
  have A6 := Aside0.mk A60
  clear A60
  replace H := Option.bind_eq_some_iff.mp H
  obtain ⟨⟨t292, t293, t294⟩, A70, H⟩ := H
  replace H : (if t292 = true then ((spec_FirstFree.f k t274 t279 t282 3).bind fun bt295 => (spec_DrawBookLane.j0 k t274 l0 t293 t294 t279 bt295.1 (wrap64 (bt295.1 + 3)) t285)) else (spec_DrawBookLane.j0 k t274 l0 t293 t294 t279 t282 (wrap64 ((wrap64 (t282 + 1)) + t289)) t285)) = some (r1, r2, r3, r4, r5) := H
  have A7 := Aside0.mk A70
  clear A70
  have HC8 := Aside0.mk H
  clear H
  go_enter Try.func34, Try.ntmps34
  try go_wp2_with (first | ((with_reducible refine gate_dst (N := 3) rfl ?_); refine box_event ?hg (N := 3) ?hd (cs := #[.int .i64 0, .int .i64 0, .int .i64 0, .int .i64 0]) (t := 53) ?hr ?_; (case hd => rfl); (case hg => rfl); (case hr => first | (go_simp; done) | (go_simp; rfl)); intro gb272 hg w9 hbox hb; have n0_ := Aside0.mk (below_step (by repeat (first | (with_reducible first | exact HB.out | apply below_alloc | apply pw_below_drewN | apply below_drew1) | exact HB.out)) hb); have n1_ := Aside0.mk (hbox); have n2_ := Aside0.mk ((by rw [hg]; exact (below_size (by repeat (first | (with_reducible first | exact HB.out | apply below_alloc | apply pw_below_drewN | apply below_drew1) | exact HB.out))) : w.heap.size ≤ gb272)); have n3_ := Aside0.mk ((by rw [hg]; exact (below_size (by repeat (first | (with_reducible first | exact HB.out | apply below_alloc | apply pw_below_drewN | apply below_drew1) | exact HB.out))) : w.heap.size ≤ gb272)); clear HB; have HB := n0_; have BK272 := n1_; have GW272 := n2_; have GE272 := n3_; clear n0_ n1_ n2_ n3_; clear hb hbox hg) | ((with_reducible refine gate_dst (N := 11) rfl ?_); refine box_event ?hg (N := 11) ?hd (cs := #[.slice A0 l0.length c0, .int .i64 0, .int .u64 0]) (t := 71) ?hr ?_; (case hd => rfl); (case hg => rfl); (case hr => first | (go_simp; done) | (go_simp; rfl)); intro gb273 hg w10 hbox hb; have n0_ := Aside0.mk (blk_below (g := gb272) (o := .cells #[.int .i64 0, .int .i64 0, .int .i64 0, .int .i64 0] 53 (0, 0)) (by (with_reducible repeat (first | refine blk_drewN ?_ _ | refine blk_drew ?_ | refine blk_alloc ?_ _)); exact BK272.out) hb); have n1_ := Aside0.mk (below_step (by repeat (first | (with_reducible first | exact HB.out | apply below_alloc | apply pw_below_drewN | apply below_drew1 | refine below_set ?_ GE272.out) | exact HB.out)) hb); have n2_ := Aside0.mk (hbox); have n3_ := Aside0.mk ((by rw [hg]; exact (below_size (by repeat (first | (with_reducible first | exact HB.out | apply below_alloc | apply pw_below_drewN | apply below_drew1 | refine below_set ?_ GE272.out) | exact HB.out))) : w.heap.size ≤ gb273)); have n4_ := Aside0.mk ((by rw [hg]; exact (below_size (by repeat (first | (with_reducible first | exact HB.out | apply below_alloc | apply pw_below_drewN | apply below_drew1 | refine below_set ?_ GE272.out) | exact HB.out))) : w.heap.size ≤ gb273)); have n5_ := Aside0.mk ((by rw [hg]; exact Nat.ne_of_lt (blk_lt (g := gb272) (o := .cells #[.int .i64 0, .int .i64 0, .int .i64 0, .int .i64 0] 53 (0, 0)) (by (with_reducible repeat (first | refine blk_drewN ?_ _ | refine blk_drew ?_ | refine blk_alloc ?_ _)); exact BK272.out)) : gb272 ≠ gb273)); have n6_ := Aside0.mk ((by rw [hg]; exact Nat.ne_of_gt (blk_lt (g := gb272) (o := .cells #[.int .i64 0, .int .i64 0, .int .i64 0, .int .i64 0] 53 (0, 0)) (by (with_reducible repeat (first | refine blk_drewN ?_ _ | refine blk_drew ?_ | refine blk_alloc ?_ _)); exact BK272.out)) : gb273 ≠ gb272)); clear BK272; clear HB; have BK272 := n0_; have HB := n1_; have BK273 := n2_; have GW273 := n3_; have GE273 := n4_; have NB272_273 := n5_; have NB273_272 := n6_; clear n0_ n1_ n2_ n3_ n4_ n5_ n6_; clear hb hbox hg) | ((with_reducible refine gate_callee (f := 59) rfl ?_); refine goesL_ (some 13) rfl rfl Try.func59 (by kernel_rfl) rfl #[.pointer (some ⟨gb273, 0, none⟩)] rfl (by (try simp only [List.map_toArray, List.map_cons, List.map_nil]); first | done | rfl | (simp only [List.length_drop, List.length_take]; rfl)) ?_; have HI273 := Aside0.mk (show IsS71 w w10 gb273 l0 0 0 from ⟨A0, c0, (by (with_reducible repeat (first | refine blk_drewN ?_ _ | refine blk_drew ?_ | refine blk_alloc ?_ _)); exact BK273.out), GE273.out, HR0.out⟩); (try clear BK273); (with_reducible refine (spec_l1Cur_books.calls k gb273 l0 0 0 t274 t277 t278 w _ ?side1 ?side2 A2.out).mono ?_); (case side1 => repeat (first | (with_reducible first | exact HI273.out | apply IsS71.alloc | apply IsS71.drewN | apply IsS71.drew | apply IsS71.set_1 | apply IsS71.set_2 | apply IsS71.far (hne := NB273_272.out)) | exact HI273.out)); (case side2 => repeat (first | (with_reducible first | exact HB.out | apply below_alloc | apply pw_below_drewN | apply below_drew1 | refine below_set ?_ (IsS71.ge HI273.out) | refine below_set ?_ GE272.out) | exact HB.out)); rintro e w11 ⟨v275, rfl, ho0, hi, hb, hk⟩; refine ⟨_, rfl, ?_⟩; have n0_ := Aside0.mk (KeepBut.blk hk (g' := gb272) (o := .cells #[.int .i64 0, .int .i64 0, .int .i64 0, .int .i64 0] 53 (0, 0)) (by (with_reducible repeat (first | refine blk_drewN ?_ _ | refine blk_drew ?_ | refine blk_alloc ?_ _)); exact BK272.out) NB272_273.out (by simp)); have n1_ := Aside0.mk (Kd.R_lower (Kd.R_newB ho0 (g := gb272) (o := .cells #[.int .i64 0, .int .i64 0, .int .i64 0, .int .i64 0] 53 (0, 0)) (by (with_reducible repeat (first | refine blk_drewN ?_ _ | refine blk_drew ?_ | refine blk_alloc ?_ _)); exact BK272.out)) (below_size (by repeat (first | (with_reducible first | exact HB.out | apply below_alloc | apply pw_below_drewN | apply below_drew1 | refine below_set ?_ (IsS71.ge HI273.out) | refine below_set ?_ GE272.out) | exact HB.out)))); have n2_ := Aside0.mk (hb); have n3_ := Aside0.mk (hi); clear BK272; clear HB; clear HI273; have BK272 := n0_; have HO276 := n1_; have HB := n2_; have HI273 := n3_; clear n0_ n1_ n2_ n3_; (try clear hb); (try clear hb2); (try clear hk); (try clear hi); (try clear ho0)) | ((with_reducible refine gate_callee (f := 44) rfl ?_); refine goesL_ (some 15) rfl rfl Try.func44 (by kernel_rfl) rfl #[.pointer (some ⟨gb273, 0, none⟩), .int .i64 4] rfl (by (try simp only [List.map_toArray, List.map_cons, List.map_nil]); first | done | rfl | (simp only [List.length_drop, List.length_take]; rfl)) ?_; (with_reducible refine (spec_l1Cur_pick.calls gb273 l0 t277 t278 4 t279 t280 t281 w _ ?side1 ?side2 A3.out).mono ?_); (case side1 => repeat (first | (with_reducible first | exact HI273.out | apply IsS71.alloc | apply IsS71.drewN | apply IsS71.drew | apply IsS71.set_1 | apply IsS71.set_2 | apply IsS71.far (hne := NB273_272.out)) | exact HI273.out)); (case side2 => repeat (first | (with_reducible first | exact HB.out | apply below_alloc | apply pw_below_drewN | apply below_drew1 | refine below_set ?_ (IsS71.ge HI273.out) | refine below_set ?_ GE272.out) | exact HB.out)); rintro e w12 ⟨rfl, hi, hb, hk⟩; refine ⟨_, rfl, ?_⟩; have n0_ := Aside0.mk (KeepBut.blk hk (g' := gb272) (o := .cells #[.int .i64 0, .int .i64 0, .int .i64 0, .int .i64 0] 53 (0, 0)) (by (with_reducible repeat (first | refine blk_drewN ?_ _ | refine blk_drew ?_ | refine blk_alloc ?_ _)); exact BK272.out) NB272_273.out (by simp)); have n1_ := Aside0.mk (Kd.R_mono (Kd.R_keep (IsS71.apart (show IsS71 w _ gb273 l0 t277 t278 from by repeat (first | (with_reducible first | exact HI273.out | apply IsS71.alloc | apply IsS71.drewN | apply IsS71.drew | apply IsS71.set_1 | apply IsS71.set_2 | apply IsS71.far (hne := NB273_272.out)) | exact HI273.out)) (by (with_reducible repeat (first | apply Kd.R_alloc | apply Kd.R_drewN | apply Kd.R_drew)); exact HO276.out) (by decide)) hk (fun _ h => h.2)) (fun _ h => h.1)); have n2_ := Aside0.mk (hb); have n3_ := Aside0.mk (hi); clear BK272; clear HO276; clear HB; clear HI273; have BK272 := n0_; have HO276 := n1_; have HB := n2_; have HI273 := n3_; clear n0_ n1_ n2_ n3_; (try clear hb); (try clear hb2); (try clear hk); (try clear hi)) | ((with_reducible refine gate_callee (f := 44) rfl ?_); refine goesL_ (some 17) rfl rfl Try.func44 (by kernel_rfl) rfl #[.pointer (some ⟨gb273, 0, none⟩), .int .i64 40] rfl (by (try simp only [List.map_toArray, List.map_cons, List.map_nil]); first | done | rfl | (simp only [List.length_drop, List.length_take]; rfl)) ?_; (with_reducible refine (spec_l1Cur_pick.calls gb273 l0 t280 t281 40 t282 t283 t284 w _ ?side1 ?side2 A4.out).mono ?_); (case side1 => repeat (first | (with_reducible first | exact HI273.out | apply IsS71.alloc | apply IsS71.drewN | apply IsS71.drew | apply IsS71.set_1 | apply IsS71.set_2 | apply IsS71.far (hne := NB273_272.out)) | exact HI273.out)); (case side2 => repeat (first | (with_reducible first | exact HB.out | apply below_alloc | apply pw_below_drewN | apply below_drew1 | refine below_set ?_ (IsS71.ge HI273.out) | refine below_set ?_ GE272.out) | exact HB.out)); rintro e w13 ⟨rfl, hi, hb, hk⟩; refine ⟨_, rfl, ?_⟩; have n0_ := Aside0.mk (KeepBut.blk hk (g' := gb272) (o := .cells #[.int .i64 0, .int .i64 0, .int .i64 0, .int .i64 0] 53 (0, 0)) (by (with_reducible repeat (first | refine blk_drewN ?_ _ | refine blk_drew ?_ | refine blk_alloc ?_ _)); exact BK272.out) NB272_273.out (by simp)); have n1_ := Aside0.mk (Kd.R_mono (Kd.R_keep (IsS71.apart (show IsS71 w _ gb273 l0 t280 t281 from by repeat (first | (with_reducible first | exact HI273.out | apply IsS71.alloc | apply IsS71.drewN | apply IsS71.drew | apply IsS71.set_1 | apply IsS71.set_2 | apply IsS71.far (hne := NB273_272.out)) | exact HI273.out)) (by (with_reducible repeat (first | apply Kd.R_alloc | apply Kd.R_drewN | apply Kd.R_drew)); exact HO276.out) (by decide)) hk (fun _ h => h.2)) (fun _ h => h.1)); have n2_ := Aside0.mk (hb); have n3_ := Aside0.mk (hi); clear BK272; clear HO276; clear HB; clear HI273; have BK272 := n0_; have HO276 := n1_; have HB := n2_; have HI273 := n3_; clear n0_ n1_ n2_ n3_; (try clear hb); (try clear hb2); (try clear hk); (try clear hi)) | ((with_reducible refine gate_callee (f := 44) rfl ?_); refine goesL_ (some 19) rfl rfl Try.func44 (by kernel_rfl) rfl #[.pointer (some ⟨gb273, 0, none⟩), .int .i64 4] rfl (by (try simp only [List.map_toArray, List.map_cons, List.map_nil]); first | done | rfl | (simp only [List.length_drop, List.length_take]; rfl)) ?_; (with_reducible refine (spec_l1Cur_pick.calls gb273 l0 t283 t284 4 t285 t286 t287 w _ ?side1 ?side2 A5.out).mono ?_); (case side1 => repeat (first | (with_reducible first | exact HI273.out | apply IsS71.alloc | apply IsS71.drewN | apply IsS71.drew | apply IsS71.set_1 | apply IsS71.set_2 | apply IsS71.far (hne := NB273_272.out)) | exact HI273.out)); (case side2 => repeat (first | (with_reducible first | exact HB.out | apply below_alloc | apply pw_below_drewN | apply below_drew1 | refine below_set ?_ (IsS71.ge HI273.out) | refine below_set ?_ GE272.out) | exact HB.out)); rintro e w14 ⟨rfl, hi, hb, hk⟩; refine ⟨_, rfl, ?_⟩; have n0_ := Aside0.mk (KeepBut.blk hk (g' := gb272) (o := .cells #[.int .i64 0, .int .i64 0, .int .i64 0, .int .i64 0] 53 (0, 0)) (by (with_reducible repeat (first | refine blk_drewN ?_ _ | refine blk_drew ?_ | refine blk_alloc ?_ _)); exact BK272.out) NB272_273.out (by simp)); have n1_ := Aside0.mk (Kd.R_mono (Kd.R_keep (IsS71.apart (show IsS71 w _ gb273 l0 t283 t284 from by repeat (first | (with_reducible first | exact HI273.out | apply IsS71.alloc | apply IsS71.drewN | apply IsS71.drew | apply IsS71.set_1 | apply IsS71.set_2 | apply IsS71.far (hne := NB273_272.out)) | exact HI273.out)) (by (with_reducible repeat (first | apply Kd.R_alloc | apply Kd.R_drewN | apply Kd.R_drew)); exact HO276.out) (by decide)) hk (fun _ h => h.2)) (fun _ h => h.1)); have n2_ := Aside0.mk (hb); have n3_ := Aside0.mk (hi); clear BK272; clear HO276; clear HB; clear HI273; have BK272 := n0_; have HO276 := n1_; have HB := n2_; have HI273 := n3_; clear n0_ n1_ n2_ n3_; (try clear hb); (try clear hb2); (try clear hk); (try clear hi)) | ((with_reducible refine gate_dst (N := 6) rfl ?_); refine box_event ?hg (N := 6) ?hd (cs := #[.int .i64 0, .int .i64 0, .int .i64 0, .int .i64 0]) (t := 53) ?hr ?_; (case hd => rfl); (case hg => rfl); (case hr => first | (go_simp; done) | (go_simp; rfl)); intro gb288 hg w15 hbox hb; have n0_ := Aside0.mk (Kd.R_below (Kd.R_elderB (by (with_reducible repeat (first | apply Kd.R_alloc | apply Kd.R_drewN | apply Kd.R_drew)); exact HO276.out) gb288 (Nat.le_of_eq hg.symm)) hb); have n1_ := Aside0.mk (blk_below (g := gb272) (o := .cells #[.int .i64 0, .int .i64 0, .int .i64 0, .int .i64 0] 53 (0, 0)) (by (with_reducible repeat (first | refine blk_drewN ?_ _ | refine blk_drew ?_ | refine blk_alloc ?_ _)); exact BK272.out) hb); have n2_ := Aside0.mk (IsS71.below (by repeat (first | (with_reducible first | exact HI273.out | apply IsS71.alloc | apply IsS71.drewN | apply IsS71.drew | apply IsS71.set_1 | apply IsS71.set_2 | apply IsS71.far (hne := NB273_272.out)) | exact HI273.out)) hb); have n3_ := Aside0.mk (below_step (by repeat (first | (with_reducible first | exact HB.out | apply below_alloc | apply pw_below_drewN | apply below_drew1 | refine below_set ?_ (IsS71.ge HI273.out) | refine below_set ?_ GE272.out) | exact HB.out)) hb); have n4_ := Aside0.mk (hbox); have n5_ := Aside0.mk ((by rw [hg]; exact (below_size (by repeat (first | (with_reducible first | exact HB.out | apply below_alloc | apply pw_below_drewN | apply below_drew1 | refine below_set ?_ (IsS71.ge HI273.out) | refine below_set ?_ GE272.out) | exact HB.out))) : w.heap.size ≤ gb288)); have n6_ := Aside0.mk ((by rw [hg]; exact (below_size (by repeat (first | (with_reducible first | exact HB.out | apply below_alloc | apply pw_below_drewN | apply below_drew1 | refine below_set ?_ (IsS71.ge HI273.out) | refine below_set ?_ GE272.out) | exact HB.out))) : w.heap.size ≤ gb288)); have n7_ := Aside0.mk ((by rw [hg]; exact Nat.ne_of_lt (blk_lt (g := gb272) (o := .cells #[.int .i64 0, .int .i64 0, .int .i64 0, .int .i64 0] 53 (0, 0)) (by (with_reducible repeat (first | refine blk_drewN ?_ _ | refine blk_drew ?_ | refine blk_alloc ?_ _)); exact BK272.out)) : gb272 ≠ gb288)); have n8_ := Aside0.mk ((by rw [hg]; exact Nat.ne_of_gt (blk_lt (g := gb272) (o := .cells #[.int .i64 0, .int .i64 0, .int .i64 0, .int .i64 0] 53 (0, 0)) (by (with_reducible repeat (first | refine blk_drewN ?_ _ | refine blk_drew ?_ | refine blk_alloc ?_ _)); exact BK272.out)) : gb288 ≠ gb272)); have n9_ := Aside0.mk ((by rw [hg]; exact Nat.ne_of_lt (IsS71.lt (show IsS71 w _ gb273 l0 t286 t287 from by repeat (first | (with_reducible first | exact HI273.out | apply IsS71.alloc | apply IsS71.drewN | apply IsS71.drew | apply IsS71.set_1 | apply IsS71.set_2 | apply IsS71.far (hne := NB273_272.out)) | exact HI273.out))) : gb273 ≠ gb288)); have n10_ := Aside0.mk ((by rw [hg]; exact Nat.ne_of_gt (IsS71.lt (show IsS71 w _ gb273 l0 t286 t287 from by repeat (first | (with_reducible first | exact HI273.out | apply IsS71.alloc | apply IsS71.drewN | apply IsS71.drew | apply IsS71.set_1 | apply IsS71.set_2 | apply IsS71.far (hne := NB273_272.out)) | exact HI273.out))) : gb288 ≠ gb273)); clear HO276; clear BK272; clear HI273; clear HB; have HO276 := n0_; have BK272 := n1_; have HI273 := n2_; have HB := n3_; have BK288 := n4_; have GW288 := n5_; have GE288 := n6_; have NB272_288 := n7_; have NB288_272 := n8_; have NB273_288 := n9_; have NB288_273 := n10_; clear n0_ n1_ n2_ n3_ n4_ n5_ n6_ n7_ n8_ n9_ n10_; clear hb hbox hg; have hnb16 := NB288_272.out; have hnc16 := NB272_288.out; have hnb17 := NB288_273.out; have hnc17 := NB273_288.out; have hcz18_0 : w15.cell? ⟨gb288, 0, none⟩ = some (.int .i64 0) := (blk_cell BK288.out 0).trans rfl; have hcz18_1 : w15.cell? ⟨gb288, 1, none⟩ = some (.int .i64 0) := (blk_cell BK288.out 1).trans rfl; have hcz18_2 : w15.cell? ⟨gb288, 2, none⟩ = some (.int .i64 0) := (blk_cell BK288.out 2).trans rfl; have hcz18_3 : w15.cell? ⟨gb288, 3, none⟩ = some (.int .i64 0) := (blk_cell BK288.out 3).trans rfl; have hfz18_0 := blk_frozen BK288.out 0; have hfz18_1 := blk_frozen BK288.out 1; have hfz18_2 := blk_frozen BK288.out 2; have hfz18_3 := blk_frozen BK288.out 3))
  have n0_ : Aside0 (Kd.R k53 53 ((((w15.setCell ⟨gb288, 0, none⟩ (.int .i64 t279)).setCell ⟨gb288, 1, none⟩ (.int .i64 t282)).setCell ⟨gb288, 2, none⟩ (.int .i64 0)).setCell ⟨gb288, 3, none⟩ (.int .i64 t285)) w.heap.size (fun k_ => k_ ≠ gb272 ∧ k_ ≠ gb288) v275 t274) := ⟨by (with_reducible repeat (first | apply Kd.R_alloc | apply Kd.R_drewN | apply Kd.R_drew)); exact Kd.R_mono (Kd.R_far (p := ⟨gb288, 3, none⟩) (Kd.R_far (p := ⟨gb288, 2, none⟩) (Kd.R_far (p := ⟨gb288, 1, none⟩) (Kd.R_far (p := ⟨gb288, 0, none⟩) (Kd.R_mono HO276.out (fun k_ hk => (⟨hk, hk.2⟩ : _ ∧ k_ ≠ gb288))) (fun _ hk => hk.2) (.int .i64 t279)) (fun _ hk => hk.2) (.int .i64 t282)) (fun _ hk => hk.2) (.int .i64 0)) (fun _ hk => hk.2) (.int .i64 t285)) (fun _ hk => ⟨hk.1.1.2, hk.1.2⟩)⟩
  have n1_ : Aside0 (((((w15.setCell ⟨gb288, 0, none⟩ (.int .i64 t279)).setCell ⟨gb288, 1, none⟩ (.int .i64 t282)).setCell ⟨gb288, 2, none⟩ (.int .i64 0)).setCell ⟨gb288, 3, none⟩ (.int .i64 t285)).heap[gb272]? = some (.cells #[.int .i64 0, .int .i64 0, .int .i64 0, .int .i64 0] 53 (0, 0))) := ⟨by (with_reducible repeat (first | refine blk_drewN ?_ _ | refine blk_drew ?_ | refine blk_alloc ?_ _)); refine blk_far ?_ NB272_288.out _; (with_reducible repeat (first | refine blk_drewN ?_ _ | refine blk_drew ?_ | refine blk_alloc ?_ _)); refine blk_far ?_ NB272_288.out _; (with_reducible repeat (first | refine blk_drewN ?_ _ | refine blk_drew ?_ | refine blk_alloc ?_ _)); refine blk_far ?_ NB272_288.out _; (with_reducible repeat (first | refine blk_drewN ?_ _ | refine blk_drew ?_ | refine blk_alloc ?_ _)); refine blk_far ?_ NB272_288.out _; (with_reducible repeat (first | refine blk_drewN ?_ _ | refine blk_drew ?_ | refine blk_alloc ?_ _)); exact BK272.out⟩
  have n2_ : Aside0 (((((w15.setCell ⟨gb288, 0, none⟩ (.int .i64 t279)).setCell ⟨gb288, 1, none⟩ (.int .i64 t282)).setCell ⟨gb288, 2, none⟩ (.int .i64 0)).setCell ⟨gb288, 3, none⟩ (.int .i64 t285)).heap[gb288]? = some (.cells #[.int .i64 t279, .int .i64 t282, .int .i64 0, .int .i64 t285] 53 (0, 0))) := ⟨by (with_reducible repeat (first | refine blk_drewN ?_ _ | refine blk_drew ?_ | refine blk_alloc ?_ _)); refine blk_put (cs := #[.int .i64 t279, .int .i64 t282, .int .i64 0, .int .i64 0]) ?_ 3 _ rfl; (with_reducible repeat (first | refine blk_drewN ?_ _ | refine blk_drew ?_ | refine blk_alloc ?_ _)); refine blk_put (cs := #[.int .i64 t279, .int .i64 t282, .int .i64 0, .int .i64 0]) ?_ 2 _ rfl; (with_reducible repeat (first | refine blk_drewN ?_ _ | refine blk_drew ?_ | refine blk_alloc ?_ _)); refine blk_put (cs := #[.int .i64 t279, .int .i64 0, .int .i64 0, .int .i64 0]) ?_ 1 _ rfl; (with_reducible repeat (first | refine blk_drewN ?_ _ | refine blk_drew ?_ | refine blk_alloc ?_ _)); refine blk_put (cs := #[.int .i64 0, .int .i64 0, .int .i64 0, .int .i64 0]) ?_ 0 _ rfl; (with_reducible repeat (first | refine blk_drewN ?_ _ | refine blk_drew ?_ | refine blk_alloc ?_ _)); exact BK288.out⟩
  have n3_ : Aside0 (IsS71 w ((((w15.setCell ⟨gb288, 0, none⟩ (.int .i64 t279)).setCell ⟨gb288, 1, none⟩ (.int .i64 t282)).setCell ⟨gb288, 2, none⟩ (.int .i64 0)).setCell ⟨gb288, 3, none⟩ (.int .i64 t285)) gb273 l0 t286 t287) := ⟨by repeat (first | (with_reducible first | exact HI273.out | apply IsS71.alloc | apply IsS71.drewN | apply IsS71.drew | apply IsS71.set_1 | apply IsS71.set_2 | apply IsS71.far (hne := NB273_272.out) | apply IsS71.far (hne := NB273_288.out)) | exact HI273.out)⟩
  have n4_ : Aside0 (Below w.heap.size w ((((w15.setCell ⟨gb288, 0, none⟩ (.int .i64 t279)).setCell ⟨gb288, 1, none⟩ (.int .i64 t282)).setCell ⟨gb288, 2, none⟩ (.int .i64 0)).setCell ⟨gb288, 3, none⟩ (.int .i64 t285))) := ⟨by repeat (first | (with_reducible first | exact HB.out | apply below_alloc | apply pw_below_drewN | apply below_drew1 | refine below_set ?_ (IsS71.ge HI273.out) | refine below_set ?_ GE272.out | refine below_set ?_ GE288.out) | exact HB.out)⟩
  (try clear HO276)
  (try clear BK272)
  (try clear BK288)
  (try clear HI273)
  (try clear HB)
  generalize ((((w15.setCell ⟨gb288, 0, none⟩ (.int .i64 t279)).setCell ⟨gb288, 1, none⟩ (.int .i64 t282)).setCell ⟨gb288, 2, none⟩ (.int .i64 0)).setCell ⟨gb288, 3, none⟩ (.int .i64 t285)) = w19 at n0_ n1_ n2_ n3_ n4_ ⊢
  have HO276 := n0_
  have BK272 := n1_
  have BK288 := n2_
  have HI273 := n3_
  have HB := n4_
  clear n0_ n1_ n2_ n3_ n4_
  have n0_ := Aside0.mk (Kd.R_drew HO276.out)
  have n1_ := Aside0.mk (blk_drew BK272.out)
  have n2_ := Aside0.mk (blk_drew BK288.out)
  have n3_ := Aside0.mk (IsS71.drew HI273.out)
  have n4_ := Aside0.mk (below_drew1 HB.out)
  clear HO276
  clear BK272
  clear BK288
  clear HI273
  clear HB
  have HO276 := n0_
  have BK272 := n1_
  have BK288 := n2_
  have HI273 := n3_
  have HB := n4_
  clear n0_ n1_ n2_ n3_ n4_
  refine start_ (n := 8) (S := fun w' => w'.cell? ⟨gb288, 0, none⟩ = some (.int .i64 t279) ∧ w'.cell? ⟨gb288, 1, none⟩ = some (.int .i64 t282) ∧ w'.cell? ⟨gb288, 2, none⟩ = some (.int .i64 0) ∧ w'.cell? ⟨gb288, 3, none⟩ = some (.int .i64 t285)) (ds := [7]) #[false, false, false, false, false, false, false, false] (by kernel_rfl) rfl rfl ⟨(blk_cell BK288.out 0).trans rfl, (blk_cell BK288.out 1).trans rfl, (blk_cell BK288.out 2).trans rfl, (blk_cell BK288.out 3).trans rfl⟩ (fun hHeld => ?_); refine with_tabW spec_DrawBookLane.tab4 spec_DrawBookLane.bits4 (fun HT_ HW_ => ?_)
  generalize w19.drew = w20 at HO276 BK272 BK288 HI273 HB hHeld ⊢
  refine pure_ (i := 0) (N := some 21) (v := ?_) (a' := ?_) #[true, false, false, false, false, false, false, false] rfl rfl (any_of HT_.out (by kernel_rfl)) (fun _ _ _ h => h) (Or.inl ⟨by rfl, ?_⟩) ?_ ?_
  rotate_left
  · intro w'
    go_simp
    with_reducible rfl
  rotate_left
  · simp only [Act.put, List.setIfInBounds_toArray, List.set_cons_zero, List.set_cons_succ, i64_w, i32_w]
    rfl
  refine pure_ (i := 3) (N := some 24) (v := ?_) (a' := ?_) #[true, false, false, true, false, false, false, false] rfl rfl (any_of HT_.out (by kernel_rfl)) (fun _ _ _ h => h) (Or.inl ⟨by rfl, ?_⟩) ?_ ?_
  rotate_left
  · intro w'
    go_simp
    with_reducible rfl
  rotate_left
  · simp only [Act.put, List.setIfInBounds_toArray, List.set_cons_zero, List.set_cons_succ, i64_w, i32_w]
    rfl
  refine take_ (i := 1) (N := some 22) (v := ?_) (a' := ?_) #[true, true, false, true, false, false, false, false] rfl rfl (take_ofW HT_.out HW_.out (by kernel_rfl)) (fun _ _ _ h => h) (Or.inl ⟨by rfl, ?_⟩) hHeld ?_ ?_
  rotate_left
  · rintro w' ⟨s0, s1, s2, s3⟩
    go_simp
    with_reducible rfl
  rotate_left
  · simp only [Act.put, List.setIfInBounds_toArray, List.set_cons_zero, List.set_cons_succ, i64_w, i32_w]
    rfl
  refine pure_ (i := 2) (N := some 23) (v := ?_) (a' := ?_) #[true, true, true, true, false, false, false, false] rfl rfl (any_of HT_.out (by kernel_rfl)) (fun _ _ _ h => h) (Or.inl ⟨by rfl, ?_⟩) ?_ ?_
  rotate_left
  · intro w'
    go_simp
    with_reducible rfl
  rotate_left
  · simp only [Act.put, List.setIfInBounds_toArray, List.set_cons_zero, List.set_cons_succ, i64_w, i32_w]
    rfl
  refine one_ (i := 4) (N := some 25) #[true, true, true, true, true, false, false, false] rfl rfl (one_of HT_.out (by kernel_rfl)) (by decide) (fun K hK => ?_)
  refine goes_ Try.func44 (by kernel_rfl) rfl #[.pointer (some ⟨gb273, 0, none⟩), .int .i64 5] (by rfl) rfl rfl (by (try simp only [List.map_toArray, List.map_cons, List.map_nil]); first | done | rfl | (simp only [List.length_drop, List.length_take]; rfl)) ?_
  with_reducible refine (spec_l1Cur_pick.calls gb273 l0 t286 t287 5 t289 t290 t291 w _ ?side1 ?side2 A6.out).mono ?_
  (case side1 => repeat (first | (with_reducible first | exact HI273.out | apply IsS71.alloc | apply IsS71.drewN | apply IsS71.drew | apply IsS71.set_1 | apply IsS71.set_2 | apply IsS71.far (hne := NB273_272.out) | apply IsS71.far (hne := NB273_288.out)) | exact HI273.out))
  (case side2 => repeat (first | (with_reducible first | exact HB.out | apply below_alloc | apply pw_below_drewN | apply below_drew1 | refine below_set ?_ (IsS71.ge HI273.out) | refine below_set ?_ GE272.out | refine below_set ?_ GE288.out) | exact HB.out))
  rintro e w21 ⟨rfl, hi, hb, hk⟩
  refine ⟨_, rfl, ?_⟩
  have n0_ := Aside0.mk (KeepBut.blk hk (g' := gb272) (o := .cells #[.int .i64 0, .int .i64 0, .int .i64 0, .int .i64 0] 53 (0, 0)) (by (with_reducible repeat (first | refine blk_drewN ?_ _ | refine blk_drew ?_ | refine blk_alloc ?_ _)); exact BK272.out) NB272_273.out (by simp))
  have n1_ := Aside0.mk (Kd.R_mono (Kd.R_keep (IsS71.apart (show IsS71 w _ gb273 l0 t286 t287 from by repeat (first | (with_reducible first | exact HI273.out | apply IsS71.alloc | apply IsS71.drewN | apply IsS71.drew | apply IsS71.set_1 | apply IsS71.set_2 | apply IsS71.far (hne := NB273_272.out) | apply IsS71.far (hne := NB273_288.out)) | exact HI273.out)) (by (with_reducible repeat (first | apply Kd.R_alloc | apply Kd.R_drewN | apply Kd.R_drew)); exact HO276.out) (by decide)) hk (fun _ h => h.2)) (fun _ h => h.1))
  have n2_ := Aside0.mk (KeepBut.blk hk (g' := gb288) (o := .cells #[.int .i64 t279, .int .i64 t282, .int .i64 0, .int .i64 t285] 53 (0, 0)) (by (with_reducible repeat (first | refine blk_drewN ?_ _ | refine blk_drew ?_ | refine blk_alloc ?_ _)); exact BK288.out) NB288_273.out (by simp))
  have n3_ := Aside0.mk (hb)
  have n4_ := Aside0.mk (hi)
  clear BK272
  clear HO276
  clear BK288
  clear HB
  clear HI273
  have BK272 := n0_
  have HO276 := n1_
  have BK288 := n2_
  have HB := n3_
  have HI273 := n4_
  clear n0_ n1_ n2_ n3_ n4_
  (try clear hb)
  (try clear hb2)
  (try clear hk)
  (try clear hi)
  refine hK.out _ _ ⟨(blk_cell BK288.out 0).trans rfl, (blk_cell BK288.out 1).trans rfl, (blk_cell BK288.out 2).trans rfl, (blk_cell BK288.out 3).trans rfl⟩ (fun hHeld => ?_)
  clear hK K
  refine norm_ (a' := ?_) ?_ ?_
  rotate_left
  · show Act.put _ (some 25) _ = _
    simp only [Act.put, List.setIfInBounds_toArray, List.set_cons_zero, List.set_cons_succ, i64_w, i32_w]
    rfl
  refine pure_ (i := 5) (N := some 26) (v := ?_) (a' := ?_) #[true, true, true, true, true, true, false, false] rfl rfl (any_of HT_.out (by kernel_rfl)) (fun _ _ _ h => h) (Or.inl ⟨by rfl, ?_⟩) ?_ ?_
  rotate_left
  · intro w'
    go_simp
    with_reducible rfl
  rotate_left
  · simp only [Act.put, List.setIfInBounds_toArray, List.set_cons_zero, List.set_cons_succ, i64_w, i32_w]
    rfl
  refine pure_ (i := 6) (N := some 27) (v := ?_) (a' := ?_) #[true, true, true, true, true, true, true, false] rfl rfl (any_of HT_.out (by kernel_rfl)) (fun _ _ _ h => h) (Or.inl ⟨by rfl, ?_⟩) ?_ ?_
  rotate_left
  · intro w'
    go_simp
    with_reducible rfl
  rotate_left
  · simp only [Act.put, List.setIfInBounds_toArray, List.set_cons_zero, List.set_cons_succ, i64_w, i32_w]
    rfl
  refine last_ (i := 7) (N := none) #[true, true, true, true, true, true, true, true] rfl rfl (one_of HT_.out (by kernel_rfl)) (by decide) (fun K hK => ?_)
  have hs22 : w21.cell? ⟨gb288, 2, none⟩ = some (.int .i64 0) := (blk_cell BK288.out 2).trans rfl
  have hfs22 := blk_frozen BK288.out 2
  have hns22_0 := NB272_288.out
  have hms22_0 := NB288_272.out
  refine skip_ (w1 := ?_) (by rfl) rfl ?_ ?_
  rotate_left
  · go_simp
    rfl
  refine hK.out _ _ ?_
  clear hK K
  refine done_ (done_of HT_.out (by kernel_rfl)) ?_
  go_upto_if 29 with (first | ((with_reducible refine gate_callee (f := 43) rfl ?_); refine goesL_ (some 29) rfl rfl Try.func43 (by kernel_rfl) rfl #[.pointer (some ⟨gb273, 0, none⟩), .int .i64 3] rfl (by (try simp only [List.map_toArray, List.map_cons, List.map_nil]); first | done | rfl | (simp only [List.length_drop, List.length_take]; rfl)) ?_; (with_reducible refine (spec_l1Cur_one.calls gb273 l0 t290 t291 3 t292 t293 t294 w _ ?side1 ?side2 A7.out).mono ?_); (case side1 => repeat (first | (with_reducible first | exact HI273.out | apply IsS71.alloc | apply IsS71.drewN | apply IsS71.drew | apply IsS71.set_1 | apply IsS71.set_2 | apply IsS71.far (hne := NB273_272.out) | apply IsS71.far (hne := NB273_288.out)) | exact HI273.out)); (case side2 => repeat (first | (with_reducible first | exact HB.out | apply below_alloc | apply pw_below_drewN | apply below_drew1 | refine below_set ?_ (IsS71.ge HI273.out) | refine below_set ?_ GE272.out | refine below_set ?_ GE288.out) | exact HB.out)); rintro e w23 ⟨rfl, hi, hb, hk⟩; refine ⟨_, rfl, ?_⟩; have n0_ := Aside0.mk (KeepBut.blk hk (g' := gb272) (o := .cells #[.int .i64 0, .int .i64 0, .int .i64 0, .int .i64 0] 53 (0, 0)) (by (with_reducible repeat (first | refine blk_drewN ?_ _ | refine blk_drew ?_ | refine blk_alloc ?_ _)); refine blk_far ?_ NB272_288.out _; (with_reducible repeat (first | refine blk_drewN ?_ _ | refine blk_drew ?_ | refine blk_alloc ?_ _)); exact BK272.out) NB272_273.out (by simp)); have n1_ := Aside0.mk (Kd.R_mono (Kd.R_keep (IsS71.apart (show IsS71 w _ gb273 l0 t290 t291 from by repeat (first | (with_reducible first | exact HI273.out | apply IsS71.alloc | apply IsS71.drewN | apply IsS71.drew | apply IsS71.set_1 | apply IsS71.set_2 | apply IsS71.far (hne := NB273_272.out) | apply IsS71.far (hne := NB273_288.out)) | exact HI273.out)) (by (with_reducible repeat (first | apply Kd.R_alloc | apply Kd.R_drewN | apply Kd.R_drew)); exact (Kd.R_mono (Kd.R_far (p := ⟨gb288, 2, none⟩) (Kd.R_mono HO276.out (fun k_ hk => (⟨hk, hk.2⟩ : _ ∧ k_ ≠ gb288))) (fun _ hk => hk.2) (.int .i64 (wrap64 ((wrap64 (t282 + 1)) + t289)))) (fun _ h_ => h_.1))) (by decide)) hk (fun _ h => h.2)) (fun _ h => h.1)); have n2_ := Aside0.mk (KeepBut.blk hk (g' := gb288) (o := .cells #[.int .i64 t279, .int .i64 t282, .int .i64 (wrap64 ((wrap64 (t282 + 1)) + t289)), .int .i64 t285] 53 (0, 0)) (by (with_reducible repeat (first | refine blk_drewN ?_ _ | refine blk_drew ?_ | refine blk_alloc ?_ _)); refine blk_put (cs := #[.int .i64 t279, .int .i64 t282, .int .i64 0, .int .i64 t285]) ?_ 2 _ rfl; (with_reducible repeat (first | refine blk_drewN ?_ _ | refine blk_drew ?_ | refine blk_alloc ?_ _)); exact BK288.out) NB288_273.out (by simp)); have n3_ := Aside0.mk (hb); have n4_ := Aside0.mk (hi); clear BK272; clear HO276; clear BK288; clear HB; clear HI273; have BK272 := n0_; have HO276 := n1_; have BK288 := n2_; have HB := n3_; have HI273 := n4_; clear n0_ n1_ n2_ n3_ n4_; (try clear hb); (try clear hb2); (try clear hk); (try clear hi)))
  (try simp only [Act.put, List.setIfInBounds_toArray, List.set_cons_zero, List.set_cons_succ])
  go_cut [] (fun wc => ∃ (kq : Nat) (x289001_7 : Int) (x289002_7 : Int), Aside0 (spec_DrawBookLane.j0 kq t274 l0 t293 t294 t279 x289001_7 x289002_7 t285 = some (r1, r2, r3, r4, r5)) ∧ Aside0 (kq ≤ k) ∧ Aside0 (Kd.R k53 53 wc w.heap.size (fun k_ => k_ ≠ gb272 ∧ k_ ≠ gb288) v275 t274) ∧ Aside0 (wc.heap[gb272]? = some (.cells #[.int .i64 0, .int .i64 0, .int .i64 0, .int .i64 0] 53 (0, 0))) ∧ Aside0 (wc.heap[gb288]? = some (.cells #[.int .i64 t279, .int .i64 x289001_7, .int .i64 x289002_7, .int .i64 t285] 53 (0, 0))) ∧ Aside0 (IsS71 w wc gb273 l0 t293 t294) ∧ Aside0 (Below w.heap.size w wc))
  case first =>
    have H := HC8.out
    clear HC8
    by_cases c24 : t292 = true
    · subst c24
      have H1 : ((spec_FirstFree.f k t274 t279 t282 3).bind fun bt295 => (spec_DrawBookLane.j0 k t274 l0 t293 t294 t279 bt295.1 (wrap64 (bt295.1 + 3)) t285)) = some (r1, r2, r3, r4, r5) := by rw [if_pos rfl] at H; exact H
      clear H
      have H := H1
      clear H1
      replace H := Option.bind_eq_some_iff.mp H
      obtain ⟨⟨t295, t296⟩, A250, H⟩ := H
      replace H : (spec_DrawBookLane.j0 k t274 l0 t293 t294 t279 t295 (wrap64 (t295 + 3)) t285) = some (r1, r2, r3, r4, r5) := H
      have A25 := Aside0.mk A250
      clear A250
      have H' := Aside0.mk H
      clear H
      have hnb26 := NB288_272.out
      have hnc26 := NB272_288.out
      have hnb27 := NB288_273.out
      have hnc27 := NB273_288.out
      have hcz28_0 : w23.cell? ⟨gb288, 0, none⟩ = some (.int .i64 t279) := (blk_cell BK288.out 0).trans rfl
      have hcz28_1 : w23.cell? ⟨gb288, 1, none⟩ = some (.int .i64 t282) := (blk_cell BK288.out 1).trans rfl
      have hcz28_2 : w23.cell? ⟨gb288, 2, none⟩ = some (.int .i64 (wrap64 ((wrap64 (t282 + 1)) + t289))) := (blk_cell BK288.out 2).trans rfl
      have hcz28_3 : w23.cell? ⟨gb288, 3, none⟩ = some (.int .i64 t285) := (blk_cell BK288.out 3).trans rfl
      have hfz28_0 := blk_frozen BK288.out 0
      have hfz28_1 := blk_frozen BK288.out 1
      have hfz28_2 := blk_frozen BK288.out 2
      have hfz28_3 := blk_frozen BK288.out 3
      obtain ⟨Ao29, co29, eo29⟩ := Kd.R_slice HO276.out
      subst eo29
      go_wp2_with (first | ((with_reducible refine gate_callee (f := 38) rfl ?_); refine goesL_ (some 36) rfl rfl Try.func38 (by kernel_rfl) rfl #[.slice Ao29 t274.length co29, .int .i64 t279, .int .i64 t282, .int .i64 3] rfl (by (try simp only [List.map_toArray, List.map_cons, List.map_nil]); first | done | rfl | (simp only [List.length_drop, List.length_take]; rfl)) ?_; (with_reducible refine (spec_FirstFree.calls k _ _ t274 t279 t282 3 t295 t296 _ ?side1 ?side2 A25.out).mono ?_); (case side1 => repeat (first | exact (Kd.R_reads' HO276.out).2.2 | (with_reducible refine Kd.C_alloc ?_ _) | (with_reducible refine Kd.C_drewN ?_ _) | (with_reducible refine Kd.C_drew ?_))); (case side2 => exact (Kd.R_reads' HO276.out).2.1); rintro e w30 ⟨rfl, hb⟩; refine ⟨_, rfl, ?_⟩; have n0_ := Aside0.mk (Kd.R_below (by (with_reducible repeat (first | apply Kd.R_alloc | apply Kd.R_drewN | apply Kd.R_drew)); exact HO276.out) hb); have n1_ := Aside0.mk (blk_below (g := gb272) (o := .cells #[.int .i64 0, .int .i64 0, .int .i64 0, .int .i64 0] 53 (0, 0)) (by (with_reducible repeat (first | refine blk_drewN ?_ _ | refine blk_drew ?_ | refine blk_alloc ?_ _)); exact BK272.out) hb); have n2_ := Aside0.mk (IsS71.below (by repeat (first | (with_reducible first | exact HI273.out | apply IsS71.alloc | apply IsS71.drewN | apply IsS71.drew | apply IsS71.set_1 | apply IsS71.set_2 | apply IsS71.far (hne := NB273_272.out) | apply IsS71.far (hne := NB273_288.out)) | exact HI273.out)) hb); have n3_ := Aside0.mk (blk_below (g := gb288) (o := .cells #[.int .i64 t279, .int .i64 t282, .int .i64 (wrap64 ((wrap64 (t282 + 1)) + t289)), .int .i64 t285] 53 (0, 0)) (by (with_reducible repeat (first | refine blk_drewN ?_ _ | refine blk_drew ?_ | refine blk_alloc ?_ _)); exact BK288.out) hb); have n4_ := Aside0.mk (below_step (by repeat (first | (with_reducible first | exact HB.out | apply below_alloc | apply pw_below_drewN | apply below_drew1 | refine below_set ?_ (IsS71.ge HI273.out) | refine below_set ?_ GE272.out | refine below_set ?_ GE288.out) | exact HB.out)) hb); clear HO276; clear BK272; clear HI273; clear BK288; clear HB; have HO276 := n0_; have BK272 := n1_; have HI273 := n2_; have BK288 := n3_; have HB := n4_; clear n0_ n1_ n2_ n3_ n4_; (try clear hb); (try clear hb2); (try clear hk); (try clear hi); have hcz31_0 : w30.cell? ⟨gb288, 0, none⟩ = some (.int .i64 t279) := (blk_cell BK288.out 0).trans rfl; have hcz31_1 : w30.cell? ⟨gb288, 1, none⟩ = some (.int .i64 t282) := (blk_cell BK288.out 1).trans rfl; have hcz31_2 : w30.cell? ⟨gb288, 2, none⟩ = some (.int .i64 (wrap64 ((wrap64 (t282 + 1)) + t289))) := (blk_cell BK288.out 2).trans rfl; have hcz31_3 : w30.cell? ⟨gb288, 3, none⟩ = some (.int .i64 t285) := (blk_cell BK288.out 3).trans rfl; have hfz31_0 := blk_frozen BK288.out 0; have hfz31_1 := blk_frozen BK288.out 1; have hfz31_2 := blk_frozen BK288.out 2; have hfz31_3 := blk_frozen BK288.out 3))
      go_meet
      case rel => exact ⟨_, (t295), (wrap64 (t295 + 3)), H', ⟨by first | omega | exact Nat.le_refl _⟩, ⟨by (with_reducible repeat (first | apply Kd.R_alloc | apply Kd.R_drewN | apply Kd.R_drew)); exact Kd.R_mono (Kd.R_far (p := ⟨gb288, 2, none⟩) (Kd.R_far (p := ⟨gb288, 1, none⟩) (Kd.R_mono HO276.out (fun k_ hk => (⟨hk, hk.2⟩ : _ ∧ k_ ≠ gb288))) (fun _ hk => hk.2) (.int .i64 t295)) (fun _ hk => hk.2) (.int .i64 (wrap64 (t295 + 3)))) (fun _ hk => ⟨hk.1.1, hk.1.2⟩)⟩, ⟨by (with_reducible repeat (first | refine blk_drewN ?_ _ | refine blk_drew ?_ | refine blk_alloc ?_ _)); refine blk_far ?_ NB272_288.out _; (with_reducible repeat (first | refine blk_drewN ?_ _ | refine blk_drew ?_ | refine blk_alloc ?_ _)); refine blk_far ?_ NB272_288.out _; (with_reducible repeat (first | refine blk_drewN ?_ _ | refine blk_drew ?_ | refine blk_alloc ?_ _)); exact BK272.out⟩, ⟨by (with_reducible repeat (first | refine blk_drewN ?_ _ | refine blk_drew ?_ | refine blk_alloc ?_ _)); refine blk_put (cs := #[.int .i64 t279, .int .i64 t295, .int .i64 (wrap64 ((wrap64 (t282 + 1)) + t289)), .int .i64 t285]) ?_ 2 _ rfl; (with_reducible repeat (first | refine blk_drewN ?_ _ | refine blk_drew ?_ | refine blk_alloc ?_ _)); refine blk_put (cs := #[.int .i64 t279, .int .i64 t282, .int .i64 (wrap64 ((wrap64 (t282 + 1)) + t289)), .int .i64 t285]) ?_ 1 _ rfl; (with_reducible repeat (first | refine blk_drewN ?_ _ | refine blk_drew ?_ | refine blk_alloc ?_ _)); exact BK288.out⟩, ⟨by repeat (first | (with_reducible first | exact HI273.out | apply IsS71.alloc | apply IsS71.drewN | apply IsS71.drew | apply IsS71.set_1 | apply IsS71.set_2 | apply IsS71.far (hne := NB273_272.out) | apply IsS71.far (hne := NB273_288.out)) | exact HI273.out)⟩, ⟨by repeat (first | (with_reducible first | exact HB.out | apply below_alloc | apply pw_below_drewN | apply below_drew1 | refine below_set ?_ (IsS71.ge HI273.out) | refine below_set ?_ GE272.out | refine below_set ?_ GE288.out) | exact HB.out)⟩⟩
    · replace c24 := Bool.eq_false_iff.mpr c24
      subst c24
      have H1 : (spec_DrawBookLane.j0 k t274 l0 t293 t294 t279 t282 (wrap64 ((wrap64 (t282 + 1)) + t289)) t285) = some (r1, r2, r3, r4, r5) := by rw [if_neg (show ¬ (false = true) by decide)] at H; exact H
      clear H
      have H := H1
      clear H1
      have H' := Aside0.mk H
      clear H
      go_wp2
      go_meet
      case rel => exact ⟨_, (t282), (wrap64 ((wrap64 (t282 + 1)) + t289)), H', ⟨by first | omega | exact Nat.le_refl _⟩, ⟨by (with_reducible repeat (first | apply Kd.R_alloc | apply Kd.R_drewN | apply Kd.R_drew)); exact HO276.out⟩, ⟨by (with_reducible repeat (first | refine blk_drewN ?_ _ | refine blk_drew ?_ | refine blk_alloc ?_ _)); exact BK272.out⟩, ⟨by (with_reducible repeat (first | refine blk_drewN ?_ _ | refine blk_drew ?_ | refine blk_alloc ?_ _)); exact BK288.out⟩, ⟨by repeat (first | (with_reducible first | exact HI273.out | apply IsS71.alloc | apply IsS71.drewN | apply IsS71.drew | apply IsS71.set_1 | apply IsS71.set_2 | apply IsS71.far (hne := NB273_272.out) | apply IsS71.far (hne := NB273_288.out)) | exact HI273.out)⟩, ⟨by repeat (first | (with_reducible first | exact HB.out | apply below_alloc | apply pw_below_drewN | apply below_drew1 | refine below_set ?_ (IsS71.ge HI273.out) | refine below_set ?_ GE272.out | refine below_set ?_ GE288.out) | exact HB.out)⟩⟩
  case rest =>
    clear HC8
    try clear c1
    try clear c2
    try clear p2
    try clear c3
    try clear c4
    try clear c5
    try clear p6
    try clear c16
    try clear c17
    try clear c24
    try clear c26
    try clear c27
    try clear hcz18_0
    try clear hcz18_1
    try clear hcz18_2
    try clear hcz18_3
    try clear hcz28_0
    try clear hcz28_1
    try clear hcz28_2
    try clear hcz28_3
    try clear hcz31_0
    try clear hcz31_1
    try clear hcz31_2
    try clear hcz31_3
    try clear hfz18_0
    try clear hfz18_1
    try clear hfz18_2
    try clear hfz18_3
    try clear hfz28_0
    try clear hfz28_1
    try clear hfz28_2
    try clear hfz28_3
    try clear hfz31_0
    try clear hfz31_1
    try clear hfz31_2
    try clear hfz31_3
    obtain ⟨kq, x289001_7, x289002_7, HA, HJ7, HO_5, BK272, BK288, HI273, HB⟩ := hcut
    cases kq with
    | zero => exact absurd HA.out (by simp [spec_DrawBookLane.j0])
    | succ kj7 =>
      have H := HA.out
      clear HA
      simp only [spec_DrawBookLane.j0] at H
      replace H := Option.bind_eq_some_iff.mp H
      obtain ⟨⟨t297, t298, t299⟩, A320, H⟩ := H
      replace H : (if t297 = true then ((spec_l1Cur_among.f l0 t298 t299 (([(-1), 10, 9] : List Int))).bind fun bt303 => (some (t274, bt303.1, x289001_7, x289002_7, t285))) else (some (t274, t279, x289001_7, x289002_7, t285))) = some (r1, r2, r3, r4, r5) := H
      have A32 := Aside0.mk A320
      clear A320
      by_cases c33 : t297 = true
      · subst c33
        have H1 : ((spec_l1Cur_among.f l0 t298 t299 (([(-1), 10, 9] : List Int))).bind fun bt303 => (some (t274, bt303.1, x289001_7, x289002_7, t285))) = some (r1, r2, r3, r4, r5) := by rw [if_pos rfl] at H; exact H
        clear H
        have H := H1
        clear H1
        obtain ⟨y300, hy300⟩ : ∃ y_ : List Int, y_ = (([(-1), 10, 9] : List Int)) := ⟨_, rfl⟩
        replace H : ((spec_l1Cur_among.f l0 t298 t299 y300).bind fun bt303 => (some (t274, bt303.1, x289001_7, x289002_7, t285))) = some (r1, r2, r3, r4, r5) := by first | (rw [hy300]; with_reducible exact H) | (have H2_ := (Option.bind_some _ _).symm.trans H; rw [hy300]; with_reducible exact H2_) | (have H2_ := (Option.bind_some _ _).symm.trans H; with_reducible exact H2_) | with_reducible exact H | (rw [hy300]; exact H) | exact H
        have Ny300 := Aside0.mk hy300
        clear hy300
        replace H := Option.bind_eq_some_iff.mp H
        obtain ⟨⟨t303, t304, t305⟩, A340, H⟩ := H
        replace H : (some (t274, t303, x289001_7, x289002_7, t285)) = some (r1, r2, r3, r4, r5) := H
        have A34 := Aside0.mk A340
        clear A340
        simp only [Option.some.injEq, Prod.mk.injEq] at H
        obtain ⟨rfl, rfl, rfl, rfl, rfl⟩ := H
        try go_wp2_with (first | ((with_reducible refine gate_callee (f := 43) rfl ?_); refine goesL_ (some 46) rfl rfl Try.func43 (by kernel_rfl) rfl #[.pointer (some ⟨gb273, 0, none⟩), .int .i64 24] rfl (by (try simp only [List.map_toArray, List.map_cons, List.map_nil]); first | done | rfl | (simp only [List.length_drop, List.length_take]; rfl)) ?_; (with_reducible refine (spec_l1Cur_one.calls gb273 l0 t293 t294 24 true t298 t299 w _ ?side1 ?side2 A32.out).mono ?_); (case side1 => repeat (first | (with_reducible first | exact HI273.out | apply IsS71.alloc | apply IsS71.drewN | apply IsS71.drew | apply IsS71.set_1 | apply IsS71.set_2 | apply IsS71.far (hne := NB273_272.out) | apply IsS71.far (hne := NB273_288.out)) | exact HI273.out)); (case side2 => repeat (first | (with_reducible first | exact HB.out | apply below_alloc | apply pw_below_drewN | apply below_drew1 | refine below_set ?_ (IsS71.ge HI273.out) | refine below_set ?_ GE272.out | refine below_set ?_ GE288.out) | exact HB.out)); rintro e w35 ⟨rfl, hi, hb, hk⟩; refine ⟨_, rfl, ?_⟩; have n0_ := Aside0.mk (Kd.R_mono (Kd.R_keep (IsS71.apart (show IsS71 w _ gb273 l0 t293 t294 from by repeat (first | (with_reducible first | exact HI273.out | apply IsS71.alloc | apply IsS71.drewN | apply IsS71.drew | apply IsS71.set_1 | apply IsS71.set_2 | apply IsS71.far (hne := NB273_272.out) | apply IsS71.far (hne := NB273_288.out)) | exact HI273.out)) (by (with_reducible repeat (first | apply Kd.R_alloc | apply Kd.R_drewN | apply Kd.R_drew)); exact HO_5.out) (by decide)) hk (fun _ h => h.2)) (fun _ h => h.1)); have n1_ := Aside0.mk (KeepBut.blk hk (g' := gb272) (o := .cells #[.int .i64 0, .int .i64 0, .int .i64 0, .int .i64 0] 53 (0, 0)) (by (with_reducible repeat (first | refine blk_drewN ?_ _ | refine blk_drew ?_ | refine blk_alloc ?_ _)); exact BK272.out) NB272_273.out (by simp)); have n2_ := Aside0.mk (KeepBut.blk hk (g' := gb288) (o := .cells #[.int .i64 t279, .int .i64 x289001_7, .int .i64 x289002_7, .int .i64 t285] 53 (0, 0)) (by (with_reducible repeat (first | refine blk_drewN ?_ _ | refine blk_drew ?_ | refine blk_alloc ?_ _)); exact BK288.out) NB288_273.out (by simp)); have n3_ := Aside0.mk (hb); have n4_ := Aside0.mk (hi); clear HO_5; clear BK272; clear BK288; clear HB; clear HI273; have HO_5 := n0_; have BK272 := n1_; have BK288 := n2_; have HB := n3_; have HI273 := n4_; clear n0_ n1_ n2_ n3_ n4_; (try clear hb); (try clear hb2); (try clear hk); (try clear hi)) | ((with_reducible refine gate_dst (N := 48) rfl ?_); refine Kd.R_lit (Kd.int .i64) _ 3 ?hg (N := 48) ?hd (xs := ([(-1), 10, 9] : List Int)) (inner := [.int .i64 (-1), .int .i64 10, .int .i64 9]) (ok := fun _ => True) (okp := fun _ => True) ?hr ?hp (fun _ hk => hk) trivial (Below.refl _ _) (Nat.le_refl _) (by simp) ?_; (case hd => rfl); (case hg => rfl); (case hr => first | (go_simp; done) | (go_simp; rfl)); (case hp => exact (Reps.one (show Kd.M (Kd.int .i64) _ _ _ (-1) [.int .i64 (-1)] from rfl) (Reps.one (show Kd.M (Kd.int .i64) _ _ _ 10 [.int .i64 10] from rfl) (Reps.one (show Kd.M (Kd.int .i64) _ _ _ 9 [.int .i64 9] from rfl) (Reps.none _ _))))); intro v301 w36 ho37 hb hg_ hnew_; clear hg_ hnew_; (first | rw [← Ny300.out] at ho37 | (simp only [Int.reduceToNat] at ho37; rw [← Ny300.out] at ho37)); have n0_ := Aside0.mk (Kd.R_below (by (with_reducible repeat (first | apply Kd.R_alloc | apply Kd.R_drewN | apply Kd.R_drew)); exact HO_5.out) hb); have n1_ := Aside0.mk (Kd.R_lower ho37 (below_size (by repeat (first | (with_reducible first | exact HB.out | apply below_alloc | apply pw_below_drewN | apply below_drew1 | refine below_set ?_ (IsS71.ge HI273.out) | refine below_set ?_ GE272.out | refine below_set ?_ GE288.out) | exact HB.out)))); have n2_ := Aside0.mk (blk_below (g := gb272) (o := .cells #[.int .i64 0, .int .i64 0, .int .i64 0, .int .i64 0] 53 (0, 0)) (by (with_reducible repeat (first | refine blk_drewN ?_ _ | refine blk_drew ?_ | refine blk_alloc ?_ _)); exact BK272.out) hb); have n3_ := Aside0.mk (blk_below (g := gb288) (o := .cells #[.int .i64 t279, .int .i64 x289001_7, .int .i64 x289002_7, .int .i64 t285] 53 (0, 0)) (by (with_reducible repeat (first | refine blk_drewN ?_ _ | refine blk_drew ?_ | refine blk_alloc ?_ _)); exact BK288.out) hb); have n4_ := Aside0.mk (IsS71.below (by repeat (first | (with_reducible first | exact HI273.out | apply IsS71.alloc | apply IsS71.drewN | apply IsS71.drew | apply IsS71.set_1 | apply IsS71.set_2 | apply IsS71.far (hne := NB273_272.out) | apply IsS71.far (hne := NB273_288.out)) | exact HI273.out)) hb); have n5_ := Aside0.mk (below_step (by repeat (first | (with_reducible first | exact HB.out | apply below_alloc | apply pw_below_drewN | apply below_drew1 | refine below_set ?_ (IsS71.ge HI273.out) | refine below_set ?_ GE272.out | refine below_set ?_ GE288.out) | exact HB.out)) hb); clear HO_5; clear BK272; clear BK288; clear HI273; clear HB; have HO_5 := n0_; have HO302 := n1_; have BK272 := n2_; have BK288 := n3_; have HI273 := n4_; have HB := n5_; clear n0_ n1_ n2_ n3_ n4_ n5_; clear hb ho37; obtain ⟨Ao38, co38, eo38⟩ := Kd.R_slice HO302.out; subst eo38) | ((with_reducible refine gate_callee (f := 45) rfl ?_); refine goesL_ (some 49) rfl rfl Try.func45 (by kernel_rfl) rfl #[.pointer (some ⟨gb273, 0, none⟩), .slice Ao38 y300.length co38] rfl (by (try simp only [List.map_toArray, List.map_cons, List.map_nil]); first | done | rfl | (simp only [List.length_drop, List.length_take]; rfl)) ?_; (with_reducible refine (spec_l1Cur_among.calls gb273 l0 t298 t299 _ _ y300 t303 t304 t305 w _ ?side1 ?side2 ?side3 ?side4 ?side5 A34.out).mono ?_); (case side1 => repeat (first | (with_reducible first | exact HI273.out | apply IsS71.alloc | apply IsS71.drewN | apply IsS71.drew | apply IsS71.set_1 | apply IsS71.set_2 | apply IsS71.far (hne := NB273_272.out) | apply IsS71.far (hne := NB273_288.out)) | exact HI273.out)); (case side2 => repeat (first | (with_reducible first | exact HB.out | apply below_alloc | apply pw_below_drewN | apply below_drew1 | refine below_set ?_ (IsS71.ge HI273.out) | refine below_set ?_ GE272.out | refine below_set ?_ GE288.out) | exact HB.out)); (case side3 => repeat (first | exact (Kd.R_reads' HO302.out).2.2 | (with_reducible refine Kd.C_alloc ?_ _) | (with_reducible refine Kd.C_drewN ?_ _) | (with_reducible refine Kd.C_drew ?_))); (case side4 => exact (Kd.R_reads' HO302.out).2.1); (case side5 => exact far_slice (IsS71.own_ne HI273.out HO302.out (by decide))); rintro e w39 ⟨rfl, hi, hb, hk⟩; refine ⟨_, rfl, ?_⟩; have n0_ := Aside0.mk (Kd.R_mono (Kd.R_keep (IsS71.apart (show IsS71 w _ gb273 l0 t298 t299 from by repeat (first | (with_reducible first | exact HI273.out | apply IsS71.alloc | apply IsS71.drewN | apply IsS71.drew | apply IsS71.set_1 | apply IsS71.set_2 | apply IsS71.far (hne := NB273_272.out) | apply IsS71.far (hne := NB273_288.out)) | exact HI273.out)) (by (with_reducible repeat (first | apply Kd.R_alloc | apply Kd.R_drewN | apply Kd.R_drew)); exact HO_5.out) (by decide)) hk (fun _ h => h.2)) (fun _ h => h.1)); have n1_ := Aside0.mk (KeepBut.blk hk (g' := gb272) (o := .cells #[.int .i64 0, .int .i64 0, .int .i64 0, .int .i64 0] 53 (0, 0)) (by (with_reducible repeat (first | refine blk_drewN ?_ _ | refine blk_drew ?_ | refine blk_alloc ?_ _)); exact BK272.out) NB272_273.out (by simp)); have n2_ := Aside0.mk (KeepBut.blk hk (g' := gb288) (o := .cells #[.int .i64 t279, .int .i64 x289001_7, .int .i64 x289002_7, .int .i64 t285] 53 (0, 0)) (by (with_reducible repeat (first | refine blk_drewN ?_ _ | refine blk_drew ?_ | refine blk_alloc ?_ _)); exact BK288.out) NB288_273.out (by simp)); have n3_ := Aside0.mk (Kd.R_mono (Kd.R_keep (IsS71.apart (show IsS71 w _ gb273 l0 t298 t299 from by repeat (first | (with_reducible first | exact HI273.out | apply IsS71.alloc | apply IsS71.drewN | apply IsS71.drew | apply IsS71.set_1 | apply IsS71.set_2 | apply IsS71.far (hne := NB273_272.out) | apply IsS71.far (hne := NB273_288.out)) | exact HI273.out)) (by (with_reducible repeat (first | apply Kd.R_alloc | apply Kd.R_drewN | apply Kd.R_drew)); exact HO302.out) (by decide)) hk (fun _ h => h.2)) (fun _ h => h.1)); have n4_ := Aside0.mk (hb); have n5_ := Aside0.mk (hi); clear HO_5; clear BK272; clear BK288; clear HO302; clear HB; clear HI273; have HO_5 := n0_; have BK272 := n1_; have BK288 := n2_; have HO302 := n3_; have HB := n4_; have HI273 := n5_; clear n0_ n1_ n2_ n3_ n4_ n5_; (try clear hb); (try clear hb2); (try clear hk); (try clear hi); have hnb40 := NB288_272.out; have hnc40 := NB272_288.out; have hnb41 := NB288_273.out; have hnc41 := NB273_288.out; have hcz42_0 : w39.cell? ⟨gb288, 0, none⟩ = some (.int .i64 t279) := (blk_cell BK288.out 0).trans rfl; have hcz42_1 : w39.cell? ⟨gb288, 1, none⟩ = some (.int .i64 x289001_7) := (blk_cell BK288.out 1).trans rfl; have hcz42_2 : w39.cell? ⟨gb288, 2, none⟩ = some (.int .i64 x289002_7) := (blk_cell BK288.out 2).trans rfl; have hcz42_3 : w39.cell? ⟨gb288, 3, none⟩ = some (.int .i64 t285) := (blk_cell BK288.out 3).trans rfl; have hfz42_0 := blk_frozen BK288.out 0; have hfz42_1 := blk_frozen BK288.out 1; have hfz42_2 := blk_frozen BK288.out 2; have hfz42_3 := blk_frozen BK288.out 3))
        have n0_ : Aside0 (Kd.R k53 53 (w39.setCell ⟨gb288, 0, none⟩ (.int .i64 t303)) w.heap.size (fun k_ => k_ ≠ gb272 ∧ k_ ≠ gb288) v275 t274) := ⟨by (with_reducible repeat (first | apply Kd.R_alloc | apply Kd.R_drewN | apply Kd.R_drew)); exact Kd.R_mono (Kd.R_far (p := ⟨gb288, 0, none⟩) (Kd.R_mono HO_5.out (fun k_ hk => (⟨hk, hk.2⟩ : _ ∧ k_ ≠ gb288))) (fun _ hk => hk.2) (.int .i64 t303)) (fun _ hk => ⟨hk.1.1, hk.1.2⟩)⟩
        have n1_ : Aside0 (Kd.R (Kd.int .i64) 3 (w39.setCell ⟨gb288, 0, none⟩ (.int .i64 t303)) w.heap.size (fun _ => True) (.slice Ao38 y300.length co38) y300) := ⟨by (with_reducible repeat (first | apply Kd.R_alloc | apply Kd.R_drewN | apply Kd.R_drew)); exact Kd.R_mono (Kd.R_far (p := ⟨gb288, 0, none⟩) (Kd.R_types HO302.out BK288.out (by decide)) (fun _ hk => hk.2) (.int .i64 t303)) (fun _ hk => trivial)⟩
        have n2_ : Aside0 ((w39.setCell ⟨gb288, 0, none⟩ (.int .i64 t303)).heap[gb272]? = some (.cells #[.int .i64 0, .int .i64 0, .int .i64 0, .int .i64 0] 53 (0, 0))) := ⟨by (with_reducible repeat (first | refine blk_drewN ?_ _ | refine blk_drew ?_ | refine blk_alloc ?_ _)); refine blk_far ?_ NB272_288.out _; (with_reducible repeat (first | refine blk_drewN ?_ _ | refine blk_drew ?_ | refine blk_alloc ?_ _)); exact BK272.out⟩
        have n3_ : Aside0 ((w39.setCell ⟨gb288, 0, none⟩ (.int .i64 t303)).heap[gb288]? = some (.cells #[.int .i64 t303, .int .i64 x289001_7, .int .i64 x289002_7, .int .i64 t285] 53 (0, 0))) := ⟨by (with_reducible repeat (first | refine blk_drewN ?_ _ | refine blk_drew ?_ | refine blk_alloc ?_ _)); refine blk_put (cs := #[.int .i64 t279, .int .i64 x289001_7, .int .i64 x289002_7, .int .i64 t285]) ?_ 0 _ rfl; (with_reducible repeat (first | refine blk_drewN ?_ _ | refine blk_drew ?_ | refine blk_alloc ?_ _)); exact BK288.out⟩
        have n4_ : Aside0 (IsS71 w (w39.setCell ⟨gb288, 0, none⟩ (.int .i64 t303)) gb273 l0 t304 t305) := ⟨by repeat (first | (with_reducible first | exact HI273.out | apply IsS71.alloc | apply IsS71.drewN | apply IsS71.drew | apply IsS71.set_1 | apply IsS71.set_2 | apply IsS71.far (hne := NB273_272.out) | apply IsS71.far (hne := NB273_288.out)) | exact HI273.out)⟩
        have n5_ : Aside0 (Below w.heap.size w (w39.setCell ⟨gb288, 0, none⟩ (.int .i64 t303))) := ⟨by repeat (first | (with_reducible first | exact HB.out | apply below_alloc | apply pw_below_drewN | apply below_drew1 | refine below_set ?_ (IsS71.ge HI273.out) | refine below_set ?_ GE272.out | refine below_set ?_ GE288.out) | exact HB.out)⟩
        (try clear HO_5)
        (try clear HO302)
        (try clear BK272)
        (try clear BK288)
        (try clear HI273)
        (try clear HB)
        generalize (w39.setCell ⟨gb288, 0, none⟩ (.int .i64 t303)) = w43 at n0_ n1_ n2_ n3_ n4_ n5_ ⊢
        have HO_5 := n0_
        have HO302 := n1_
        have BK272 := n2_
        have BK288 := n3_
        have HI273 := n4_
        have HB := n5_
        clear n0_ n1_ n2_ n3_ n4_ n5_
        have n0_ := Aside0.mk (Kd.R_drew HO_5.out)
        have n1_ := Aside0.mk (Kd.R_drew HO302.out)
        have n2_ := Aside0.mk (blk_drew BK272.out)
        have n3_ := Aside0.mk (blk_drew BK288.out)
        have n4_ := Aside0.mk (IsS71.drew HI273.out)
        have n5_ := Aside0.mk (below_drew1 HB.out)
        clear HO_5
        clear HO302
        clear BK272
        clear BK288
        clear HI273
        clear HB
        have HO_5 := n0_
        have HO302 := n1_
        have BK272 := n2_
        have BK288 := n3_
        have HI273 := n4_
        have HB := n5_
        clear n0_ n1_ n2_ n3_ n4_ n5_
        refine start_ (n := 4) (S := fun w' => w'.cell? ⟨gb288, 0, none⟩ = some (.int .i64 t303) ∧ w'.cell? ⟨gb288, 1, none⟩ = some (.int .i64 x289001_7) ∧ w'.cell? ⟨gb288, 2, none⟩ = some (.int .i64 x289002_7) ∧ w'.cell? ⟨gb288, 3, none⟩ = some (.int .i64 t285)) (ds := []) #[false, false, false, false] (by kernel_rfl) rfl rfl ⟨(blk_cell BK288.out 0).trans rfl, (blk_cell BK288.out 1).trans rfl, (blk_cell BK288.out 2).trans rfl, (blk_cell BK288.out 3).trans rfl⟩ (fun hHeld => ?_)
        generalize w43.drew = w44 at HO_5 HO302 BK272 BK288 HI273 HB hHeld ⊢
        refine pure_ (i := 0) (N := some 51) (v := ?_) (a' := ?_) #[true, false, false, false] rfl rfl (by kernel_rfl) (fun _ _ _ h => h) (Or.inl ⟨by rfl, ?_⟩) ?_ ?_
        rotate_left
        · intro w'
          go_simp
          with_reducible rfl
        rotate_left
        · simp only [Act.put, List.setIfInBounds_toArray, List.set_cons_zero, List.set_cons_succ, i64_w, i32_w]
          rfl
        refine pure_ (i := 2) (N := some 2) (v := ?_) (a' := ?_) #[true, false, true, false] rfl rfl (by kernel_rfl) (fun _ _ _ h => h) (Or.inl ⟨by rfl, ?_⟩) ?_ ?_
        rotate_left
        · intro w'
          go_simp
          with_reducible rfl
        rotate_left
        · simp only [Act.put, List.setIfInBounds_toArray, List.set_cons_zero, List.set_cons_succ, i64_w, i32_w]
          rfl
        refine take_ (i := 1) (N := some 52) (v := ?_) (a' := ?_) #[true, true, true, false] rfl rfl (by kernel_rfl) (fun _ _ _ h => h) (Or.inl ⟨by rfl, ?_⟩) hHeld ?_ ?_
        rotate_left
        · rintro w' ⟨s0, s1, s2, s3⟩
          go_simp
          with_reducible rfl
        rotate_left
        · simp only [Act.put, List.setIfInBounds_toArray, List.set_cons_zero, List.set_cons_succ, i64_w, i32_w]
          rfl
        refine one_ (i := 3) (N := none) #[true, true, true, true] rfl rfl (by kernel_rfl) (by decide) (fun K hK => ?_)
        have hs45 : w44.cell? ⟨gb272, 0, none⟩ = some (.int .i64 0) := (blk_cell BK272.out 0).trans rfl
        have hfs45 := blk_frozen BK272.out 0
        have hns45_1 := NB288_272.out
        have hms45_1 := NB272_288.out
        have hs46 : w44.cell? ⟨gb272, 1, none⟩ = some (.int .i64 0) := (blk_cell BK272.out 1).trans rfl
        have hfs46 := blk_frozen BK272.out 1
        have hns46_1 := NB288_272.out
        have hms46_1 := NB272_288.out
        have hs47 : w44.cell? ⟨gb272, 2, none⟩ = some (.int .i64 0) := (blk_cell BK272.out 2).trans rfl
        have hfs47 := blk_frozen BK272.out 2
        have hns47_1 := NB288_272.out
        have hms47_1 := NB272_288.out
        have hs48 : w44.cell? ⟨gb272, 3, none⟩ = some (.int .i64 0) := (blk_cell BK272.out 3).trans rfl
        have hfs48 := blk_frozen BK272.out 3
        have hns48_1 := NB288_272.out
        have hms48_1 := NB272_288.out
        refine skip_ (w1 := ?_) (by rfl) rfl ?_ ?_
        rotate_left
        · go_simp
          rfl
        refine hK.out _ _ ⟨((cell_far (p := ⟨gb272, _, none⟩) NB288_272.out _).trans (((cell_far (p := ⟨gb272, _, none⟩) NB288_272.out _).trans (((cell_far (p := ⟨gb272, _, none⟩) NB288_272.out _).trans (((cell_far (p := ⟨gb272, _, none⟩) NB288_272.out _).trans (hHeld.1)))))))), ((cell_far (p := ⟨gb272, _, none⟩) NB288_272.out _).trans (((cell_far (p := ⟨gb272, _, none⟩) NB288_272.out _).trans (((cell_far (p := ⟨gb272, _, none⟩) NB288_272.out _).trans (((cell_far (p := ⟨gb272, _, none⟩) NB288_272.out _).trans (hHeld.2.1)))))))), ((cell_far (p := ⟨gb272, _, none⟩) NB288_272.out _).trans (((cell_far (p := ⟨gb272, _, none⟩) NB288_272.out _).trans (((cell_far (p := ⟨gb272, _, none⟩) NB288_272.out _).trans (((cell_far (p := ⟨gb272, _, none⟩) NB288_272.out _).trans (hHeld.2.2.1)))))))), ((cell_far (p := ⟨gb272, _, none⟩) NB288_272.out _).trans (((cell_far (p := ⟨gb272, _, none⟩) NB288_272.out _).trans (((cell_far (p := ⟨gb272, _, none⟩) NB288_272.out _).trans (((cell_far (p := ⟨gb272, _, none⟩) NB288_272.out _).trans (hHeld.2.2.2))))))))⟩ (fun hHeld => ?_)
        clear hK K
        refine done_ (by kernel_rfl) ?_
        try go_wp2
        refine bodyPost_ret (results_tc rfl _ _ gb272 53 #[.int .i64 t303, .int .i64 x289001_7, .int .i64 x289002_7, .int .i64 t285] (0, 0) _ rfl (by (with_reducible repeat (first | refine blk_drewN ?_ _ | refine blk_drew ?_ | refine blk_alloc ?_ _)); refine blk_put (cs := #[.int .i64 t303, .int .i64 x289001_7, .int .i64 x289002_7, .int .i64 0]) ?_ 3 _ rfl; (with_reducible repeat (first | refine blk_drewN ?_ _ | refine blk_drew ?_ | refine blk_alloc ?_ _)); refine blk_put (cs := #[.int .i64 t303, .int .i64 x289001_7, .int .i64 0, .int .i64 0]) ?_ 2 _ rfl; (with_reducible repeat (first | refine blk_drewN ?_ _ | refine blk_drew ?_ | refine blk_alloc ?_ _)); refine blk_put (cs := #[.int .i64 t303, .int .i64 0, .int .i64 0, .int .i64 0]) ?_ 1 _ rfl; (with_reducible repeat (first | refine blk_drewN ?_ _ | refine blk_drew ?_ | refine blk_alloc ?_ _)); refine blk_put (cs := #[.int .i64 0, .int .i64 0, .int .i64 0, .int .i64 0]) ?_ 0 _ rfl; (with_reducible repeat (first | refine blk_drewN ?_ _ | refine blk_drew ?_ | refine blk_alloc ?_ _)); exact BK272.out) Try.underlying53 rfl (by kernel_rfl)) rfl ?_
        exact ⟨_, by first | rfl | (simp [errW_none, errW_some] <;> rfl) | (simp [*, errW_none, errW_some] <;> rfl), by (with_reducible repeat (first | apply Kd.R_alloc | apply Kd.R_drewN | apply Kd.R_drew)); exact Kd.R_mono (Kd.R_far (p := ⟨gb272, 3, none⟩) (Kd.R_far (p := ⟨gb272, 2, none⟩) (Kd.R_far (p := ⟨gb272, 1, none⟩) (Kd.R_far (p := ⟨gb272, 0, none⟩) (Kd.R_mono HO_5.out (fun k_ hk => (⟨hk, hk.1⟩ : _ ∧ k_ ≠ gb272))) (fun _ hk => hk.2) (.int .i64 t303)) (fun _ hk => hk.2) (.int .i64 x289001_7)) (fun _ hk => hk.2) (.int .i64 x289002_7)) (fun _ hk => hk.2) (.int .i64 t285)) (fun _ hk => trivial), by repeat (first | (with_reducible first | exact HB.out | apply below_alloc | apply pw_below_drewN | apply below_drew1 | refine below_set ?_ (IsS71.ge HI273.out) | refine below_set ?_ GE272.out | refine below_set ?_ GE288.out) | exact HB.out)⟩
      · replace c33 := Bool.eq_false_iff.mpr c33
        subst c33
        have H1 : (some (t274, t279, x289001_7, x289002_7, t285)) = some (r1, r2, r3, r4, r5) := by rw [if_neg (show ¬ (false = true) by decide)] at H; exact H
        clear H
        have H := H1
        clear H1
        simp only [Option.some.injEq, Prod.mk.injEq] at H
        obtain ⟨rfl, rfl, rfl, rfl, rfl⟩ := H
        try go_wp2_with (first | ((with_reducible refine gate_callee (f := 43) rfl ?_); refine goesL_ (some 46) rfl rfl Try.func43 (by kernel_rfl) rfl #[.pointer (some ⟨gb273, 0, none⟩), .int .i64 24] rfl (by (try simp only [List.map_toArray, List.map_cons, List.map_nil]); first | done | rfl | (simp only [List.length_drop, List.length_take]; rfl)) ?_; (with_reducible refine (spec_l1Cur_one.calls gb273 l0 t293 t294 24 false t298 t299 w _ ?side1 ?side2 A32.out).mono ?_); (case side1 => repeat (first | (with_reducible first | exact HI273.out | apply IsS71.alloc | apply IsS71.drewN | apply IsS71.drew | apply IsS71.set_1 | apply IsS71.set_2 | apply IsS71.far (hne := NB273_272.out) | apply IsS71.far (hne := NB273_288.out)) | exact HI273.out)); (case side2 => repeat (first | (with_reducible first | exact HB.out | apply below_alloc | apply pw_below_drewN | apply below_drew1 | refine below_set ?_ (IsS71.ge HI273.out) | refine below_set ?_ GE272.out | refine below_set ?_ GE288.out) | exact HB.out)); rintro e w49 ⟨rfl, hi, hb, hk⟩; refine ⟨_, rfl, ?_⟩; have n0_ := Aside0.mk (Kd.R_mono (Kd.R_keep (IsS71.apart (show IsS71 w _ gb273 l0 t293 t294 from by repeat (first | (with_reducible first | exact HI273.out | apply IsS71.alloc | apply IsS71.drewN | apply IsS71.drew | apply IsS71.set_1 | apply IsS71.set_2 | apply IsS71.far (hne := NB273_272.out) | apply IsS71.far (hne := NB273_288.out)) | exact HI273.out)) (by (with_reducible repeat (first | apply Kd.R_alloc | apply Kd.R_drewN | apply Kd.R_drew)); exact HO_5.out) (by decide)) hk (fun _ h => h.2)) (fun _ h => h.1)); have n1_ := Aside0.mk (KeepBut.blk hk (g' := gb272) (o := .cells #[.int .i64 0, .int .i64 0, .int .i64 0, .int .i64 0] 53 (0, 0)) (by (with_reducible repeat (first | refine blk_drewN ?_ _ | refine blk_drew ?_ | refine blk_alloc ?_ _)); exact BK272.out) NB272_273.out (by simp)); have n2_ := Aside0.mk (KeepBut.blk hk (g' := gb288) (o := .cells #[.int .i64 t279, .int .i64 x289001_7, .int .i64 x289002_7, .int .i64 t285] 53 (0, 0)) (by (with_reducible repeat (first | refine blk_drewN ?_ _ | refine blk_drew ?_ | refine blk_alloc ?_ _)); exact BK288.out) NB288_273.out (by simp)); have n3_ := Aside0.mk (hb); have n4_ := Aside0.mk (hi); clear HO_5; clear BK272; clear BK288; clear HB; clear HI273; have HO_5 := n0_; have BK272 := n1_; have BK288 := n2_; have HB := n3_; have HI273 := n4_; clear n0_ n1_ n2_ n3_ n4_; (try clear hb); (try clear hb2); (try clear hk); (try clear hi)))
        have n0_ := Aside0.mk (Kd.R_drew HO_5.out)
        have n1_ := Aside0.mk (blk_drew BK272.out)
        have n2_ := Aside0.mk (blk_drew BK288.out)
        have n3_ := Aside0.mk (IsS71.drew HI273.out)
        have n4_ := Aside0.mk (below_drew1 HB.out)
        clear HO_5
        clear BK272
        clear BK288
        clear HI273
        clear HB
        have HO_5 := n0_
        have BK272 := n1_
        have BK288 := n2_
        have HI273 := n3_
        have HB := n4_
        clear n0_ n1_ n2_ n3_ n4_
        refine start_ (n := 4) (S := fun w' => w'.cell? ⟨gb288, 0, none⟩ = some (.int .i64 t279) ∧ w'.cell? ⟨gb288, 1, none⟩ = some (.int .i64 x289001_7) ∧ w'.cell? ⟨gb288, 2, none⟩ = some (.int .i64 x289002_7) ∧ w'.cell? ⟨gb288, 3, none⟩ = some (.int .i64 t285)) (ds := []) #[false, false, false, false] (by kernel_rfl) rfl rfl ⟨(blk_cell BK288.out 0).trans rfl, (blk_cell BK288.out 1).trans rfl, (blk_cell BK288.out 2).trans rfl, (blk_cell BK288.out 3).trans rfl⟩ (fun hHeld => ?_)
        generalize w49.drew = w50 at HO_5 BK272 BK288 HI273 HB hHeld ⊢
        refine pure_ (i := 0) (N := some 51) (v := ?_) (a' := ?_) #[true, false, false, false] rfl rfl (by kernel_rfl) (fun _ _ _ h => h) (Or.inl ⟨by rfl, ?_⟩) ?_ ?_
        rotate_left
        · intro w'
          go_simp
          with_reducible rfl
        rotate_left
        · simp only [Act.put, List.setIfInBounds_toArray, List.set_cons_zero, List.set_cons_succ, i64_w, i32_w]
          rfl
        refine pure_ (i := 2) (N := some 2) (v := ?_) (a' := ?_) #[true, false, true, false] rfl rfl (by kernel_rfl) (fun _ _ _ h => h) (Or.inl ⟨by rfl, ?_⟩) ?_ ?_
        rotate_left
        · intro w'
          go_simp
          with_reducible rfl
        rotate_left
        · simp only [Act.put, List.setIfInBounds_toArray, List.set_cons_zero, List.set_cons_succ, i64_w, i32_w]
          rfl
        refine take_ (i := 1) (N := some 52) (v := ?_) (a' := ?_) #[true, true, true, false] rfl rfl (by kernel_rfl) (fun _ _ _ h => h) (Or.inl ⟨by rfl, ?_⟩) hHeld ?_ ?_
        rotate_left
        · rintro w' ⟨s0, s1, s2, s3⟩
          go_simp
          with_reducible rfl
        rotate_left
        · simp only [Act.put, List.setIfInBounds_toArray, List.set_cons_zero, List.set_cons_succ, i64_w, i32_w]
          rfl
        refine one_ (i := 3) (N := none) #[true, true, true, true] rfl rfl (by kernel_rfl) (by decide) (fun K hK => ?_)
        have hs51 : w50.cell? ⟨gb272, 0, none⟩ = some (.int .i64 0) := (blk_cell BK272.out 0).trans rfl
        have hfs51 := blk_frozen BK272.out 0
        have hns51_1 := NB288_272.out
        have hms51_1 := NB272_288.out
        have hs52 : w50.cell? ⟨gb272, 1, none⟩ = some (.int .i64 0) := (blk_cell BK272.out 1).trans rfl
        have hfs52 := blk_frozen BK272.out 1
        have hns52_1 := NB288_272.out
        have hms52_1 := NB272_288.out
        have hs53 : w50.cell? ⟨gb272, 2, none⟩ = some (.int .i64 0) := (blk_cell BK272.out 2).trans rfl
        have hfs53 := blk_frozen BK272.out 2
        have hns53_1 := NB288_272.out
        have hms53_1 := NB272_288.out
        have hs54 : w50.cell? ⟨gb272, 3, none⟩ = some (.int .i64 0) := (blk_cell BK272.out 3).trans rfl
        have hfs54 := blk_frozen BK272.out 3
        have hns54_1 := NB288_272.out
        have hms54_1 := NB272_288.out
        refine skip_ (w1 := ?_) (by rfl) rfl ?_ ?_
        rotate_left
        · go_simp
          rfl
        refine hK.out _ _ ⟨((cell_far (p := ⟨gb272, _, none⟩) NB288_272.out _).trans (((cell_far (p := ⟨gb272, _, none⟩) NB288_272.out _).trans (((cell_far (p := ⟨gb272, _, none⟩) NB288_272.out _).trans (((cell_far (p := ⟨gb272, _, none⟩) NB288_272.out _).trans (hHeld.1)))))))), ((cell_far (p := ⟨gb272, _, none⟩) NB288_272.out _).trans (((cell_far (p := ⟨gb272, _, none⟩) NB288_272.out _).trans (((cell_far (p := ⟨gb272, _, none⟩) NB288_272.out _).trans (((cell_far (p := ⟨gb272, _, none⟩) NB288_272.out _).trans (hHeld.2.1)))))))), ((cell_far (p := ⟨gb272, _, none⟩) NB288_272.out _).trans (((cell_far (p := ⟨gb272, _, none⟩) NB288_272.out _).trans (((cell_far (p := ⟨gb272, _, none⟩) NB288_272.out _).trans (((cell_far (p := ⟨gb272, _, none⟩) NB288_272.out _).trans (hHeld.2.2.1)))))))), ((cell_far (p := ⟨gb272, _, none⟩) NB288_272.out _).trans (((cell_far (p := ⟨gb272, _, none⟩) NB288_272.out _).trans (((cell_far (p := ⟨gb272, _, none⟩) NB288_272.out _).trans (((cell_far (p := ⟨gb272, _, none⟩) NB288_272.out _).trans (hHeld.2.2.2))))))))⟩ (fun hHeld => ?_)
        clear hK K
        refine done_ (by kernel_rfl) ?_
        try go_wp2
        refine bodyPost_ret (results_tc rfl _ _ gb272 53 #[.int .i64 t279, .int .i64 x289001_7, .int .i64 x289002_7, .int .i64 t285] (0, 0) _ rfl (by (with_reducible repeat (first | refine blk_drewN ?_ _ | refine blk_drew ?_ | refine blk_alloc ?_ _)); refine blk_put (cs := #[.int .i64 t279, .int .i64 x289001_7, .int .i64 x289002_7, .int .i64 0]) ?_ 3 _ rfl; (with_reducible repeat (first | refine blk_drewN ?_ _ | refine blk_drew ?_ | refine blk_alloc ?_ _)); refine blk_put (cs := #[.int .i64 t279, .int .i64 x289001_7, .int .i64 0, .int .i64 0]) ?_ 2 _ rfl; (with_reducible repeat (first | refine blk_drewN ?_ _ | refine blk_drew ?_ | refine blk_alloc ?_ _)); refine blk_put (cs := #[.int .i64 t279, .int .i64 0, .int .i64 0, .int .i64 0]) ?_ 1 _ rfl; (with_reducible repeat (first | refine blk_drewN ?_ _ | refine blk_drew ?_ | refine blk_alloc ?_ _)); refine blk_put (cs := #[.int .i64 0, .int .i64 0, .int .i64 0, .int .i64 0]) ?_ 0 _ rfl; (with_reducible repeat (first | refine blk_drewN ?_ _ | refine blk_drew ?_ | refine blk_alloc ?_ _)); exact BK272.out) Try.underlying53 rfl (by kernel_rfl)) rfl ?_
        exact ⟨_, by first | rfl | (simp [errW_none, errW_some] <;> rfl) | (simp [*, errW_none, errW_some] <;> rfl), by (with_reducible repeat (first | apply Kd.R_alloc | apply Kd.R_drewN | apply Kd.R_drew)); exact Kd.R_mono (Kd.R_far (p := ⟨gb272, 3, none⟩) (Kd.R_far (p := ⟨gb272, 2, none⟩) (Kd.R_far (p := ⟨gb272, 1, none⟩) (Kd.R_far (p := ⟨gb272, 0, none⟩) (Kd.R_mono HO_5.out (fun k_ hk => (⟨hk, hk.1⟩ : _ ∧ k_ ≠ gb272))) (fun _ hk => hk.2) (.int .i64 t279)) (fun _ hk => hk.2) (.int .i64 x289001_7)) (fun _ hk => hk.2) (.int .i64 x289002_7)) (fun _ hk => hk.2) (.int .i64 t285)) (fun _ hk => trivial), by repeat (first | (with_reducible first | exact HB.out | apply below_alloc | apply pw_below_drewN | apply below_drew1 | refine below_set ?_ (IsS71.ge HI273.out) | refine below_set ?_ GE272.out | refine below_set ?_ GE288.out) | exact HB.out)⟩

/-! ### spec_DrawFirstFree: function 36 -/
def spec_DrawFirstFree.f (k : Nat) (l0 : List Int) : Option ((List (S53)) × Int × Int × Int) := (spec_l1Cur_books.f k l0 0 0).bind fun bt307 => ((spec_l1Cur_one.f l0 bt307.2.1 bt307.2.2 12).bind fun bt312 => (if bt312.1 = true then ((spec_l1Cur_pick.f l0 bt312.2.1 bt312.2.2 12).bind fun bt315 => ((spec_l1Cur_among.f l0 bt315.2.1 bt315.2.2 (([0, 9990, 10000, 10001, (-1)] : List Int))).bind fun bt321 => ((spec_l1Cur_among.f l0 bt321.2.1 bt321.2.2 (([1, 10, 9990, 10000, 10001, 0] : List Int))).bind fun bt327 => (some (bt307.1, wrap64 (bt315.1 - 1), bt321.1, bt327.1))))) else ((spec_l1Cur_pick.f l0 bt312.2.1 bt312.2.2 4).bind fun bt330 => ((spec_l1Cur_pick.f l0 bt330.2.1 bt330.2.2 30).bind fun bt333 => ((spec_l1Cur_pick.f l0 bt333.2.1 bt333.2.2 8).bind fun bt336 => (some (bt307.1, bt330.1, bt333.1, wrap64 (1 + bt336.1))))))))
theorem spec_DrawFirstFree.mono : ∀ a0 k, LeO (spec_DrawFirstFree.f k a0) (spec_DrawFirstFree.f (k + 1) a0) := by
  intro a0 k
  unfold spec_DrawFirstFree.f
  repeat' first
      | (with_reducible exact spec_l1Cur_books.mono _ _ _ _)
      | (with_reducible exact LeO.refl _)
      | (with_reducible exact LeO.none _)
      | (with_reducible refine LeO.ite ?_ ?_)
      | (with_reducible refine LeO.bind ?_ (fun _ => ?_))
      | exact spec_l1Cur_books.mono _ _ _ _
      | exact LeO.none _
      | refine LeO.ite ?_ ?_
      | refine LeO.bind ?_ (fun _ => ?_)
set_option maxHeartbeats 8000000 in
set_option maxRecDepth 100000 in
theorem spec_DrawFirstFree.calls (k : Nat) (A0 : Option Addr) (c0 : Nat) (l0 : List Int) (r1 : List (S53)) (r2 : Int) (r3 : Int) (r4 : Int) (w : World) (hr0 : Kd.C (Kd.int .u8) w A0 l0.length l0) (hc0 : l0.length ≤ c0) (h : spec_DrawFirstFree.f k l0 = some (r1, r2, r3, r4)) :
    Calls Try.prog 36 #[.slice A0 l0.length c0] w fun e w' => ∃ v0_ : Value, e = .returned (.tuple #[v0_, .int .i64 r2, .int .i64 r3, .int .i64 r4]) ∧ Kd.R k53 53 w' w.heap.size (fun _ => True) v0_ r1 ∧ Below w.heap.size w w' := by
  have hu71 := Try.underlying71
  have HR0 := Aside0.mk hr0
  have HC0 := Aside0.mk hc0
  clear hr0 hc0
  have HB := Aside0.mk (Below.refl w.heap.size w)
  have H : ((spec_l1Cur_books.f k l0 0 0).bind fun bt307 => ((spec_l1Cur_one.f l0 bt307.2.1 bt307.2.2 12).bind fun bt312 => (if bt312.1 = true then ((spec_l1Cur_pick.f l0 bt312.2.1 bt312.2.2 12).bind fun bt315 => ((spec_l1Cur_among.f l0 bt315.2.1 bt315.2.2 (([0, 9990, 10000, 10001, (-1)] : List Int))).bind fun bt321 => ((spec_l1Cur_among.f l0 bt321.2.1 bt321.2.2 (([1, 10, 9990, 10000, 10001, 0] : List Int))).bind fun bt327 => (some (bt307.1, wrap64 (bt315.1 - 1), bt321.1, bt327.1))))) else ((spec_l1Cur_pick.f l0 bt312.2.1 bt312.2.2 4).bind fun bt330 => ((spec_l1Cur_pick.f l0 bt330.2.1 bt330.2.2 30).bind fun bt333 => ((spec_l1Cur_pick.f l0 bt333.2.1 bt333.2.2 8).bind fun bt336 => (some (bt307.1, bt330.1, bt333.1, wrap64 (1 + bt336.1))))))))) = some (r1, r2, r3, r4) := h
  clear h
  replace H := Option.bind_eq_some_iff.mp H
  obtain ⟨⟨t307, t310, t311⟩, A20, H⟩ := H
  replace H : ((spec_l1Cur_one.f l0 t310 t311 12).bind fun bt312 => (if bt312.1 = true then ((spec_l1Cur_pick.f l0 bt312.2.1 bt312.2.2 12).bind fun bt315 => ((spec_l1Cur_among.f l0 bt315.2.1 bt315.2.2 (([0, 9990, 10000, 10001, (-1)] : List Int))).bind fun bt321 => ((spec_l1Cur_among.f l0 bt321.2.1 bt321.2.2 (([1, 10, 9990, 10000, 10001, 0] : List Int))).bind fun bt327 => (some (t307, wrap64 (bt315.1 - 1), bt321.1, bt327.1))))) else ((spec_l1Cur_pick.f l0 bt312.2.1 bt312.2.2 4).bind fun bt330 => ((spec_l1Cur_pick.f l0 bt330.2.1 bt330.2.2 30).bind fun bt333 => ((spec_l1Cur_pick.f l0 bt333.2.1 bt333.2.2 8).bind fun bt336 => (some (t307, bt330.1, bt333.1, wrap64 (1 + bt336.1)))))))) = some (r1, r2, r3, r4) := H
  have A2 := Aside0.mk A20
  clear A20
  replace H := Option.bind_eq_some_iff.mp H
  obtain ⟨⟨t312, t313, t314⟩, A30, H⟩ := H
  replace H : (if t312 = true then ((spec_l1Cur_pick.f l0 t313 t314 12).bind fun bt315 => ((spec_l1Cur_among.f l0 bt315.2.1 bt315.2.2 (([0, 9990, 10000, 10001, (-1)] : List Int))).bind fun bt321 => ((spec_l1Cur_among.f l0 bt321.2.1 bt321.2.2 (([1, 10, 9990, 10000, 10001, 0] : List Int))).bind fun bt327 => (some (t307, wrap64 (bt315.1 - 1), bt321.1, bt327.1))))) else ((spec_l1Cur_pick.f l0 t313 t314 4).bind fun bt330 => ((spec_l1Cur_pick.f l0 bt330.2.1 bt330.2.2 30).bind fun bt333 => ((spec_l1Cur_pick.f l0 bt333.2.1 bt333.2.2 8).bind fun bt336 => (some (t307, bt330.1, bt333.1, wrap64 (1 + bt336.1))))))) = some (r1, r2, r3, r4) := H
  have A3 := Aside0.mk A30
  clear A30
  by_cases c4 : t312 = true
  · subst c4
    have H1 : ((spec_l1Cur_pick.f l0 t313 t314 12).bind fun bt315 => ((spec_l1Cur_among.f l0 bt315.2.1 bt315.2.2 (([0, 9990, 10000, 10001, (-1)] : List Int))).bind fun bt321 => ((spec_l1Cur_among.f l0 bt321.2.1 bt321.2.2 (([1, 10, 9990, 10000, 10001, 0] : List Int))).bind fun bt327 => (some (t307, wrap64 (bt315.1 - 1), bt321.1, bt327.1))))) = some (r1, r2, r3, r4) := by rw [if_pos rfl] at H; exact H
    clear H
    have H := H1
    clear H1
    replace H := Option.bind_eq_some_iff.mp H
    obtain ⟨⟨t315, t316, t317⟩, A50, H⟩ := H
    replace H : ((spec_l1Cur_among.f l0 t316 t317 (([0, 9990, 10000, 10001, (-1)] : List Int))).bind fun bt321 => ((spec_l1Cur_among.f l0 bt321.2.1 bt321.2.2 (([1, 10, 9990, 10000, 10001, 0] : List Int))).bind fun bt327 => (some (t307, wrap64 (t315 - 1), bt321.1, bt327.1)))) = some (r1, r2, r3, r4) := H
    have A5 := Aside0.mk A50
    clear A50
    obtain ⟨y318, hy318⟩ : ∃ y_ : List Int, y_ = (([0, 9990, 10000, 10001, (-1)] : List Int)) := ⟨_, rfl⟩
    replace H : ((spec_l1Cur_among.f l0 t316 t317 y318).bind fun bt321 => ((spec_l1Cur_among.f l0 bt321.2.1 bt321.2.2 (([1, 10, 9990, 10000, 10001, 0] : List Int))).bind fun bt327 => (some (t307, wrap64 (t315 - 1), bt321.1, bt327.1)))) = some (r1, r2, r3, r4) := by first | (rw [hy318]; with_reducible exact H) | (have H2_ := (Option.bind_some _ _).symm.trans H; rw [hy318]; with_reducible exact H2_) | (have H2_ := (Option.bind_some _ _).symm.trans H; with_reducible exact H2_) | with_reducible exact H | (rw [hy318]; exact H) | exact H
    have Ny318 := Aside0.mk hy318
    clear hy318
    replace H := Option.bind_eq_some_iff.mp H
    obtain ⟨⟨t321, t322, t323⟩, A60, H⟩ := H
    replace H : ((spec_l1Cur_among.f l0 t322 t323 (([1, 10, 9990, 10000, 10001, 0] : List Int))).bind fun bt327 => (some (t307, wrap64 (t315 - 1), t321, bt327.1))) = some (r1, r2, r3, r4) := H
    have A6 := Aside0.mk A60
    clear A60
    obtain ⟨y324, hy324⟩ : ∃ y_ : List Int, y_ = (([1, 10, 9990, 10000, 10001, 0] : List Int)) := ⟨_, rfl⟩
    replace H : ((spec_l1Cur_among.f l0 t322 t323 y324).bind fun bt327 => (some (t307, wrap64 (t315 - 1), t321, bt327.1))) = some (r1, r2, r3, r4) := by first | (rw [hy324]; with_reducible exact H) | (have H2_ := (Option.bind_some _ _).symm.trans H; rw [hy324]; with_reducible exact H2_) | (have H2_ := (Option.bind_some _ _).symm.trans H; with_reducible exact H2_) | with_reducible exact H | (rw [hy324]; exact H) | exact H
    have Ny324 := Aside0.mk hy324
    clear hy324
    replace H := Option.bind_eq_some_iff.mp H
    obtain ⟨⟨t327, t328, t329⟩, A70, H⟩ := H
    replace H : (some (t307, wrap64 (t315 - 1), t321, t327)) = some (r1, r2, r3, r4) := H
    have A7 := Aside0.mk A70
    clear A70
    simp only [Option.some.injEq, Prod.mk.injEq] at H
    obtain ⟨rfl, rfl, rfl, rfl⟩ := H
    go_enter Try.func36, Try.ntmps36
    go_wp2_with (first | ((with_reducible refine gate_dst (N := 10) rfl ?_); refine box_event ?hg (N := 10) ?hd (cs := #[.slice A0 l0.length c0, .int .i64 0, .int .u64 0]) (t := 71) ?hr ?_; (case hd => rfl); (case hg => rfl); (case hr => first | (go_simp; done) | (go_simp; rfl)); intro gb306 hg w8 hbox hb; have n0_ := Aside0.mk (below_step (by repeat (first | (with_reducible first | exact HB.out | apply below_alloc | apply pw_below_drewN | apply below_drew1) | exact HB.out)) hb); have n1_ := Aside0.mk (hbox); have n2_ := Aside0.mk ((by rw [hg]; exact (below_size (by repeat (first | (with_reducible first | exact HB.out | apply below_alloc | apply pw_below_drewN | apply below_drew1) | exact HB.out))) : w.heap.size ≤ gb306)); have n3_ := Aside0.mk ((by rw [hg]; exact (below_size (by repeat (first | (with_reducible first | exact HB.out | apply below_alloc | apply pw_below_drewN | apply below_drew1) | exact HB.out))) : w.heap.size ≤ gb306)); clear HB; have HB := n0_; have BK306 := n1_; have GW306 := n2_; have GE306 := n3_; clear n0_ n1_ n2_ n3_; clear hb hbox hg) | ((with_reducible refine gate_callee (f := 59) rfl ?_); refine goesL_ (some 12) rfl rfl Try.func59 (by kernel_rfl) rfl #[.pointer (some ⟨gb306, 0, none⟩)] rfl (by (try simp only [List.map_toArray, List.map_cons, List.map_nil]); first | done | rfl | (simp only [List.length_drop, List.length_take]; rfl)) ?_; have HI306 := Aside0.mk (show IsS71 w w8 gb306 l0 0 0 from ⟨A0, c0, (by (with_reducible repeat (first | refine blk_drewN ?_ _ | refine blk_drew ?_ | refine blk_alloc ?_ _)); exact BK306.out), GE306.out, HR0.out⟩); (try clear BK306); (with_reducible refine (spec_l1Cur_books.calls k gb306 l0 0 0 t307 t310 t311 w _ ?side1 ?side2 A2.out).mono ?_); (case side1 => repeat (first | (with_reducible first | exact HI306.out | apply IsS71.alloc | apply IsS71.drewN | apply IsS71.drew | apply IsS71.set_1 | apply IsS71.set_2) | exact HI306.out)); (case side2 => repeat (first | (with_reducible first | exact HB.out | apply below_alloc | apply pw_below_drewN | apply below_drew1 | refine below_set ?_ (IsS71.ge HI306.out)) | exact HB.out)); rintro e w9 ⟨v308, rfl, ho0, hi, hb, hk⟩; refine ⟨_, rfl, ?_⟩; have n0_ := Aside0.mk (Kd.R_lower ho0 (below_size (by repeat (first | (with_reducible first | exact HB.out | apply below_alloc | apply pw_below_drewN | apply below_drew1 | refine below_set ?_ (IsS71.ge HI306.out)) | exact HB.out)))); have n1_ := Aside0.mk (hb); have n2_ := Aside0.mk (hi); clear HB; clear HI306; have HO309 := n0_; have HB := n1_; have HI306 := n2_; clear n0_ n1_ n2_; (try clear hb); (try clear hb2); (try clear hk); (try clear hi); (try clear ho0)) | ((with_reducible refine gate_callee (f := 43) rfl ?_); refine goesL_ (some 14) rfl rfl Try.func43 (by kernel_rfl) rfl #[.pointer (some ⟨gb306, 0, none⟩), .int .i64 12] rfl (by (try simp only [List.map_toArray, List.map_cons, List.map_nil]); first | done | rfl | (simp only [List.length_drop, List.length_take]; rfl)) ?_; (with_reducible refine (spec_l1Cur_one.calls gb306 l0 t310 t311 12 true t313 t314 w _ ?side1 ?side2 A3.out).mono ?_); (case side1 => repeat (first | (with_reducible first | exact HI306.out | apply IsS71.alloc | apply IsS71.drewN | apply IsS71.drew | apply IsS71.set_1 | apply IsS71.set_2) | exact HI306.out)); (case side2 => repeat (first | (with_reducible first | exact HB.out | apply below_alloc | apply pw_below_drewN | apply below_drew1 | refine below_set ?_ (IsS71.ge HI306.out)) | exact HB.out)); rintro e w10 ⟨rfl, hi, hb, hk⟩; refine ⟨_, rfl, ?_⟩; have n0_ := Aside0.mk (Kd.R_mono (Kd.R_keep (IsS71.apart (show IsS71 w _ gb306 l0 t310 t311 from by repeat (first | (with_reducible first | exact HI306.out | apply IsS71.alloc | apply IsS71.drewN | apply IsS71.drew | apply IsS71.set_1 | apply IsS71.set_2) | exact HI306.out)) (by (with_reducible repeat (first | apply Kd.R_alloc | apply Kd.R_drewN | apply Kd.R_drew)); exact HO309.out) (by decide)) hk (fun _ h => h.2)) (fun _ h => h.1)); have n1_ := Aside0.mk (hb); have n2_ := Aside0.mk (hi); clear HO309; clear HB; clear HI306; have HO309 := n0_; have HB := n1_; have HI306 := n2_; clear n0_ n1_ n2_; (try clear hb); (try clear hb2); (try clear hk); (try clear hi)) | ((with_reducible refine gate_callee (f := 44) rfl ?_); refine goesL_ (some 17) rfl rfl Try.func44 (by kernel_rfl) rfl #[.pointer (some ⟨gb306, 0, none⟩), .int .i64 12] rfl (by (try simp only [List.map_toArray, List.map_cons, List.map_nil]); first | done | rfl | (simp only [List.length_drop, List.length_take]; rfl)) ?_; (with_reducible refine (spec_l1Cur_pick.calls gb306 l0 t313 t314 12 t315 t316 t317 w _ ?side1 ?side2 A5.out).mono ?_); (case side1 => repeat (first | (with_reducible first | exact HI306.out | apply IsS71.alloc | apply IsS71.drewN | apply IsS71.drew | apply IsS71.set_1 | apply IsS71.set_2) | exact HI306.out)); (case side2 => repeat (first | (with_reducible first | exact HB.out | apply below_alloc | apply pw_below_drewN | apply below_drew1 | refine below_set ?_ (IsS71.ge HI306.out)) | exact HB.out)); rintro e w11 ⟨rfl, hi, hb, hk⟩; refine ⟨_, rfl, ?_⟩; have n0_ := Aside0.mk (Kd.R_mono (Kd.R_keep (IsS71.apart (show IsS71 w _ gb306 l0 t313 t314 from by repeat (first | (with_reducible first | exact HI306.out | apply IsS71.alloc | apply IsS71.drewN | apply IsS71.drew | apply IsS71.set_1 | apply IsS71.set_2) | exact HI306.out)) (by (with_reducible repeat (first | apply Kd.R_alloc | apply Kd.R_drewN | apply Kd.R_drew)); exact HO309.out) (by decide)) hk (fun _ h => h.2)) (fun _ h => h.1)); have n1_ := Aside0.mk (hb); have n2_ := Aside0.mk (hi); clear HO309; clear HB; clear HI306; have HO309 := n0_; have HB := n1_; have HI306 := n2_; clear n0_ n1_ n2_; (try clear hb); (try clear hb2); (try clear hk); (try clear hi)) | ((with_reducible refine gate_dst (N := 20) rfl ?_); refine Kd.R_lit (Kd.int .i64) _ 3 ?hg (N := 20) ?hd (xs := ([0, 9990, 10000, 10001, (-1)] : List Int)) (inner := [.int .i64 0, .int .i64 9990, .int .i64 10000, .int .i64 10001, .int .i64 (-1)]) (ok := fun _ => True) (okp := fun _ => True) ?hr ?hp (fun _ hk => hk) trivial (Below.refl _ _) (Nat.le_refl _) (by simp) ?_; (case hd => rfl); (case hg => rfl); (case hr => first | (go_simp; done) | (go_simp; rfl)); (case hp => exact (Reps.one (show Kd.M (Kd.int .i64) _ _ _ 0 [.int .i64 0] from rfl) (Reps.one (show Kd.M (Kd.int .i64) _ _ _ 9990 [.int .i64 9990] from rfl) (Reps.one (show Kd.M (Kd.int .i64) _ _ _ 10000 [.int .i64 10000] from rfl) (Reps.one (show Kd.M (Kd.int .i64) _ _ _ 10001 [.int .i64 10001] from rfl) (Reps.one (show Kd.M (Kd.int .i64) _ _ _ (-1) [.int .i64 (-1)] from rfl) (Reps.none _ _))))))); intro v319 w12 ho13 hb hg_ hnew_; clear hg_ hnew_; (first | rw [← Ny318.out] at ho13 | (simp only [Int.reduceToNat] at ho13; rw [← Ny318.out] at ho13)); have n0_ := Aside0.mk (Kd.R_below (by (with_reducible repeat (first | apply Kd.R_alloc | apply Kd.R_drewN | apply Kd.R_drew)); exact HO309.out) hb); have n1_ := Aside0.mk (Kd.R_lower ho13 (below_size (by repeat (first | (with_reducible first | exact HB.out | apply below_alloc | apply pw_below_drewN | apply below_drew1 | refine below_set ?_ (IsS71.ge HI306.out)) | exact HB.out)))); have n2_ := Aside0.mk (IsS71.below (by repeat (first | (with_reducible first | exact HI306.out | apply IsS71.alloc | apply IsS71.drewN | apply IsS71.drew | apply IsS71.set_1 | apply IsS71.set_2) | exact HI306.out)) hb); have n3_ := Aside0.mk (below_step (by repeat (first | (with_reducible first | exact HB.out | apply below_alloc | apply pw_below_drewN | apply below_drew1 | refine below_set ?_ (IsS71.ge HI306.out)) | exact HB.out)) hb); clear HO309; clear HI306; clear HB; have HO309 := n0_; have HO320 := n1_; have HI306 := n2_; have HB := n3_; clear n0_ n1_ n2_ n3_; clear hb ho13; obtain ⟨Ao14, co14, eo14⟩ := Kd.R_slice HO320.out; subst eo14) | ((with_reducible refine gate_callee (f := 45) rfl ?_); refine goesL_ (some 21) rfl rfl Try.func45 (by kernel_rfl) rfl #[.pointer (some ⟨gb306, 0, none⟩), .slice Ao14 y318.length co14] rfl (by (try simp only [List.map_toArray, List.map_cons, List.map_nil]); first | done | rfl | (simp only [List.length_drop, List.length_take]; rfl)) ?_; (with_reducible refine (spec_l1Cur_among.calls gb306 l0 t316 t317 _ _ y318 t321 t322 t323 w _ ?side1 ?side2 ?side3 ?side4 ?side5 A6.out).mono ?_); (case side1 => repeat (first | (with_reducible first | exact HI306.out | apply IsS71.alloc | apply IsS71.drewN | apply IsS71.drew | apply IsS71.set_1 | apply IsS71.set_2) | exact HI306.out)); (case side2 => repeat (first | (with_reducible first | exact HB.out | apply below_alloc | apply pw_below_drewN | apply below_drew1 | refine below_set ?_ (IsS71.ge HI306.out)) | exact HB.out)); (case side3 => repeat (first | exact (Kd.R_reads' HO320.out).2.2 | (with_reducible refine Kd.C_alloc ?_ _) | (with_reducible refine Kd.C_drewN ?_ _) | (with_reducible refine Kd.C_drew ?_))); (case side4 => exact (Kd.R_reads' HO320.out).2.1); (case side5 => exact far_slice (IsS71.own_ne HI306.out HO320.out (by decide))); rintro e w15 ⟨rfl, hi, hb, hk⟩; refine ⟨_, rfl, ?_⟩; have n0_ := Aside0.mk (Kd.R_mono (Kd.R_keep (IsS71.apart (show IsS71 w _ gb306 l0 t316 t317 from by repeat (first | (with_reducible first | exact HI306.out | apply IsS71.alloc | apply IsS71.drewN | apply IsS71.drew | apply IsS71.set_1 | apply IsS71.set_2) | exact HI306.out)) (by (with_reducible repeat (first | apply Kd.R_alloc | apply Kd.R_drewN | apply Kd.R_drew)); exact HO309.out) (by decide)) hk (fun _ h => h.2)) (fun _ h => h.1)); have n1_ := Aside0.mk (Kd.R_mono (Kd.R_keep (IsS71.apart (show IsS71 w _ gb306 l0 t316 t317 from by repeat (first | (with_reducible first | exact HI306.out | apply IsS71.alloc | apply IsS71.drewN | apply IsS71.drew | apply IsS71.set_1 | apply IsS71.set_2) | exact HI306.out)) (by (with_reducible repeat (first | apply Kd.R_alloc | apply Kd.R_drewN | apply Kd.R_drew)); exact HO320.out) (by decide)) hk (fun _ h => h.2)) (fun _ h => h.1)); have n2_ := Aside0.mk (hb); have n3_ := Aside0.mk (hi); clear HO309; clear HO320; clear HB; clear HI306; have HO309 := n0_; have HO320 := n1_; have HB := n2_; have HI306 := n3_; clear n0_ n1_ n2_ n3_; (try clear hb); (try clear hb2); (try clear hk); (try clear hi)) | ((with_reducible refine gate_dst (N := 23) rfl ?_); refine Kd.R_lit (Kd.int .i64) _ 3 ?hg (N := 23) ?hd (xs := ([1, 10, 9990, 10000, 10001, 0] : List Int)) (inner := [.int .i64 1, .int .i64 10, .int .i64 9990, .int .i64 10000, .int .i64 10001, .int .i64 0]) (ok := fun _ => True) (okp := fun _ => True) ?hr ?hp (fun _ hk => hk) trivial (Below.refl _ _) (Nat.le_refl _) (by simp) ?_; (case hd => rfl); (case hg => rfl); (case hr => first | (go_simp; done) | (go_simp; rfl)); (case hp => exact (Reps.one (show Kd.M (Kd.int .i64) _ _ _ 1 [.int .i64 1] from rfl) (Reps.one (show Kd.M (Kd.int .i64) _ _ _ 10 [.int .i64 10] from rfl) (Reps.one (show Kd.M (Kd.int .i64) _ _ _ 9990 [.int .i64 9990] from rfl) (Reps.one (show Kd.M (Kd.int .i64) _ _ _ 10000 [.int .i64 10000] from rfl) (Reps.one (show Kd.M (Kd.int .i64) _ _ _ 10001 [.int .i64 10001] from rfl) (Reps.one (show Kd.M (Kd.int .i64) _ _ _ 0 [.int .i64 0] from rfl) (Reps.none _ _)))))))); intro v325 w16 ho17 hb hg_ hnew_; clear hg_ hnew_; (first | rw [← Ny324.out] at ho17 | (simp only [Int.reduceToNat] at ho17; rw [← Ny324.out] at ho17)); have n0_ := Aside0.mk (Kd.R_below (by (with_reducible repeat (first | apply Kd.R_alloc | apply Kd.R_drewN | apply Kd.R_drew)); exact HO309.out) hb); have n1_ := Aside0.mk (Kd.R_elder' (by (with_reducible repeat (first | apply Kd.R_alloc | apply Kd.R_drewN | apply Kd.R_drew)); exact HO320.out) (Kd.R_base ho17) hb); have n2_ := Aside0.mk (Kd.R_lower (Kd.R_new' ho17 (Kd.R_lt (by (with_reducible repeat (first | apply Kd.R_alloc | apply Kd.R_drewN | apply Kd.R_drew)); exact HO320.out))) (below_size (by repeat (first | (with_reducible first | exact HB.out | apply below_alloc | apply pw_below_drewN | apply below_drew1 | refine below_set ?_ (IsS71.ge HI306.out)) | exact HB.out)))); have n3_ := Aside0.mk (IsS71.below (by repeat (first | (with_reducible first | exact HI306.out | apply IsS71.alloc | apply IsS71.drewN | apply IsS71.drew | apply IsS71.set_1 | apply IsS71.set_2) | exact HI306.out)) hb); have n4_ := Aside0.mk (below_step (by repeat (first | (with_reducible first | exact HB.out | apply below_alloc | apply pw_below_drewN | apply below_drew1 | refine below_set ?_ (IsS71.ge HI306.out)) | exact HB.out)) hb); clear HO309; clear HO320; clear HI306; clear HB; have HO309 := n0_; have HO320 := n1_; have HO326 := n2_; have HI306 := n3_; have HB := n4_; clear n0_ n1_ n2_ n3_ n4_; clear hb ho17; obtain ⟨Ao18, co18, eo18⟩ := Kd.R_slice HO326.out; subst eo18) | ((with_reducible refine gate_callee (f := 45) rfl ?_); refine goesL_ (some 24) rfl rfl Try.func45 (by kernel_rfl) rfl #[.pointer (some ⟨gb306, 0, none⟩), .slice Ao18 y324.length co18] rfl (by (try simp only [List.map_toArray, List.map_cons, List.map_nil]); first | done | rfl | (simp only [List.length_drop, List.length_take]; rfl)) ?_; (with_reducible refine (spec_l1Cur_among.calls gb306 l0 t322 t323 _ _ y324 t327 t328 t329 w _ ?side1 ?side2 ?side3 ?side4 ?side5 A7.out).mono ?_); (case side1 => repeat (first | (with_reducible first | exact HI306.out | apply IsS71.alloc | apply IsS71.drewN | apply IsS71.drew | apply IsS71.set_1 | apply IsS71.set_2) | exact HI306.out)); (case side2 => repeat (first | (with_reducible first | exact HB.out | apply below_alloc | apply pw_below_drewN | apply below_drew1 | refine below_set ?_ (IsS71.ge HI306.out)) | exact HB.out)); (case side3 => repeat (first | exact (Kd.R_reads' HO326.out).2.2 | (with_reducible refine Kd.C_alloc ?_ _) | (with_reducible refine Kd.C_drewN ?_ _) | (with_reducible refine Kd.C_drew ?_))); (case side4 => exact (Kd.R_reads' HO326.out).2.1); (case side5 => exact far_slice (IsS71.own_ne HI306.out HO326.out (by decide))); rintro e w19 ⟨rfl, hi, hb, hk⟩; refine ⟨_, rfl, ?_⟩; have n0_ := Aside0.mk (Kd.R_mono (Kd.R_keep (IsS71.apart (show IsS71 w _ gb306 l0 t322 t323 from by repeat (first | (with_reducible first | exact HI306.out | apply IsS71.alloc | apply IsS71.drewN | apply IsS71.drew | apply IsS71.set_1 | apply IsS71.set_2) | exact HI306.out)) (by (with_reducible repeat (first | apply Kd.R_alloc | apply Kd.R_drewN | apply Kd.R_drew)); exact HO309.out) (by decide)) hk (fun _ h => h.2)) (fun _ h => h.1)); have n1_ := Aside0.mk (Kd.R_mono (Kd.R_keep (IsS71.apart (show IsS71 w _ gb306 l0 t322 t323 from by repeat (first | (with_reducible first | exact HI306.out | apply IsS71.alloc | apply IsS71.drewN | apply IsS71.drew | apply IsS71.set_1 | apply IsS71.set_2) | exact HI306.out)) (by (with_reducible repeat (first | apply Kd.R_alloc | apply Kd.R_drewN | apply Kd.R_drew)); exact HO320.out) (by decide)) hk (fun _ h => h.2)) (fun _ h => h.1)); have n2_ := Aside0.mk (Kd.R_mono (Kd.R_keep (IsS71.apart (show IsS71 w _ gb306 l0 t322 t323 from by repeat (first | (with_reducible first | exact HI306.out | apply IsS71.alloc | apply IsS71.drewN | apply IsS71.drew | apply IsS71.set_1 | apply IsS71.set_2) | exact HI306.out)) (by (with_reducible repeat (first | apply Kd.R_alloc | apply Kd.R_drewN | apply Kd.R_drew)); exact HO326.out) (by decide)) hk (fun _ h => h.2)) (fun _ h => h.1)); have n3_ := Aside0.mk (hb); have n4_ := Aside0.mk (hi); clear HO309; clear HO320; clear HO326; clear HB; clear HI306; have HO309 := n0_; have HO320 := n1_; have HO326 := n2_; have HB := n3_; have HI306 := n4_; clear n0_ n1_ n2_ n3_ n4_; (try clear hb); (try clear hb2); (try clear hk); (try clear hi)))
    refine bodyPost_ret (results_list (rs := [.tmp 2, .tmp 3, .tmp 4, .tmp 5]) rfl (by simp) (.tmp (.tmp (.tmp (.tmp .nil))))) rfl ?_
    exact ⟨_, by first | rfl | (simp [errW_none, errW_some] <;> rfl) | (simp [*, errW_none, errW_some] <;> rfl), by (with_reducible repeat (first | apply Kd.R_alloc | apply Kd.R_drewN | apply Kd.R_drew)); exact HO309.out, by repeat (first | (with_reducible first | exact HB.out | apply below_alloc | apply pw_below_drewN | apply below_drew1 | refine below_set ?_ (IsS71.ge HI306.out)) | exact HB.out)⟩
  · replace c4 := Bool.eq_false_iff.mpr c4
    subst c4
    have H1 : ((spec_l1Cur_pick.f l0 t313 t314 4).bind fun bt330 => ((spec_l1Cur_pick.f l0 bt330.2.1 bt330.2.2 30).bind fun bt333 => ((spec_l1Cur_pick.f l0 bt333.2.1 bt333.2.2 8).bind fun bt336 => (some (t307, bt330.1, bt333.1, wrap64 (1 + bt336.1)))))) = some (r1, r2, r3, r4) := by rw [if_neg (show ¬ (false = true) by decide)] at H; exact H
    clear H
    have H := H1
    clear H1
    replace H := Option.bind_eq_some_iff.mp H
    obtain ⟨⟨t330, t331, t332⟩, A200, H⟩ := H
    replace H : ((spec_l1Cur_pick.f l0 t331 t332 30).bind fun bt333 => ((spec_l1Cur_pick.f l0 bt333.2.1 bt333.2.2 8).bind fun bt336 => (some (t307, t330, bt333.1, wrap64 (1 + bt336.1))))) = some (r1, r2, r3, r4) := H
    have A20 := Aside0.mk A200
    clear A200
    replace H := Option.bind_eq_some_iff.mp H
    obtain ⟨⟨t333, t334, t335⟩, A210, H⟩ := H
    replace H : ((spec_l1Cur_pick.f l0 t334 t335 8).bind fun bt336 => (some (t307, t330, t333, wrap64 (1 + bt336.1)))) = some (r1, r2, r3, r4) := H
    have A21 := Aside0.mk A210
    clear A210
    replace H := Option.bind_eq_some_iff.mp H
    obtain ⟨⟨t336, t337, t338⟩, A220, H⟩ := H
    replace H : (some (t307, t330, t333, wrap64 (1 + t336))) = some (r1, r2, r3, r4) := H
    have A22 := Aside0.mk A220
    clear A220
    simp only [Option.some.injEq, Prod.mk.injEq] at H
    obtain ⟨rfl, rfl, rfl, rfl⟩ := H
    go_enter Try.func36, Try.ntmps36
    go_wp2_with (first | ((with_reducible refine gate_dst (N := 10) rfl ?_); refine box_event ?hg (N := 10) ?hd (cs := #[.slice A0 l0.length c0, .int .i64 0, .int .u64 0]) (t := 71) ?hr ?_; (case hd => rfl); (case hg => rfl); (case hr => first | (go_simp; done) | (go_simp; rfl)); intro gb306 hg w23 hbox hb; have n0_ := Aside0.mk (below_step (by repeat (first | (with_reducible first | exact HB.out | apply below_alloc | apply pw_below_drewN | apply below_drew1) | exact HB.out)) hb); have n1_ := Aside0.mk (hbox); have n2_ := Aside0.mk ((by rw [hg]; exact (below_size (by repeat (first | (with_reducible first | exact HB.out | apply below_alloc | apply pw_below_drewN | apply below_drew1) | exact HB.out))) : w.heap.size ≤ gb306)); have n3_ := Aside0.mk ((by rw [hg]; exact (below_size (by repeat (first | (with_reducible first | exact HB.out | apply below_alloc | apply pw_below_drewN | apply below_drew1) | exact HB.out))) : w.heap.size ≤ gb306)); clear HB; have HB := n0_; have BK306 := n1_; have GW306 := n2_; have GE306 := n3_; clear n0_ n1_ n2_ n3_; clear hb hbox hg) | ((with_reducible refine gate_callee (f := 59) rfl ?_); refine goesL_ (some 12) rfl rfl Try.func59 (by kernel_rfl) rfl #[.pointer (some ⟨gb306, 0, none⟩)] rfl (by (try simp only [List.map_toArray, List.map_cons, List.map_nil]); first | done | rfl | (simp only [List.length_drop, List.length_take]; rfl)) ?_; have HI306 := Aside0.mk (show IsS71 w w23 gb306 l0 0 0 from ⟨A0, c0, (by (with_reducible repeat (first | refine blk_drewN ?_ _ | refine blk_drew ?_ | refine blk_alloc ?_ _)); exact BK306.out), GE306.out, HR0.out⟩); (try clear BK306); (with_reducible refine (spec_l1Cur_books.calls k gb306 l0 0 0 t307 t310 t311 w _ ?side1 ?side2 A2.out).mono ?_); (case side1 => repeat (first | (with_reducible first | exact HI306.out | apply IsS71.alloc | apply IsS71.drewN | apply IsS71.drew | apply IsS71.set_1 | apply IsS71.set_2) | exact HI306.out)); (case side2 => repeat (first | (with_reducible first | exact HB.out | apply below_alloc | apply pw_below_drewN | apply below_drew1 | refine below_set ?_ (IsS71.ge HI306.out)) | exact HB.out)); rintro e w24 ⟨v308, rfl, ho0, hi, hb, hk⟩; refine ⟨_, rfl, ?_⟩; have n0_ := Aside0.mk (Kd.R_lower ho0 (below_size (by repeat (first | (with_reducible first | exact HB.out | apply below_alloc | apply pw_below_drewN | apply below_drew1 | refine below_set ?_ (IsS71.ge HI306.out)) | exact HB.out)))); have n1_ := Aside0.mk (hb); have n2_ := Aside0.mk (hi); clear HB; clear HI306; have HO309 := n0_; have HB := n1_; have HI306 := n2_; clear n0_ n1_ n2_; (try clear hb); (try clear hb2); (try clear hk); (try clear hi); (try clear ho0)) | ((with_reducible refine gate_callee (f := 43) rfl ?_); refine goesL_ (some 14) rfl rfl Try.func43 (by kernel_rfl) rfl #[.pointer (some ⟨gb306, 0, none⟩), .int .i64 12] rfl (by (try simp only [List.map_toArray, List.map_cons, List.map_nil]); first | done | rfl | (simp only [List.length_drop, List.length_take]; rfl)) ?_; (with_reducible refine (spec_l1Cur_one.calls gb306 l0 t310 t311 12 false t313 t314 w _ ?side1 ?side2 A3.out).mono ?_); (case side1 => repeat (first | (with_reducible first | exact HI306.out | apply IsS71.alloc | apply IsS71.drewN | apply IsS71.drew | apply IsS71.set_1 | apply IsS71.set_2) | exact HI306.out)); (case side2 => repeat (first | (with_reducible first | exact HB.out | apply below_alloc | apply pw_below_drewN | apply below_drew1 | refine below_set ?_ (IsS71.ge HI306.out)) | exact HB.out)); rintro e w25 ⟨rfl, hi, hb, hk⟩; refine ⟨_, rfl, ?_⟩; have n0_ := Aside0.mk (Kd.R_mono (Kd.R_keep (IsS71.apart (show IsS71 w _ gb306 l0 t310 t311 from by repeat (first | (with_reducible first | exact HI306.out | apply IsS71.alloc | apply IsS71.drewN | apply IsS71.drew | apply IsS71.set_1 | apply IsS71.set_2) | exact HI306.out)) (by (with_reducible repeat (first | apply Kd.R_alloc | apply Kd.R_drewN | apply Kd.R_drew)); exact HO309.out) (by decide)) hk (fun _ h => h.2)) (fun _ h => h.1)); have n1_ := Aside0.mk (hb); have n2_ := Aside0.mk (hi); clear HO309; clear HB; clear HI306; have HO309 := n0_; have HB := n1_; have HI306 := n2_; clear n0_ n1_ n2_; (try clear hb); (try clear hb2); (try clear hk); (try clear hi)) | ((with_reducible refine gate_callee (f := 44) rfl ?_); refine goesL_ (some 27) rfl rfl Try.func44 (by kernel_rfl) rfl #[.pointer (some ⟨gb306, 0, none⟩), .int .i64 4] rfl (by (try simp only [List.map_toArray, List.map_cons, List.map_nil]); first | done | rfl | (simp only [List.length_drop, List.length_take]; rfl)) ?_; (with_reducible refine (spec_l1Cur_pick.calls gb306 l0 t313 t314 4 t330 t331 t332 w _ ?side1 ?side2 A20.out).mono ?_); (case side1 => repeat (first | (with_reducible first | exact HI306.out | apply IsS71.alloc | apply IsS71.drewN | apply IsS71.drew | apply IsS71.set_1 | apply IsS71.set_2) | exact HI306.out)); (case side2 => repeat (first | (with_reducible first | exact HB.out | apply below_alloc | apply pw_below_drewN | apply below_drew1 | refine below_set ?_ (IsS71.ge HI306.out)) | exact HB.out)); rintro e w26 ⟨rfl, hi, hb, hk⟩; refine ⟨_, rfl, ?_⟩; have n0_ := Aside0.mk (Kd.R_mono (Kd.R_keep (IsS71.apart (show IsS71 w _ gb306 l0 t313 t314 from by repeat (first | (with_reducible first | exact HI306.out | apply IsS71.alloc | apply IsS71.drewN | apply IsS71.drew | apply IsS71.set_1 | apply IsS71.set_2) | exact HI306.out)) (by (with_reducible repeat (first | apply Kd.R_alloc | apply Kd.R_drewN | apply Kd.R_drew)); exact HO309.out) (by decide)) hk (fun _ h => h.2)) (fun _ h => h.1)); have n1_ := Aside0.mk (hb); have n2_ := Aside0.mk (hi); clear HO309; clear HB; clear HI306; have HO309 := n0_; have HB := n1_; have HI306 := n2_; clear n0_ n1_ n2_; (try clear hb); (try clear hb2); (try clear hk); (try clear hi)) | ((with_reducible refine gate_callee (f := 44) rfl ?_); refine goesL_ (some 29) rfl rfl Try.func44 (by kernel_rfl) rfl #[.pointer (some ⟨gb306, 0, none⟩), .int .i64 30] rfl (by (try simp only [List.map_toArray, List.map_cons, List.map_nil]); first | done | rfl | (simp only [List.length_drop, List.length_take]; rfl)) ?_; (with_reducible refine (spec_l1Cur_pick.calls gb306 l0 t331 t332 30 t333 t334 t335 w _ ?side1 ?side2 A21.out).mono ?_); (case side1 => repeat (first | (with_reducible first | exact HI306.out | apply IsS71.alloc | apply IsS71.drewN | apply IsS71.drew | apply IsS71.set_1 | apply IsS71.set_2) | exact HI306.out)); (case side2 => repeat (first | (with_reducible first | exact HB.out | apply below_alloc | apply pw_below_drewN | apply below_drew1 | refine below_set ?_ (IsS71.ge HI306.out)) | exact HB.out)); rintro e w27 ⟨rfl, hi, hb, hk⟩; refine ⟨_, rfl, ?_⟩; have n0_ := Aside0.mk (Kd.R_mono (Kd.R_keep (IsS71.apart (show IsS71 w _ gb306 l0 t331 t332 from by repeat (first | (with_reducible first | exact HI306.out | apply IsS71.alloc | apply IsS71.drewN | apply IsS71.drew | apply IsS71.set_1 | apply IsS71.set_2) | exact HI306.out)) (by (with_reducible repeat (first | apply Kd.R_alloc | apply Kd.R_drewN | apply Kd.R_drew)); exact HO309.out) (by decide)) hk (fun _ h => h.2)) (fun _ h => h.1)); have n1_ := Aside0.mk (hb); have n2_ := Aside0.mk (hi); clear HO309; clear HB; clear HI306; have HO309 := n0_; have HB := n1_; have HI306 := n2_; clear n0_ n1_ n2_; (try clear hb); (try clear hb2); (try clear hk); (try clear hi)) | ((with_reducible refine gate_callee (f := 44) rfl ?_); refine goesL_ (some 31) rfl rfl Try.func44 (by kernel_rfl) rfl #[.pointer (some ⟨gb306, 0, none⟩), .int .i64 8] rfl (by (try simp only [List.map_toArray, List.map_cons, List.map_nil]); first | done | rfl | (simp only [List.length_drop, List.length_take]; rfl)) ?_; (with_reducible refine (spec_l1Cur_pick.calls gb306 l0 t334 t335 8 t336 t337 t338 w _ ?side1 ?side2 A22.out).mono ?_); (case side1 => repeat (first | (with_reducible first | exact HI306.out | apply IsS71.alloc | apply IsS71.drewN | apply IsS71.drew | apply IsS71.set_1 | apply IsS71.set_2) | exact HI306.out)); (case side2 => repeat (first | (with_reducible first | exact HB.out | apply below_alloc | apply pw_below_drewN | apply below_drew1 | refine below_set ?_ (IsS71.ge HI306.out)) | exact HB.out)); rintro e w28 ⟨rfl, hi, hb, hk⟩; refine ⟨_, rfl, ?_⟩; have n0_ := Aside0.mk (Kd.R_mono (Kd.R_keep (IsS71.apart (show IsS71 w _ gb306 l0 t334 t335 from by repeat (first | (with_reducible first | exact HI306.out | apply IsS71.alloc | apply IsS71.drewN | apply IsS71.drew | apply IsS71.set_1 | apply IsS71.set_2) | exact HI306.out)) (by (with_reducible repeat (first | apply Kd.R_alloc | apply Kd.R_drewN | apply Kd.R_drew)); exact HO309.out) (by decide)) hk (fun _ h => h.2)) (fun _ h => h.1)); have n1_ := Aside0.mk (hb); have n2_ := Aside0.mk (hi); clear HO309; clear HB; clear HI306; have HO309 := n0_; have HB := n1_; have HI306 := n2_; clear n0_ n1_ n2_; (try clear hb); (try clear hb2); (try clear hk); (try clear hi)))
    refine bodyPost_ret (results_list (rs := [.tmp 2, .tmp 3, .tmp 4, .tmp 5]) rfl (by simp) (.tmp (.tmp (.tmp (.tmp .nil))))) rfl ?_
    exact ⟨_, by first | rfl | (simp [errW_none, errW_some] <;> rfl) | (simp [*, errW_none, errW_some] <;> rfl), by (with_reducible repeat (first | apply Kd.R_alloc | apply Kd.R_drewN | apply Kd.R_drew)); exact HO309.out, by repeat (first | (with_reducible first | exact HB.out | apply below_alloc | apply pw_below_drewN | apply below_drew1 | refine below_set ?_ (IsS71.ge HI306.out)) | exact HB.out)⟩

end Go.Proofs.Ytlhncdbflldmeaa.PFnBooks
