-- Written by this session's own program for the law FnExactTalkAll; it began as the print's text.
import Derived.Test.YtmlejakajcmbdaaQFnExactTalkAllx0
import Derived.Test.YtmlejakajcmbdaaQFnExactTalkAllx1
namespace Go.Proofs.Ytmlejakajcmbdaa.PFnExactTalkAll
open Go.RowKit Go.Proofs.YtmlejakajcmbdaaW.PrintWords Go.Proofs.YtmlejakajcmbdaaW.PrintLast Go.Proofs.YtmlejakajcmbdaaW.PrintMore
attribute [local go_sem] max2_int min2_int max_two min_two max_three min_three max_four min_four   -- for this text's walks alone
set_option linter.unusedVariables false
set_option linter.unusedSimpArgs false

/-! ### spec_SendNext: function 30 -/
def spec_SendNext.j0 : Nat → Int → Bool → List Int → Int → Int → Option (Int × Int × List Int × Int × Int × Bool)
  | 0, _, _, _, _, _ => none
  | k + 1, x1, x28, x122000, x122001, x122002 => if x28 = true then (some (0, 0, ([] : List Int), 0, 0, false)) else (if (wrap64 ((x122000.length : Int) - x122001)) > x1 then (if x1 = 0 then (none) else (if (wrap64 (x122002 + 1)) ≥ 30 then (if 0 ≤ (wrap64 (x122001 + (Int.tmod x122002 x1))) then (if (wrap64 (x122001 + (Int.tmod x122002 x1))) < (x122000.length : Int) then ((some (([] : List Int) : List Int)).bind fun y127 => (if y127.length + x122000.length < 17592186044416 then (some (wrap64 (x122001 + (Int.tmod x122002 x1)), rd x122000 (wrap64 (x122001 + (Int.tmod x122002 x1))), (y127 ++ x122000), x122001, 0, true)) else (none))) else (none)) else (none)) else (if 0 ≤ (wrap64 (x122001 + (Int.tmod x122002 x1))) then (if (wrap64 (x122001 + (Int.tmod x122002 x1))) < (x122000.length : Int) then ((some (([] : List Int) : List Int)).bind fun y135 => (if y135.length + x122000.length < 17592186044416 then (some (wrap64 (x122001 + (Int.tmod x122002 x1)), rd x122000 (wrap64 (x122001 + (Int.tmod x122002 x1))), (y135 ++ x122000), x122001, wrap64 (x122002 + 1), true)) else (none))) else (none)) else (none)))) else (if (wrap64 ((x122000.length : Int) - x122001)) = 0 then (none) else (if (wrap64 (x122002 + 1)) ≥ 30 then (if 0 ≤ (wrap64 (x122001 + (Int.tmod x122002 (wrap64 ((x122000.length : Int) - x122001))))) then (if (wrap64 (x122001 + (Int.tmod x122002 (wrap64 ((x122000.length : Int) - x122001))))) < (x122000.length : Int) then ((some (([] : List Int) : List Int)).bind fun y143 => (if y143.length + x122000.length < 17592186044416 then (some (wrap64 (x122001 + (Int.tmod x122002 (wrap64 ((x122000.length : Int) - x122001)))), rd x122000 (wrap64 (x122001 + (Int.tmod x122002 (wrap64 ((x122000.length : Int) - x122001))))), (y143 ++ x122000), x122001, 0, true)) else (none))) else (none)) else (none)) else (if 0 ≤ (wrap64 (x122001 + (Int.tmod x122002 (wrap64 ((x122000.length : Int) - x122001))))) then (if (wrap64 (x122001 + (Int.tmod x122002 (wrap64 ((x122000.length : Int) - x122001))))) < (x122000.length : Int) then ((some (([] : List Int) : List Int)).bind fun y151 => (if y151.length + x122000.length < 17592186044416 then (some (wrap64 (x122001 + (Int.tmod x122002 (wrap64 ((x122000.length : Int) - x122001)))), rd x122000 (wrap64 (x122001 + (Int.tmod x122002 (wrap64 ((x122000.length : Int) - x122001))))), (y151 ++ x122000), x122001, wrap64 (x122002 + 1), true)) else (none))) else (none)) else (none)))))
def spec_SendNext.f (k : Nat) (l0_0 : List Int) (a0_1 : Int) (a0_2 : Int) (a1 : Int) : Option (Int × Int × List Int × Int × Int × Bool) := (spec_l24Sender.f l0_0 a0_1 a0_2).bind fun t124 => (if t124 = true then (if a0_1 = (l0_0.length : Int) then (spec_SendNext.j0 k a1 true l0_0 a0_1 a0_2) else (if a1 < 1 then (spec_SendNext.j0 k a1 true l0_0 a0_1 a0_2) else (spec_SendNext.j0 k a1 (decide (a1 > 10)) l0_0 a0_1 a0_2))) else (spec_SendNext.j0 k a1 true l0_0 a0_1 a0_2))
theorem spec_SendNext.mono_l : ∀ k, (∀ y0 y1 y2 y3 y4, LeO (spec_SendNext.j0 k y0 y1 y2 y3 y4) (spec_SendNext.j0 (k + 1) y0 y1 y2 y3 y4))
  | 0 => fun _ _ _ _ _ r h => by simp [spec_SendNext.j0] at h
  | k + 1 => by
    have ih0 := spec_SendNext.mono_l k
    · intro y0 y1 y2 y3 y4
      unfold spec_SendNext.j0
      repeat' first
      | (with_reducible exact ih0 _ _ _ _ _)
      | (with_reducible exact LeO.refl _)
      | (with_reducible exact LeO.none _)
      | (with_reducible refine LeO.ite ?_ ?_)
      | (with_reducible refine LeO.bind ?_ (fun _ => ?_))
      | exact ih0 _ _ _ _ _
      | exact LeO.none _
      | refine LeO.ite ?_ ?_
      | refine LeO.bind ?_ (fun _ => ?_)
theorem spec_SendNext.mono : ∀ a0 a1 a2 a3 k, LeO (spec_SendNext.f k a0 a1 a2 a3) (spec_SendNext.f (k + 1) a0 a1 a2 a3) := by
  intro a0 a1 a2 a3 k
  have ih0 := spec_SendNext.mono_l k
  unfold spec_SendNext.f
  repeat' first
      | (with_reducible exact ih0 _ _ _ _ _)
      | (with_reducible exact LeO.refl _)
      | (with_reducible exact LeO.none _)
      | (with_reducible refine LeO.ite ?_ ?_)
      | (with_reducible refine LeO.bind ?_ (fun _ => ?_))
      | exact ih0 _ _ _ _ _
      | exact LeO.none _
      | refine LeO.ite ?_ ?_
      | refine LeO.bind ?_ (fun _ => ?_)
def spec_SendNext.T6 : Bool × List (List Nat × List Nat) := (true, [([], []), ([0], [0]), ([], []), ([2], [2]), ([], []), ([3, 4], [3, 4]), ([1, 5], [1, 5]), ([6, 0, 1, 2, 3, 4, 5, 6], [6])])
def spec_SendNext.B6 : List Nat := [0, 1, 0, 4, 0, 28, 63, 127]
theorem spec_SendNext.tab6 : rtab .any (opsOf Try.f30 6) = spec_SendNext.T6 := by kernel_rfl
theorem spec_SendNext.bits6 : waitsOk spec_SendNext.T6.2 spec_SendNext.B6 = true := by kernel_rfl
set_option maxHeartbeats 8000000 in
set_option maxRecDepth 100000 in
theorem spec_SendNext.calls (k : Nat) (A0_0 : Option Addr) (c0_0 : Nat) (l0_0 : List Int) (a0_1 : Int) (a0_2 : Int) (a1 : Int) (r1 : Int) (r2 : Int) (r3 : List Int) (r4 : Int) (r5 : Int) (r6 : Bool) (w : World) (hr0_0 : Kd.C (Kd.int .i64) w A0_0 l0_0.length l0_0) (hc0_0 : l0_0.length ≤ c0_0) (h : spec_SendNext.f k l0_0 a0_1 a0_2 a1 = some (r1, r2, r3, r4, r5, r6)) :
    Calls Try.prog 30 #[.agg #[.slice A0_0 l0_0.length c0_0, .int .i64 a0_1, .int .i64 a0_2], .int .i64 a1] w fun e w' => ∃ v2_ : Value, e = .returned (.tuple #[.agg #[.int .i64 r1, .int .i64 r2], .agg #[v2_, .int .i64 r4, .int .i64 r5], .bool r6]) ∧ Kd.R (Kd.int .i64) 3 w' w.heap.size (fun _ => True) v2_ r3 ∧ Below w.heap.size w w' := by
  have hu55 := Try.underlying55
  have hu54 := Try.underlying54
  have HR0_0 := Aside0.mk hr0_0
  have HC0_0 := Aside0.mk hc0_0
  clear hr0_0 hc0_0
  have HB := Aside0.mk (Below.refl w.heap.size w)
  have H : ((spec_l24Sender.f l0_0 a0_1 a0_2).bind fun t124 => (if t124 = true then (if a0_1 = (l0_0.length : Int) then (spec_SendNext.j0 k a1 true l0_0 a0_1 a0_2) else (if a1 < 1 then (spec_SendNext.j0 k a1 true l0_0 a0_1 a0_2) else (spec_SendNext.j0 k a1 (decide (a1 > 10)) l0_0 a0_1 a0_2))) else (spec_SendNext.j0 k a1 true l0_0 a0_1 a0_2))) = some (r1, r2, r3, r4, r5, r6) := h
  clear h
  have HC3 := Aside0.mk H
  clear H
  go_enter Try.func30, Try.ntmps30
  go_upto_region 1 with (first | ((with_reducible refine gate_dst (N := 2) rfl ?_); (try (refine gate_guard (by rfl) ?_; dsimp only)); refine box_event ?hg (N := 2) ?hd (cs := #[.slice A0_0 l0_0.length c0_0, .int .i64 a0_1, .int .i64 a0_2]) (t := 55) ?hr ?_; (case hd => rfl); (case hg => rfl); (case hr => first | (go_simp; done) | (go_simp; rfl)); intro gb121 hg w4 hbox hb; have n0_ := Aside0.mk (below_step (by repeat (first | (with_reducible first | exact HB.out | apply below_alloc | apply pw_below_drewN | apply below_drew1) | exact HB.out)) hb); have n1_ := Aside0.mk (hbox); have n2_ := Aside0.mk ((by rw [hg]; exact (below_size (by repeat (first | (with_reducible first | exact HB.out | apply below_alloc | apply pw_below_drewN | apply below_drew1) | exact HB.out))) : w.heap.size ≤ gb121)); have n3_ := Aside0.mk ((by rw [hg]; exact (below_size (by repeat (first | (with_reducible first | exact HB.out | apply below_alloc | apply pw_below_drewN | apply below_drew1) | exact HB.out))) : w.heap.size ≤ gb121)); clear HB; have HB := n0_; have BK121 := n1_; have GW121 := n2_; have GE121 := n3_; clear n0_ n1_ n2_ n3_; clear hb hbox hg) | ((with_reducible refine gate_dst (N := 4) rfl ?_); (try (refine gate_guard (by rfl) ?_; dsimp only)); refine box_event ?hg (N := 4) ?hd (cs := #[.int .i64 0, .int .i64 0]) (t := 54) ?hr ?_; (case hd => rfl); (case hg => rfl); (case hr => first | (go_simp; done) | (go_simp; rfl)); intro gb122 hg w5 hbox hb; have n0_ := Aside0.mk (blk_below (g := gb121) (o := .cells #[.slice A0_0 l0_0.length c0_0, .int .i64 a0_1, .int .i64 a0_2] 55 (0, 0)) BK121.out hb); have n1_ := Aside0.mk (below_step (by repeat (first | (with_reducible first | exact HB.out | apply below_alloc | apply pw_below_drewN | apply below_drew1 | refine below_set ?_ GE121.out) | exact HB.out)) hb); have n2_ := Aside0.mk (hbox); have n3_ := Aside0.mk ((by rw [hg]; exact (below_size (by repeat (first | (with_reducible first | exact HB.out | apply below_alloc | apply pw_below_drewN | apply below_drew1 | refine below_set ?_ GE121.out) | exact HB.out))) : w.heap.size ≤ gb122)); have n4_ := Aside0.mk ((by rw [hg]; exact (below_size (by repeat (first | (with_reducible first | exact HB.out | apply below_alloc | apply pw_below_drewN | apply below_drew1 | refine below_set ?_ GE121.out) | exact HB.out))) : w.heap.size ≤ gb122)); have n5_ := Aside0.mk ((by rw [hg]; exact Nat.ne_of_lt (blk_lt (g := gb121) (o := .cells #[.slice A0_0 l0_0.length c0_0, .int .i64 a0_1, .int .i64 a0_2] 55 (0, 0)) BK121.out) : gb121 ≠ gb122)); have n6_ := Aside0.mk ((by rw [hg]; exact Nat.ne_of_gt (blk_lt (g := gb121) (o := .cells #[.slice A0_0 l0_0.length c0_0, .int .i64 a0_1, .int .i64 a0_2] 55 (0, 0)) BK121.out) : gb122 ≠ gb121)); clear BK121; clear HB; have BK121 := n0_; have HB := n1_; have BK122 := n2_; have GW122 := n3_; have GE122 := n4_; have NB121_122 := n5_; have NB122_121 := n6_; clear n0_ n1_ n2_ n3_ n4_ n5_ n6_; clear hb hbox hg) | ((with_reducible refine gate_dst (N := 5) rfl ?_); (try (refine gate_guard (by rfl) ?_; dsimp only)); refine box_event ?hg (N := 5) ?hd (cs := #[.slice none 0 0, .int .i64 0, .int .i64 0]) (t := 55) ?hr ?_; (case hd => rfl); (case hg => rfl); (case hr => first | (go_simp; done) | (go_simp; rfl)); intro gb123 hg w6 hbox hb; have n0_ := Aside0.mk (blk_below (g := gb121) (o := .cells #[.slice A0_0 l0_0.length c0_0, .int .i64 a0_1, .int .i64 a0_2] 55 (0, 0)) BK121.out hb); have n1_ := Aside0.mk (blk_below (g := gb122) (o := .cells #[.int .i64 0, .int .i64 0] 54 (0, 0)) BK122.out hb); have n2_ := Aside0.mk (below_step (by repeat (first | (with_reducible first | exact HB.out | apply below_alloc | apply pw_below_drewN | apply below_drew1 | refine below_set ?_ GE121.out | refine below_set ?_ GE122.out) | exact HB.out)) hb); have n3_ := Aside0.mk (hbox); have n4_ := Aside0.mk ((by rw [hg]; exact (below_size (by repeat (first | (with_reducible first | exact HB.out | apply below_alloc | apply pw_below_drewN | apply below_drew1 | refine below_set ?_ GE121.out | refine below_set ?_ GE122.out) | exact HB.out))) : w.heap.size ≤ gb123)); have n5_ := Aside0.mk ((by rw [hg]; exact (below_size (by repeat (first | (with_reducible first | exact HB.out | apply below_alloc | apply pw_below_drewN | apply below_drew1 | refine below_set ?_ GE121.out | refine below_set ?_ GE122.out) | exact HB.out))) : w.heap.size ≤ gb123)); have n6_ := Aside0.mk ((by rw [hg]; exact Nat.ne_of_lt (blk_lt (g := gb121) (o := .cells #[.slice A0_0 l0_0.length c0_0, .int .i64 a0_1, .int .i64 a0_2] 55 (0, 0)) BK121.out) : gb121 ≠ gb123)); have n7_ := Aside0.mk ((by rw [hg]; exact Nat.ne_of_gt (blk_lt (g := gb121) (o := .cells #[.slice A0_0 l0_0.length c0_0, .int .i64 a0_1, .int .i64 a0_2] 55 (0, 0)) BK121.out) : gb123 ≠ gb121)); have n8_ := Aside0.mk ((by rw [hg]; exact Nat.ne_of_lt (blk_lt (g := gb122) (o := .cells #[.int .i64 0, .int .i64 0] 54 (0, 0)) BK122.out) : gb122 ≠ gb123)); have n9_ := Aside0.mk ((by rw [hg]; exact Nat.ne_of_gt (blk_lt (g := gb122) (o := .cells #[.int .i64 0, .int .i64 0] 54 (0, 0)) BK122.out) : gb123 ≠ gb122)); clear BK121; clear BK122; clear HB; have BK121 := n0_; have BK122 := n1_; have HB := n2_; have BK123 := n3_; have GW123 := n4_; have GE123 := n5_; have NB121_123 := n6_; have NB123_121 := n7_; have NB122_123 := n8_; have NB123_122 := n9_; clear n0_ n1_ n2_ n3_ n4_ n5_ n6_ n7_ n8_ n9_; clear hb hbox hg))
  (try simp only [Act.put, List.setIfInBounds_toArray, List.set_cons_zero, List.set_cons_succ])
  go_cut [28] (fun v28 wc => ∃ (kq : Nat) (x28_2 : Bool), v28 = .bool x28_2 ∧ Aside0 (spec_SendNext.j0 kq a1 x28_2 l0_0 a0_1 a0_2 = some (r1, r2, r3, r4, r5, r6)) ∧ Aside0 (kq ≤ k) ∧ Aside0 (wc.heap[gb121]? = some (.cells #[(.slice A0_0 l0_0.length c0_0), .int .i64 a0_1, .int .i64 a0_2] 55 (0, 0))) ∧ Aside0 (wc.heap[gb122]? = some (.cells #[.int .i64 0, .int .i64 0] 54 (0, 0))) ∧ Aside0 (wc.heap[gb123]? = some (.cells #[(.slice none 0 0), .int .i64 0, .int .i64 0] 55 (0, 0))) ∧ Aside0 (Below w.heap.size w wc))
  case first =>
    have H := HC3.out
    clear HC3
    replace H := Option.bind_eq_some_iff.mp H
    obtain ⟨t124, A70, H⟩ := H
    replace H : (if t124 = true then (if a0_1 = (l0_0.length : Int) then (spec_SendNext.j0 k a1 true l0_0 a0_1 a0_2) else (if a1 < 1 then (spec_SendNext.j0 k a1 true l0_0 a0_1 a0_2) else (spec_SendNext.j0 k a1 (decide (a1 > 10)) l0_0 a0_1 a0_2))) else (spec_SendNext.j0 k a1 true l0_0 a0_1 a0_2)) = some (r1, r2, r3, r4, r5, r6) := H
    have A7 := Aside0.mk A70
    clear A70
    by_cases c8 : t124 = true
    · subst c8
      have H1 : (if a0_1 = (l0_0.length : Int) then (spec_SendNext.j0 k a1 true l0_0 a0_1 a0_2) else (if a1 < 1 then (spec_SendNext.j0 k a1 true l0_0 a0_1 a0_2) else (spec_SendNext.j0 k a1 (decide (a1 > 10)) l0_0 a0_1 a0_2))) = some (r1, r2, r3, r4, r5, r6) := by rw [if_pos rfl] at H; exact H
      clear H
      have H := H1
      clear H1
      by_cases c9 : a0_1 = (l0_0.length : Int)
      · rw [if_pos c9] at H
        have c9b0 : (a0_1 == (l0_0.length : Int)) = true := beq_iff_eq.mpr c9
        have c9b1 : (a0_1 != (l0_0.length : Int)) = false := bne_eq_false_iff_eq.mpr c9
        clear c9
        (first | rw [c9b0] | (simp only [i64_w, i32_w]; rw [c9b0]) | skip)
        have H' := Aside0.mk H
        clear H
        have hnb10 := NB121_122.out
        have hnc10 := NB122_121.out
        have hnb11 := NB121_123.out
        have hnc11 := NB123_121.out
        have hcz12_0 : w6.cell? ⟨gb121, 0, none⟩ = some (.slice A0_0 l0_0.length c0_0) := (blk_cell BK121.out 0).trans rfl
        have hcz12_1 : w6.cell? ⟨gb121, 1, none⟩ = some (.int .i64 a0_1) := (blk_cell BK121.out 1).trans rfl
        have hcz12_2 : w6.cell? ⟨gb121, 2, none⟩ = some (.int .i64 a0_2) := (blk_cell BK121.out 2).trans rfl
        have hfz12_0 := blk_frozen BK121.out 0
        have hfz12_1 := blk_frozen BK121.out 1
        have hfz12_2 := blk_frozen BK121.out 2
        go_wp2_with (first | ((with_reducible refine gate_callee (f := 59) rfl ?_); refine goesL_ (some 11) rfl rfl Try.func59 (by kernel_rfl) rfl #[.agg #[.slice A0_0 l0_0.length c0_0, .int .i64 a0_1, .int .i64 a0_2]] rfl (by (try simp only [List.map_toArray, List.map_cons, List.map_nil]); first | done | rfl | (simp only [List.length_drop, List.length_take]; rfl)) ?_; (with_reducible refine (spec_l24Sender.calls _ _ l0_0 a0_1 a0_2 true _ ?side1 ?side2 A7.out).mono ?_); (case side1 => repeat (first | exact (Kd.C_below HR0_0.out HB.out) | (with_reducible refine Kd.C_alloc ?_ _) | (with_reducible refine Kd.C_drewN ?_ _) | (with_reducible refine Kd.C_drew ?_))); (case side2 => exact HC0_0.out); rintro e w13 ⟨rfl, hb⟩; refine ⟨_, rfl, ?_⟩; have n0_ := Aside0.mk (blk_below (g := gb121) (o := .cells #[.slice A0_0 l0_0.length c0_0, .int .i64 a0_1, .int .i64 a0_2] 55 (0, 0)) BK121.out hb); have n1_ := Aside0.mk (blk_below (g := gb122) (o := .cells #[.int .i64 0, .int .i64 0] 54 (0, 0)) BK122.out hb); have n2_ := Aside0.mk (blk_below (g := gb123) (o := .cells #[.slice none 0 0, .int .i64 0, .int .i64 0] 55 (0, 0)) BK123.out hb); have n3_ := Aside0.mk (below_step (by repeat (first | (with_reducible first | exact HB.out | apply below_alloc | apply pw_below_drewN | apply below_drew1 | refine below_set ?_ GE121.out | refine below_set ?_ GE122.out | refine below_set ?_ GE123.out) | exact HB.out)) hb); clear BK121; clear BK122; clear BK123; clear HB; have BK121 := n0_; have BK122 := n1_; have BK123 := n2_; have HB := n3_; clear n0_ n1_ n2_ n3_; (try clear hb); (try clear hb2); (try clear hk); (try clear hi); have hcz14_0 : w13.cell? ⟨gb121, 0, none⟩ = some (.slice A0_0 l0_0.length c0_0) := (blk_cell BK121.out 0).trans rfl; have hcz14_1 : w13.cell? ⟨gb121, 1, none⟩ = some (.int .i64 a0_1) := (blk_cell BK121.out 1).trans rfl; have hcz14_2 : w13.cell? ⟨gb121, 2, none⟩ = some (.int .i64 a0_2) := (blk_cell BK121.out 2).trans rfl; have hfz14_0 := blk_frozen BK121.out 0; have hfz14_1 := blk_frozen BK121.out 1; have hfz14_2 := blk_frozen BK121.out 2))
        go_meet
        case rel => exact ⟨_, (true), (by first | rfl | (simp; done) | (simp [*]; done)), H', ⟨by first | omega | exact Nat.le_refl _⟩, ⟨by exact BK121.out⟩, ⟨by exact BK122.out⟩, ⟨by exact BK123.out⟩, ⟨by repeat (first | (with_reducible first | exact HB.out | apply below_alloc | apply pw_below_drewN | apply below_drew1 | refine below_set ?_ GE121.out | refine below_set ?_ GE122.out | refine below_set ?_ GE123.out) | exact HB.out)⟩⟩
      · rw [if_neg c9] at H
        have c9b0 : (a0_1 == (l0_0.length : Int)) = false := beq_eq_false_iff_ne.mpr c9
        have c9b1 : (a0_1 != (l0_0.length : Int)) = true := bne_iff_ne.mpr c9
        (first | rw [c9b0] | (simp only [i64_w, i32_w]; rw [c9b0]) | skip)
        by_cases c15 : a1 < 1
        · rw [if_pos c15] at H
          have c15b0 : decide (a1 < 1) = true := decide_eq_true c15
          clear c15
          have H' := Aside0.mk H
          clear H
          have hnb16 := NB121_122.out
          have hnc16 := NB122_121.out
          have hnb17 := NB121_123.out
          have hnc17 := NB123_121.out
          have hcz18_0 : w6.cell? ⟨gb121, 0, none⟩ = some (.slice A0_0 l0_0.length c0_0) := (blk_cell BK121.out 0).trans rfl
          have hcz18_1 : w6.cell? ⟨gb121, 1, none⟩ = some (.int .i64 a0_1) := (blk_cell BK121.out 1).trans rfl
          have hcz18_2 : w6.cell? ⟨gb121, 2, none⟩ = some (.int .i64 a0_2) := (blk_cell BK121.out 2).trans rfl
          have hfz18_0 := blk_frozen BK121.out 0
          have hfz18_1 := blk_frozen BK121.out 1
          have hfz18_2 := blk_frozen BK121.out 2
          go_wp2_with (first | ((with_reducible refine gate_callee (f := 59) rfl ?_); refine goesL_ (some 11) rfl rfl Try.func59 (by kernel_rfl) rfl #[.agg #[.slice A0_0 l0_0.length c0_0, .int .i64 a0_1, .int .i64 a0_2]] rfl (by (try simp only [List.map_toArray, List.map_cons, List.map_nil]); first | done | rfl | (simp only [List.length_drop, List.length_take]; rfl)) ?_; (with_reducible refine (spec_l24Sender.calls _ _ l0_0 a0_1 a0_2 true _ ?side1 ?side2 A7.out).mono ?_); (case side1 => repeat (first | exact (Kd.C_below HR0_0.out HB.out) | (with_reducible refine Kd.C_alloc ?_ _) | (with_reducible refine Kd.C_drewN ?_ _) | (with_reducible refine Kd.C_drew ?_))); (case side2 => exact HC0_0.out); rintro e w19 ⟨rfl, hb⟩; refine ⟨_, rfl, ?_⟩; have n0_ := Aside0.mk (blk_below (g := gb121) (o := .cells #[.slice A0_0 l0_0.length c0_0, .int .i64 a0_1, .int .i64 a0_2] 55 (0, 0)) BK121.out hb); have n1_ := Aside0.mk (blk_below (g := gb122) (o := .cells #[.int .i64 0, .int .i64 0] 54 (0, 0)) BK122.out hb); have n2_ := Aside0.mk (blk_below (g := gb123) (o := .cells #[.slice none 0 0, .int .i64 0, .int .i64 0] 55 (0, 0)) BK123.out hb); have n3_ := Aside0.mk (below_step (by repeat (first | (with_reducible first | exact HB.out | apply below_alloc | apply pw_below_drewN | apply below_drew1 | refine below_set ?_ GE121.out | refine below_set ?_ GE122.out | refine below_set ?_ GE123.out) | exact HB.out)) hb); clear BK121; clear BK122; clear BK123; clear HB; have BK121 := n0_; have BK122 := n1_; have BK123 := n2_; have HB := n3_; clear n0_ n1_ n2_ n3_; (try clear hb); (try clear hb2); (try clear hk); (try clear hi); have hcz20_0 : w19.cell? ⟨gb121, 0, none⟩ = some (.slice A0_0 l0_0.length c0_0) := (blk_cell BK121.out 0).trans rfl; have hcz20_1 : w19.cell? ⟨gb121, 1, none⟩ = some (.int .i64 a0_1) := (blk_cell BK121.out 1).trans rfl; have hcz20_2 : w19.cell? ⟨gb121, 2, none⟩ = some (.int .i64 a0_2) := (blk_cell BK121.out 2).trans rfl; have hfz20_0 := blk_frozen BK121.out 0; have hfz20_1 := blk_frozen BK121.out 1; have hfz20_2 := blk_frozen BK121.out 2))
          go_meet
          case rel => exact ⟨_, (true), (by first | rfl | (simp; done) | (simp [*]; done)), H', ⟨by first | omega | exact Nat.le_refl _⟩, ⟨by exact BK121.out⟩, ⟨by exact BK122.out⟩, ⟨by exact BK123.out⟩, ⟨by repeat (first | (with_reducible first | exact HB.out | apply below_alloc | apply pw_below_drewN | apply below_drew1 | refine below_set ?_ GE121.out | refine below_set ?_ GE122.out | refine below_set ?_ GE123.out) | exact HB.out)⟩⟩
        · rw [if_neg c15] at H
          have c15b0 : decide (a1 < 1) = false := decide_eq_false c15
          clear c15
          have H' := Aside0.mk H
          clear H
          have hnb21 := NB121_122.out
          have hnc21 := NB122_121.out
          have hnb22 := NB121_123.out
          have hnc22 := NB123_121.out
          have hcz23_0 : w6.cell? ⟨gb121, 0, none⟩ = some (.slice A0_0 l0_0.length c0_0) := (blk_cell BK121.out 0).trans rfl
          have hcz23_1 : w6.cell? ⟨gb121, 1, none⟩ = some (.int .i64 a0_1) := (blk_cell BK121.out 1).trans rfl
          have hcz23_2 : w6.cell? ⟨gb121, 2, none⟩ = some (.int .i64 a0_2) := (blk_cell BK121.out 2).trans rfl
          have hfz23_0 := blk_frozen BK121.out 0
          have hfz23_1 := blk_frozen BK121.out 1
          have hfz23_2 := blk_frozen BK121.out 2
          go_wp2_with (first | ((with_reducible refine gate_callee (f := 59) rfl ?_); refine goesL_ (some 11) rfl rfl Try.func59 (by kernel_rfl) rfl #[.agg #[.slice A0_0 l0_0.length c0_0, .int .i64 a0_1, .int .i64 a0_2]] rfl (by (try simp only [List.map_toArray, List.map_cons, List.map_nil]); first | done | rfl | (simp only [List.length_drop, List.length_take]; rfl)) ?_; (with_reducible refine (spec_l24Sender.calls _ _ l0_0 a0_1 a0_2 true _ ?side1 ?side2 A7.out).mono ?_); (case side1 => repeat (first | exact (Kd.C_below HR0_0.out HB.out) | (with_reducible refine Kd.C_alloc ?_ _) | (with_reducible refine Kd.C_drewN ?_ _) | (with_reducible refine Kd.C_drew ?_))); (case side2 => exact HC0_0.out); rintro e w24 ⟨rfl, hb⟩; refine ⟨_, rfl, ?_⟩; have n0_ := Aside0.mk (blk_below (g := gb121) (o := .cells #[.slice A0_0 l0_0.length c0_0, .int .i64 a0_1, .int .i64 a0_2] 55 (0, 0)) BK121.out hb); have n1_ := Aside0.mk (blk_below (g := gb122) (o := .cells #[.int .i64 0, .int .i64 0] 54 (0, 0)) BK122.out hb); have n2_ := Aside0.mk (blk_below (g := gb123) (o := .cells #[.slice none 0 0, .int .i64 0, .int .i64 0] 55 (0, 0)) BK123.out hb); have n3_ := Aside0.mk (below_step (by repeat (first | (with_reducible first | exact HB.out | apply below_alloc | apply pw_below_drewN | apply below_drew1 | refine below_set ?_ GE121.out | refine below_set ?_ GE122.out | refine below_set ?_ GE123.out) | exact HB.out)) hb); clear BK121; clear BK122; clear BK123; clear HB; have BK121 := n0_; have BK122 := n1_; have BK123 := n2_; have HB := n3_; clear n0_ n1_ n2_ n3_; (try clear hb); (try clear hb2); (try clear hk); (try clear hi); have hcz25_0 : w24.cell? ⟨gb121, 0, none⟩ = some (.slice A0_0 l0_0.length c0_0) := (blk_cell BK121.out 0).trans rfl; have hcz25_1 : w24.cell? ⟨gb121, 1, none⟩ = some (.int .i64 a0_1) := (blk_cell BK121.out 1).trans rfl; have hcz25_2 : w24.cell? ⟨gb121, 2, none⟩ = some (.int .i64 a0_2) := (blk_cell BK121.out 2).trans rfl; have hfz25_0 := blk_frozen BK121.out 0; have hfz25_1 := blk_frozen BK121.out 1; have hfz25_2 := blk_frozen BK121.out 2))
          go_meet
          case rel => exact ⟨_, (decide (a1 > 10)), (by first | rfl | (simp; done) | (simp [*]; done)), H', ⟨by first | omega | exact Nat.le_refl _⟩, ⟨by exact BK121.out⟩, ⟨by exact BK122.out⟩, ⟨by exact BK123.out⟩, ⟨by repeat (first | (with_reducible first | exact HB.out | apply below_alloc | apply pw_below_drewN | apply below_drew1 | refine below_set ?_ GE121.out | refine below_set ?_ GE122.out | refine below_set ?_ GE123.out) | exact HB.out)⟩⟩
    · replace c8 := Bool.eq_false_iff.mpr c8
      subst c8
      have H1 : (spec_SendNext.j0 k a1 true l0_0 a0_1 a0_2) = some (r1, r2, r3, r4, r5, r6) := by rw [if_neg (show ¬ (false = true) by decide)] at H; exact H
      clear H
      have H := H1
      clear H1
      have H' := Aside0.mk H
      clear H
      have hnb26 := NB121_122.out
      have hnc26 := NB122_121.out
      have hnb27 := NB121_123.out
      have hnc27 := NB123_121.out
      have hcz28_0 : w6.cell? ⟨gb121, 0, none⟩ = some (.slice A0_0 l0_0.length c0_0) := (blk_cell BK121.out 0).trans rfl
      have hcz28_1 : w6.cell? ⟨gb121, 1, none⟩ = some (.int .i64 a0_1) := (blk_cell BK121.out 1).trans rfl
      have hcz28_2 : w6.cell? ⟨gb121, 2, none⟩ = some (.int .i64 a0_2) := (blk_cell BK121.out 2).trans rfl
      have hfz28_0 := blk_frozen BK121.out 0
      have hfz28_1 := blk_frozen BK121.out 1
      have hfz28_2 := blk_frozen BK121.out 2
      go_wp2_with (first | ((with_reducible refine gate_callee (f := 59) rfl ?_); refine goesL_ (some 11) rfl rfl Try.func59 (by kernel_rfl) rfl #[.agg #[.slice A0_0 l0_0.length c0_0, .int .i64 a0_1, .int .i64 a0_2]] rfl (by (try simp only [List.map_toArray, List.map_cons, List.map_nil]); first | done | rfl | (simp only [List.length_drop, List.length_take]; rfl)) ?_; (with_reducible refine (spec_l24Sender.calls _ _ l0_0 a0_1 a0_2 false _ ?side1 ?side2 A7.out).mono ?_); (case side1 => repeat (first | exact (Kd.C_below HR0_0.out HB.out) | (with_reducible refine Kd.C_alloc ?_ _) | (with_reducible refine Kd.C_drewN ?_ _) | (with_reducible refine Kd.C_drew ?_))); (case side2 => exact HC0_0.out); rintro e w29 ⟨rfl, hb⟩; refine ⟨_, rfl, ?_⟩; have n0_ := Aside0.mk (blk_below (g := gb121) (o := .cells #[.slice A0_0 l0_0.length c0_0, .int .i64 a0_1, .int .i64 a0_2] 55 (0, 0)) BK121.out hb); have n1_ := Aside0.mk (blk_below (g := gb122) (o := .cells #[.int .i64 0, .int .i64 0] 54 (0, 0)) BK122.out hb); have n2_ := Aside0.mk (blk_below (g := gb123) (o := .cells #[.slice none 0 0, .int .i64 0, .int .i64 0] 55 (0, 0)) BK123.out hb); have n3_ := Aside0.mk (below_step (by repeat (first | (with_reducible first | exact HB.out | apply below_alloc | apply pw_below_drewN | apply below_drew1 | refine below_set ?_ GE121.out | refine below_set ?_ GE122.out | refine below_set ?_ GE123.out) | exact HB.out)) hb); clear BK121; clear BK122; clear BK123; clear HB; have BK121 := n0_; have BK122 := n1_; have BK123 := n2_; have HB := n3_; clear n0_ n1_ n2_ n3_; (try clear hb); (try clear hb2); (try clear hk); (try clear hi)))
      go_meet
      case rel => exact ⟨_, (true), (by first | rfl | (simp; done) | (simp [*]; done)), H', ⟨by first | omega | exact Nat.le_refl _⟩, ⟨by exact BK121.out⟩, ⟨by exact BK122.out⟩, ⟨by exact BK123.out⟩, ⟨by repeat (first | (with_reducible first | exact HB.out | apply below_alloc | apply pw_below_drewN | apply below_drew1 | refine below_set ?_ GE121.out | refine below_set ?_ GE122.out | refine below_set ?_ GE123.out) | exact HB.out)⟩⟩
  case rest =>
    clear HC3
    try clear c1
    try clear c2
    try clear p2
    try clear c3
    try clear c5
    try clear c8
    try clear c9
    try clear c9b0
    try clear c9b1
    try clear c10
    try clear c11
    try clear c15
    try clear c15b0
    try clear c16
    try clear c17
    try clear c21
    try clear c22
    try clear c26
    try clear c27
    try clear hcz12_0
    try clear hcz12_1
    try clear hcz12_2
    try clear hcz14_0
    try clear hcz14_1
    try clear hcz14_2
    try clear hcz18_0
    try clear hcz18_1
    try clear hcz18_2
    try clear hcz20_0
    try clear hcz20_1
    try clear hcz20_2
    try clear hcz23_0
    try clear hcz23_1
    try clear hcz23_2
    try clear hcz25_0
    try clear hcz25_1
    try clear hcz25_2
    try clear hcz28_0
    try clear hcz28_1
    try clear hcz28_2
    try clear hfz12_0
    try clear hfz12_1
    try clear hfz12_2
    try clear hfz14_0
    try clear hfz14_1
    try clear hfz14_2
    try clear hfz18_0
    try clear hfz18_1
    try clear hfz18_2
    try clear hfz20_0
    try clear hfz20_1
    try clear hfz20_2
    try clear hfz23_0
    try clear hfz23_1
    try clear hfz23_2
    try clear hfz25_0
    try clear hfz25_1
    try clear hfz25_2
    try clear hfz28_0
    try clear hfz28_1
    try clear hfz28_2
    obtain ⟨kq, x28_2, rfl, HA, HJ2, BK121, BK122, BK123, HB⟩ := hcut
    cases kq with
    | zero => exact absurd HA.out (by simp [spec_SendNext.j0])
    | succ kj2 =>
      have H := HA.out
      clear HA
      simp only [spec_SendNext.j0] at H
      by_cases c30 : x28_2 = true
      · subst c30
        have H1 : (some (0, 0, ([] : List Int), 0, 0, false)) = some (r1, r2, r3, r4, r5, r6) := by rw [if_pos rfl] at H; exact H
        clear H
        have H := H1
        clear H1
        simp only [Option.some.injEq, Prod.mk.injEq] at H
        obtain ⟨rfl, rfl, rfl, rfl, rfl, rfl⟩ := H
        have hnb31 := NB122_121.out
        have hnc31 := NB121_122.out
        have hnb32 := NB122_123.out
        have hnc32 := NB123_122.out
        have hcz33_0 : wc.cell? ⟨gb122, 0, none⟩ = some (.int .i64 0) := (blk_cell BK122.out 0).trans rfl
        have hcz33_1 : wc.cell? ⟨gb122, 1, none⟩ = some (.int .i64 0) := (blk_cell BK122.out 1).trans rfl
        have hfz33_0 := blk_frozen BK122.out 0
        have hfz33_1 := blk_frozen BK122.out 1
        have hnb34 := NB123_121.out
        have hnc34 := NB121_123.out
        have hcz35_0 : wc.cell? ⟨gb123, 0, none⟩ = some (.slice none 0 0) := (blk_cell BK123.out 0).trans rfl
        have hcz35_1 : wc.cell? ⟨gb123, 1, none⟩ = some (.int .i64 0) := (blk_cell BK123.out 1).trans rfl
        have hcz35_2 : wc.cell? ⟨gb123, 2, none⟩ = some (.int .i64 0) := (blk_cell BK123.out 2).trans rfl
        have hfz35_0 := blk_frozen BK123.out 0
        have hfz35_1 := blk_frozen BK123.out 1
        have hfz35_2 := blk_frozen BK123.out 2
        go_wp2
        refine bodyPost_ret (results_list (rs := [.cell 4 54, .cell 5 55, .tmp 6]) rfl (by simp) (.cell gb122 54 #[.int .i64 0, .int .i64 0] (0, 0) _ rfl (by refine blk_far ?_ NB122_123.out _; refine blk_far ?_ NB122_123.out _; refine blk_far ?_ NB122_123.out _; refine blk_put (cs := #[.int .i64 0, .int .i64 0]) ?_ 1 _ rfl; refine blk_put (cs := #[.int .i64 0, .int .i64 0]) ?_ 0 _ rfl; exact BK122.out) Try.underlying54 rfl (by kernel_rfl) (.cell gb123 55 #[.slice none 0 0, .int .i64 0, .int .i64 0] (0, 0) _ rfl (by refine blk_put (cs := #[.slice none 0 0, .int .i64 0, .int .i64 0]) ?_ 2 _ rfl; refine blk_put (cs := #[.slice none 0 0, .int .i64 0, .int .i64 0]) ?_ 1 _ rfl; refine blk_put (cs := #[.slice none 0 0, .int .i64 0, .int .i64 0]) ?_ 0 _ rfl; refine blk_far ?_ NB123_122.out _; refine blk_far ?_ NB123_122.out _; exact BK123.out) Try.underlying55 rfl (by kernel_rfl) (.tmp .nil)))) rfl ?_
        exact ⟨_, by first | rfl | (simp [errW_none, errW_some] <;> rfl) | (simp [*, errW_none, errW_some] <;> rfl), by first | exact Kd.R_nil _ _ _ _ _ | exact Kd.N_nil _ _ _ _ _ | exact Kd.V_nil _ _ _ _ _ | exact Kd.Q_nil _ _ _ _ _ | exact Kd.S_nil _ _ _ _ _, by repeat (first | (with_reducible first | exact HB.out | apply below_alloc | apply pw_below_drewN | apply below_drew1 | refine below_set ?_ GE121.out | refine below_set ?_ GE122.out | refine below_set ?_ GE123.out) | exact HB.out)⟩
      · replace c30 := Bool.eq_false_iff.mpr c30
        subst c30
        have H1 : (if (wrap64 ((l0_0.length : Int) - a0_1)) > a1 then (if a1 = 0 then (none) else (if (wrap64 (a0_2 + 1)) ≥ 30 then (if 0 ≤ (wrap64 (a0_1 + (Int.tmod a0_2 a1))) then (if (wrap64 (a0_1 + (Int.tmod a0_2 a1))) < (l0_0.length : Int) then ((some (([] : List Int) : List Int)).bind fun y127 => (if y127.length + l0_0.length < 17592186044416 then (some (wrap64 (a0_1 + (Int.tmod a0_2 a1)), rd l0_0 (wrap64 (a0_1 + (Int.tmod a0_2 a1))), (y127 ++ l0_0), a0_1, 0, true)) else (none))) else (none)) else (none)) else (if 0 ≤ (wrap64 (a0_1 + (Int.tmod a0_2 a1))) then (if (wrap64 (a0_1 + (Int.tmod a0_2 a1))) < (l0_0.length : Int) then ((some (([] : List Int) : List Int)).bind fun y135 => (if y135.length + l0_0.length < 17592186044416 then (some (wrap64 (a0_1 + (Int.tmod a0_2 a1)), rd l0_0 (wrap64 (a0_1 + (Int.tmod a0_2 a1))), (y135 ++ l0_0), a0_1, wrap64 (a0_2 + 1), true)) else (none))) else (none)) else (none)))) else (if (wrap64 ((l0_0.length : Int) - a0_1)) = 0 then (none) else (if (wrap64 (a0_2 + 1)) ≥ 30 then (if 0 ≤ (wrap64 (a0_1 + (Int.tmod a0_2 (wrap64 ((l0_0.length : Int) - a0_1))))) then (if (wrap64 (a0_1 + (Int.tmod a0_2 (wrap64 ((l0_0.length : Int) - a0_1))))) < (l0_0.length : Int) then ((some (([] : List Int) : List Int)).bind fun y143 => (if y143.length + l0_0.length < 17592186044416 then (some (wrap64 (a0_1 + (Int.tmod a0_2 (wrap64 ((l0_0.length : Int) - a0_1)))), rd l0_0 (wrap64 (a0_1 + (Int.tmod a0_2 (wrap64 ((l0_0.length : Int) - a0_1))))), (y143 ++ l0_0), a0_1, 0, true)) else (none))) else (none)) else (none)) else (if 0 ≤ (wrap64 (a0_1 + (Int.tmod a0_2 (wrap64 ((l0_0.length : Int) - a0_1))))) then (if (wrap64 (a0_1 + (Int.tmod a0_2 (wrap64 ((l0_0.length : Int) - a0_1))))) < (l0_0.length : Int) then ((some (([] : List Int) : List Int)).bind fun y151 => (if y151.length + l0_0.length < 17592186044416 then (some (wrap64 (a0_1 + (Int.tmod a0_2 (wrap64 ((l0_0.length : Int) - a0_1)))), rd l0_0 (wrap64 (a0_1 + (Int.tmod a0_2 (wrap64 ((l0_0.length : Int) - a0_1))))), (y151 ++ l0_0), a0_1, wrap64 (a0_2 + 1), true)) else (none))) else (none)) else (none))))) = some (r1, r2, r3, r4, r5, r6) := by rw [if_neg (show ¬ (false = true) by decide)] at H; exact H
        clear H
        have H := H1
        clear H1
        by_cases c36 : (wrap64 ((l0_0.length : Int) - a0_1)) > a1
        · rw [if_pos c36] at H
          have c36b0 : decide (a1 < (wrap64 ((l0_0.length : Int) - a0_1))) = true := decide_eq_true c36
          clear c36
          by_cases c37 : a1 = 0
          · rw [if_pos c37] at H
            exact absurd H (by simp)
          · rw [if_neg c37] at H
            have c37b0 : (a1 == 0) = false := beq_eq_false_iff_ne.mpr c37
            have c37b1 : (a1 != 0) = true := bne_iff_ne.mpr c37
            by_cases c38 : (wrap64 (a0_2 + 1)) ≥ 30
            · rw [if_pos c38] at H
              have c38b0 : decide (30 ≤ (wrap64 (a0_2 + 1))) = true := decide_eq_true c38
              clear c38
              obtain ⟨ji39, hji39⟩ : ∃ j_ : Int, (wrap64 (a0_1 + (Int.tmod a0_2 a1))) = j_ := ⟨_, rfl⟩
              replace H : (if 0 ≤ (ji39) then (if (ji39) < (l0_0.length : Int) then ((some (([] : List Int) : List Int)).bind fun y127 => (if y127.length + l0_0.length < 17592186044416 then (some (ji39, rd l0_0 (ji39), (y127 ++ l0_0), a0_1, 0, true)) else (none))) else (none)) else (none)) = some (r1, r2, r3, r4, r5, r6) := by first | (rw [hji39] at H; exact H) | (simp only [hji39] at H ⊢; exact H)
              have hji39w : (IntKind.i64.wrap (a0_1 + (Int.tmod a0_2 a1))) = ji39 := (i64_w _).trans hji39
              by_cases c40 : 0 ≤ (ji39)
              · rw [if_pos c40] at H
                have c40b0 : decide (0 ≤ (ji39)) = true := decide_eq_true c40
                clear c40
                by_cases c41 : (ji39) < (l0_0.length : Int)
                · rw [if_pos c41] at H
                  have c41b0 : decide ((ji39) < (l0_0.length : Int)) = true := decide_eq_true c41
                  clear c41
                  obtain ⟨y127, hy127⟩ : ∃ y_ : List Int, y_ = (([] : List Int)) := ⟨_, rfl⟩
                  replace H : (if y127.length + l0_0.length < 17592186044416 then (some (ji39, rd l0_0 (ji39), (y127 ++ l0_0), a0_1, 0, true)) else (none)) = some (r1, r2, r3, r4, r5, r6) := by first | (rw [hy127]; with_reducible exact H) | (have H2_ := (Option.bind_some _ _).symm.trans H; rw [hy127]; with_reducible exact H2_) | (have H2_ := (Option.bind_some _ _).symm.trans H; with_reducible exact H2_) | with_reducible exact H | (rw [hy127]; exact H) | exact H
                  have Ny127 := Aside0.mk hy127
                  clear hy127
                  by_cases c42 : y127.length + l0_0.length < 17592186044416
                  · rw [if_pos c42] at H
                    have LMc42 := Aside0.mk c42
                    clear c42
                    obtain ⟨y130, hy130⟩ : ∃ y_ : List Int, y_ = (y127 ++ l0_0) := ⟨_, rfl⟩
                    replace H : (some (ji39, rd l0_0 (ji39), y130, a0_1, 0, true)) = some (r1, r2, r3, r4, r5, r6) := by first | (rw [hy130]; with_reducible exact H) | (have H2_ := (Option.bind_some _ _).symm.trans H; rw [hy130]; with_reducible exact H2_) | (have H2_ := (Option.bind_some _ _).symm.trans H; with_reducible exact H2_) | with_reducible exact H | (rw [hy130]; exact H) | exact H
                    have Ny130 := Aside0.mk hy130
                    clear hy130
                    simp only [Option.some.injEq, Prod.mk.injEq] at H
                    obtain ⟨rfl, rfl, rfl, rfl, rfl, rfl⟩ := H
                    have hnb43 := NB121_122.out
                    have hnc43 := NB122_121.out
                    have hnb44 := NB121_123.out
                    have hnc44 := NB123_121.out
                    have hcz45_0 : wc.cell? ⟨gb121, 0, none⟩ = some (.slice A0_0 l0_0.length c0_0) := (blk_cell BK121.out 0).trans rfl
                    have hcz45_1 : wc.cell? ⟨gb121, 1, none⟩ = some (.int .i64 a0_1) := (blk_cell BK121.out 1).trans rfl
                    have hcz45_2 : wc.cell? ⟨gb121, 2, none⟩ = some (.int .i64 a0_2) := (blk_cell BK121.out 2).trans rfl
                    have hfz45_0 := blk_frozen BK121.out 0
                    have hfz45_1 := blk_frozen BK121.out 1
                    have hfz45_2 := blk_frozen BK121.out 2
                    try go_wp2
                    have n0_ := Aside0.mk (blk_drew BK121.out)
                    have n1_ := Aside0.mk (blk_drew BK122.out)
                    have n2_ := Aside0.mk (blk_drew BK123.out)
                    have n3_ := Aside0.mk (below_drew1 HB.out)
                    clear BK121
                    clear BK122
                    clear BK123
                    clear HB
                    have BK121 := n0_
                    have BK122 := n1_
                    have BK123 := n2_
                    have HB := n3_
                    clear n0_ n1_ n2_ n3_
                    refine start_ (n := 8) (S := fun w' => w'.cell? ⟨gb121, 0, none⟩ = some (.slice A0_0 l0_0.length c0_0) ∧ w'.cell? ⟨gb121, 1, none⟩ = some (.int .i64 a0_1) ∧ w'.cell? ⟨gb121, 2, none⟩ = some (.int .i64 a0_2)) (ds := []) #[false, false, false, false, false, false, false, false] (by kernel_rfl) rfl rfl ⟨(blk_cell BK121.out 0).trans rfl, (blk_cell BK121.out 1).trans rfl, (blk_cell BK121.out 2).trans rfl⟩ (fun hHeld => ?_); refine with_tabW spec_SendNext.tab6 spec_SendNext.bits6 (fun HT_ HW_ => ?_)
                    generalize wc.drew = w46 at BK121 BK122 BK123 HB hHeld ⊢
                    refine pure_ (i := 0) (N := some 41) (v := ?_) (a' := ?_) #[true, false, false, false, false, false, false, false] rfl rfl (any_of HT_.out (by kernel_rfl)) (fun _ _ _ h => h) (Or.inl ⟨by rfl, ?_⟩) ?_ ?_
                    rotate_left
                    · intro w'
                      go_simp
                      with_reducible rfl
                    rotate_left
                    · simp only [Act.put, List.setIfInBounds_toArray, List.set_cons_zero, List.set_cons_succ, i64_w, i32_w]
                      rfl
                    refine pure_ (i := 2) (N := some 43) (v := ?_) (a' := ?_) #[true, false, true, false, false, false, false, false] rfl rfl (any_of HT_.out (by kernel_rfl)) (fun _ _ _ h => h) (Or.inl ⟨by rfl, ?_⟩) ?_ ?_
                    rotate_left
                    · intro w'
                      go_simp
                      with_reducible rfl
                    rotate_left
                    · simp only [Act.put, List.setIfInBounds_toArray, List.set_cons_zero, List.set_cons_succ, i64_w, i32_w]
                      rfl
                    refine pure_ (i := 4) (N := some 45) (v := ?_) (a' := ?_) #[true, false, true, false, true, false, false, false] rfl rfl (any_of HT_.out (by kernel_rfl)) (fun _ _ _ h => h) (Or.inl ⟨by rfl, ?_⟩) ?_ ?_
                    rotate_left
                    · intro w'
                      go_simp
                      with_reducible rfl
                    rotate_left
                    · simp only [Act.put, List.setIfInBounds_toArray, List.set_cons_zero, List.set_cons_succ, i64_w, i32_w]
                      rfl
                    refine take_ (i := 1) (N := some 42) (v := ?_) (a' := ?_) #[true, true, true, false, true, false, false, false] rfl rfl (take_ofW HT_.out HW_.out (by kernel_rfl)) (fun _ _ _ h => h) (Or.inl ⟨by rfl, ?_⟩) hHeld ?_ ?_
                    rotate_left
                    · rintro w' ⟨s0, s1, s2⟩
                      go_simp
                      with_reducible rfl
                    rotate_left
                    · simp only [Act.put, List.setIfInBounds_toArray, List.set_cons_zero, List.set_cons_succ, i64_w, i32_w]
                      rfl
                    refine take_ (i := 3) (N := some 44) (v := ?_) (a' := ?_) #[true, true, true, true, true, false, false, false] rfl rfl (take_ofW HT_.out HW_.out (by kernel_rfl)) (fun _ _ _ h => h) (Or.inl ⟨by rfl, ?_⟩) hHeld ?_ ?_
                    rotate_left
                    · rintro w' ⟨s0, s1, s2⟩
                      go_simp
                      with_reducible rfl
                    rotate_left
                    · simp only [Act.put, List.setIfInBounds_toArray, List.set_cons_zero, List.set_cons_succ, i64_w, i32_w]
                      rfl
                    refine pure_ (i := 5) (N := some 46) (v := ?_) (a' := ?_) #[true, true, true, true, true, true, false, false] rfl rfl (any_of HT_.out (by kernel_rfl)) (fun _ _ _ h => h) (Or.inl ⟨by rfl, ?_⟩) ?_ ?_
                    rotate_left
                    · intro w'
                      go_simp
                      with_reducible rfl
                    rotate_left
                    · simp only [Act.put, List.setIfInBounds_toArray, List.set_cons_zero, List.set_cons_succ, i64_w, i32_w]
                      rfl
                    refine pure_ (i := 6) (N := some 47) (v := ?_) (a' := ?_) #[true, true, true, true, true, true, true, false] rfl rfl (any_of HT_.out (by kernel_rfl)) (fun _ _ _ h => h) (Or.inl ⟨by rfl, ?_⟩) ?_ ?_
                    rotate_left
                    · intro w'
                      go_simp
                      with_reducible rfl
                    rotate_left
                    · simp only [Act.put, List.setIfInBounds_toArray, List.set_cons_zero, List.set_cons_succ, i64_w, i32_w]
                      rfl
                    refine pure_ (i := 7) (N := some 8) (v := ?_) (a' := ?_) #[true, true, true, true, true, true, true, true] rfl rfl (any_of HT_.out (by kernel_rfl)) (fun _ _ _ h => h) (Or.inl ⟨by rfl, ?_⟩) ?_ ?_
                    rotate_left
                    · intro w'
                      go_simp
                      with_reducible rfl
                    rotate_left
                    · simp only [Act.put, List.setIfInBounds_toArray, List.set_cons_zero, List.set_cons_succ, i64_w, i32_w]
                      rfl
                    refine done_ (done_of HT_.out (by kernel_rfl)) ?_
                    have hcz47_0 : w46.cell? ⟨gb121, 0, none⟩ = some (.slice A0_0 l0_0.length c0_0) := (blk_cell BK121.out 0).trans rfl
                    have hcz47_1 : w46.cell? ⟨gb121, 1, none⟩ = some (.int .i64 a0_1) := (blk_cell BK121.out 1).trans rfl
                    have hcz47_2 : w46.cell? ⟨gb121, 2, none⟩ = some (.int .i64 a0_2) := (blk_cell BK121.out 2).trans rfl
                    have hfz47_0 := blk_frozen BK121.out 0
                    have hfz47_1 := blk_frozen BK121.out 1
                    have hfz47_2 := blk_frozen BK121.out 2
                    have p125 : 0 ≤ ((ji39) : Int) := of_decide_eq_true (by first | (with_reducible assumption) | assumption)
                    have q125 : (ji39) < (l0_0.length : Int) := of_decide_eq_true (by first | (with_reducible assumption) | assumption)
                    obtain ⟨ad125, e125, hx125_0⟩ := Kd.at_int HR0_0.out (ji39) p125 q125
                    cases e125
                    have hn125_0 : ad125.block ≠ gb121 := Nat.ne_of_lt (Nat.lt_of_lt_of_le (by have := World.block_lt_of_cell? _ _ hx125_0; first | rwa [add_block] at this | exact this) GW121.out)
                    have hn125_1 : ad125.block ≠ gb121 := Nat.ne_of_lt (Nat.lt_of_lt_of_le (by have := World.block_lt_of_cell? _ _ hx125_0; first | rwa [add_block] at this | exact this) GW121.out)
                    (first | replace hx125_0 := (HB.out.cell (World.block_lt_of_cell? w _ hx125_0)).trans hx125_0 | skip)
                    replace hx125_0 := (cell_far (p := ⟨gb121, 2, none⟩) (by first | (rw [add_block]; exact hn125_0) | (show (Addr.add _ _).block ≠ _; rw [add_block]; exact hn125_0) | exact hn125_0) (.int .i64 (wrap64 (a0_2 + 1)))).trans hx125_0
                    replace hx125_0 := (cell_far (p := ⟨gb121, 2, none⟩) (by first | (rw [add_block]; exact hn125_1) | (show (Addr.add _ _).block ≠ _; rw [add_block]; exact hn125_1) | exact hn125_1) (.int .i64 0)).trans hx125_0
                    clear hn125_0
                    clear hn125_1
                    replace p125 := eq_true p125
                    replace q125 := eq_true q125
                    try go_wp2_with (first | ((with_reducible refine gate_dst (N := 9) rfl ?_); (try (refine gate_guard (by rfl) ?_; dsimp only)); refine box_event ?hg (N := 9) ?hd (cs := #[.int .i64 0, .int .i64 0]) (t := 54) ?hr ?_; (case hd => rfl); (case hg => rfl); (case hr => first | (go_simp; done) | (go_simp; rfl)); intro gb126 hg w48 hbox hb; have n0_ := Aside0.mk (blk_below (g := gb121) (o := .cells #[.slice (some ad125) l0_0.length c0_0, .int .i64 a0_1, .int .i64 0] 55 (0, 0)) (by refine blk_put (cs := #[.slice (some ad125) l0_0.length c0_0, .int .i64 a0_1, .int .i64 (wrap64 (a0_2 + 1))]) ?_ 2 _ rfl; refine blk_put (cs := #[.slice (some ad125) l0_0.length c0_0, .int .i64 a0_1, .int .i64 a0_2]) ?_ 2 _ rfl; exact BK121.out) hb); have n1_ := Aside0.mk (blk_below (g := gb122) (o := .cells #[.int .i64 0, .int .i64 0] 54 (0, 0)) (by refine blk_far ?_ NB122_121.out _; refine blk_far ?_ NB122_121.out _; exact BK122.out) hb); have n2_ := Aside0.mk (blk_below (g := gb123) (o := .cells #[.slice none 0 0, .int .i64 0, .int .i64 0] 55 (0, 0)) (by refine blk_far ?_ NB123_121.out _; refine blk_far ?_ NB123_121.out _; exact BK123.out) hb); have n3_ := Aside0.mk (below_step (by repeat (first | (with_reducible first | exact HB.out | apply below_alloc | apply pw_below_drewN | apply below_drew1 | refine below_set ?_ GE121.out | refine below_set ?_ GE122.out | refine below_set ?_ GE123.out) | exact HB.out)) hb); have n4_ := Aside0.mk (hbox); have n5_ := Aside0.mk ((by rw [hg]; exact (below_size (by repeat (first | (with_reducible first | exact HB.out | apply below_alloc | apply pw_below_drewN | apply below_drew1 | refine below_set ?_ GE121.out | refine below_set ?_ GE122.out | refine below_set ?_ GE123.out) | exact HB.out))) : w.heap.size ≤ gb126)); have n6_ := Aside0.mk ((by rw [hg]; exact (below_size (by repeat (first | (with_reducible first | exact HB.out | apply below_alloc | apply pw_below_drewN | apply below_drew1 | refine below_set ?_ GE121.out | refine below_set ?_ GE122.out | refine below_set ?_ GE123.out) | exact HB.out))) : w.heap.size ≤ gb126)); have n7_ := Aside0.mk ((by rw [hg]; exact Nat.ne_of_lt (blk_lt (g := gb121) (o := .cells #[.slice (some ad125) l0_0.length c0_0, .int .i64 a0_1, .int .i64 0] 55 (0, 0)) (by refine blk_put (cs := #[.slice (some ad125) l0_0.length c0_0, .int .i64 a0_1, .int .i64 (wrap64 (a0_2 + 1))]) ?_ 2 _ rfl; refine blk_put (cs := #[.slice (some ad125) l0_0.length c0_0, .int .i64 a0_1, .int .i64 a0_2]) ?_ 2 _ rfl; exact BK121.out)) : gb121 ≠ gb126)); have n8_ := Aside0.mk ((by rw [hg]; exact Nat.ne_of_gt (blk_lt (g := gb121) (o := .cells #[.slice (some ad125) l0_0.length c0_0, .int .i64 a0_1, .int .i64 0] 55 (0, 0)) (by refine blk_put (cs := #[.slice (some ad125) l0_0.length c0_0, .int .i64 a0_1, .int .i64 (wrap64 (a0_2 + 1))]) ?_ 2 _ rfl; refine blk_put (cs := #[.slice (some ad125) l0_0.length c0_0, .int .i64 a0_1, .int .i64 a0_2]) ?_ 2 _ rfl; exact BK121.out)) : gb126 ≠ gb121)); have n9_ := Aside0.mk ((by rw [hg]; exact Nat.ne_of_lt (blk_lt (g := gb122) (o := .cells #[.int .i64 0, .int .i64 0] 54 (0, 0)) (by refine blk_far ?_ NB122_121.out _; refine blk_far ?_ NB122_121.out _; exact BK122.out)) : gb122 ≠ gb126)); have n10_ := Aside0.mk ((by rw [hg]; exact Nat.ne_of_gt (blk_lt (g := gb122) (o := .cells #[.int .i64 0, .int .i64 0] 54 (0, 0)) (by refine blk_far ?_ NB122_121.out _; refine blk_far ?_ NB122_121.out _; exact BK122.out)) : gb126 ≠ gb122)); have n11_ := Aside0.mk ((by rw [hg]; exact Nat.ne_of_lt (blk_lt (g := gb123) (o := .cells #[.slice none 0 0, .int .i64 0, .int .i64 0] 55 (0, 0)) (by refine blk_far ?_ NB123_121.out _; refine blk_far ?_ NB123_121.out _; exact BK123.out)) : gb123 ≠ gb126)); have n12_ := Aside0.mk ((by rw [hg]; exact Nat.ne_of_gt (blk_lt (g := gb123) (o := .cells #[.slice none 0 0, .int .i64 0, .int .i64 0] 55 (0, 0)) (by refine blk_far ?_ NB123_121.out _; refine blk_far ?_ NB123_121.out _; exact BK123.out)) : gb126 ≠ gb123)); clear BK121; clear BK122; clear BK123; clear HB; have BK121 := n0_; have BK122 := n1_; have BK123 := n2_; have HB := n3_; have BK126 := n4_; have GW126 := n5_; have GE126 := n6_; have NB121_126 := n7_; have NB126_121 := n8_; have NB122_126 := n9_; have NB126_122 := n10_; have NB123_126 := n11_; have NB126_123 := n12_; clear n0_ n1_ n2_ n3_ n4_ n5_ n6_ n7_ n8_ n9_ n10_ n11_ n12_; clear hb hbox hg; have hnb49 := NB126_121.out; have hnc49 := NB121_126.out; have hnb50 := NB126_122.out; have hnc50 := NB122_126.out; have hnb51 := NB126_123.out; have hnc51 := NB123_126.out; have hcz52_0 : w48.cell? ⟨gb126, 0, none⟩ = some (.int .i64 0) := (blk_cell BK126.out 0).trans rfl; have hcz52_1 : w48.cell? ⟨gb126, 1, none⟩ = some (.int .i64 0) := (blk_cell BK126.out 1).trans rfl; have hfz52_0 := blk_frozen BK126.out 0; have hfz52_1 := blk_frozen BK126.out 1) | ((with_reducible refine gate_dst (N := 63) rfl ?_); (try (refine gate_guard (by rfl) ?_; dsimp only)); refine Kd.R_lit (Kd.int .i64) _ 3 ?hg (N := 63) ?hd (xs := ([] : List Int)) (inner := []) (ok := fun _ => True) (okp := fun _ => True) ?hr ?hp (fun _ hk => hk) trivial (Below.refl _ _) (Nat.le_refl _) (by simp) ?_; (case hd => rfl); (case hg => rfl); (case hr => first | (go_simp; done) | (go_simp; rfl)); (case hp => exact (Reps.none _ _)); intro v128 w53 ho54 hb hg_ hnew_; clear hg_ hnew_; (first | rw [← Ny127.out] at ho54 | (simp only [Int.reduceToNat] at ho54; rw [← Ny127.out] at ho54)); have n0_ := Aside0.mk (Kd.R_lower ho54 (below_size (by repeat (first | (with_reducible first | exact HB.out | apply below_alloc | apply pw_below_drewN | apply below_drew1 | refine below_set ?_ GE121.out | refine below_set ?_ GE122.out | refine below_set ?_ GE123.out | refine below_set ?_ GE126.out) | exact HB.out)))); have n1_ := Aside0.mk (blk_below (g := gb121) (o := .cells #[.slice (some ad125) l0_0.length c0_0, .int .i64 a0_1, .int .i64 0] 55 (0, 0)) (by refine blk_far ?_ NB121_126.out _; refine blk_far ?_ NB121_126.out _; exact BK121.out) hb); have n2_ := Aside0.mk (blk_below (g := gb122) (o := .cells #[.int .i64 0, .int .i64 0] 54 (0, 0)) (by refine blk_far ?_ NB122_126.out _; refine blk_far ?_ NB122_126.out _; exact BK122.out) hb); have n3_ := Aside0.mk (blk_below (g := gb123) (o := .cells #[.slice none 0 0, .int .i64 0, .int .i64 0] 55 (0, 0)) (by refine blk_far ?_ NB123_126.out _; refine blk_far ?_ NB123_126.out _; exact BK123.out) hb); have n4_ := Aside0.mk (blk_below (g := gb126) (o := .cells #[.int .i64 ji39, .int .i64 (rd l0_0 (ji39))] 54 (0, 0)) (by refine blk_put (cs := #[.int .i64 ji39, .int .i64 0]) ?_ 1 _ rfl; refine blk_put (cs := #[.int .i64 0, .int .i64 0]) ?_ 0 _ rfl; exact BK126.out) hb); have n5_ := Aside0.mk (below_step (by repeat (first | (with_reducible first | exact HB.out | apply below_alloc | apply pw_below_drewN | apply below_drew1 | refine below_set ?_ GE121.out | refine below_set ?_ GE122.out | refine below_set ?_ GE123.out | refine below_set ?_ GE126.out) | exact HB.out)) hb); clear BK121; clear BK122; clear BK123; clear BK126; clear HB; have HO129 := n0_; have BK121 := n1_; have BK122 := n2_; have BK123 := n3_; have BK126 := n4_; have HB := n5_; clear n0_ n1_ n2_ n3_ n4_ n5_; clear hb ho54; have hcz55_0 : w53.cell? ⟨gb121, 0, none⟩ = some (.slice (some ad125) l0_0.length c0_0) := (blk_cell BK121.out 0).trans rfl; have hcz55_1 : w53.cell? ⟨gb121, 1, none⟩ = some (.int .i64 a0_1) := (blk_cell BK121.out 1).trans rfl; have hcz55_2 : w53.cell? ⟨gb121, 2, none⟩ = some (.int .i64 0) := (blk_cell BK121.out 2).trans rfl; have hfz55_0 := blk_frozen BK121.out 0; have hfz55_1 := blk_frozen BK121.out 1; have hfz55_2 := blk_frozen BK121.out 2) | ((with_reducible refine gate_builtin (b := .append) (xs := #[.tmp 63, .tmp 65]) rfl ?_); (try (refine gate_guard (by rfl) ?_; dsimp only)); at_builtin; refine Kd.R_append_rows (Kd.int .i64) (w0 := w) w.heap.size rfl (.tmp 63) (.tmp 65) 22 3 (.int .i64 0) 8 rfl Try.underlying22 info3 rfl (by decide) (by omega) v128 y127 l0_0 _ _ _ (fun _ => True) (fun _ => False) rfl rfl ?aO ?aR (fun _ _ h => h) (fun _ h => h.elim) ?aF ?aB ?aS ?aL ?_; (case aR => repeat (first | exact (Kd.C_below HR0_0.out HB.out) | (with_reducible refine Kd.C_alloc ?_ _) | (with_reducible refine Kd.C_drewN ?_ _) | (with_reducible refine Kd.C_drew ?_))); (case aB => exact (by repeat (first | (with_reducible first | exact HB.out | apply below_alloc | apply pw_below_drewN | apply below_drew1 | refine below_set ?_ GE121.out | refine below_set ?_ GE122.out | refine below_set ?_ GE123.out | refine below_set ?_ GE126.out) | exact HB.out))); (case aF => exact (fun _ _ => trivial)); (case aO => exact HO129.out); (case aS => exact (below_size (by repeat (first | (with_reducible first | exact HB.out | apply below_alloc | apply pw_below_drewN | apply below_drew1 | refine below_set ?_ GE121.out | refine below_set ?_ GE122.out | refine below_set ?_ GE123.out | refine below_set ?_ GE126.out) | exact HB.out)))); (case aL => have := LMc42.out; omega); intro v131 w56 ho hb hg hat; rw [← Ny130.out] at ho; have n0_ := Aside0.mk (blk_grown (g := gb121) (o := .cells #[.slice (some ad125) l0_0.length c0_0, .int .i64 a0_1, .int .i64 0] 55 (0, 0)) BK121.out hg (Kd.R_ne HO129.out BK121.out (by decide))); have n1_ := Aside0.mk (blk_grown (g := gb122) (o := .cells #[.int .i64 0, .int .i64 0] 54 (0, 0)) BK122.out hg (Kd.R_ne HO129.out BK122.out (by decide))); have n2_ := Aside0.mk (blk_grown (g := gb123) (o := .cells #[.slice none 0 0, .int .i64 0, .int .i64 0] 55 (0, 0)) BK123.out hg (Kd.R_ne HO129.out BK123.out (by decide))); have n3_ := Aside0.mk (blk_grown (g := gb126) (o := .cells #[.int .i64 ji39, .int .i64 (rd l0_0 (ji39))] 54 (0, 0)) BK126.out hg (Kd.R_ne HO129.out BK126.out (by decide))); have n4_ := Aside0.mk (hb); have n5_ := Aside0.mk (ho); clear BK121; clear BK122; clear BK123; clear BK126; clear HB; clear HO129; have BK121 := n0_; have BK122 := n1_; have BK123 := n2_; have BK126 := n3_; have HB := n4_; have HO132 := n5_; clear n0_ n1_ n2_ n3_ n4_ n5_; clear ho hb hg hat; obtain ⟨Ao57, co57, eo57⟩ := Kd.R_slice HO132.out; subst eo57; have hcz58_0 : w56.cell? ⟨gb121, 0, none⟩ = some (.slice (some ad125) l0_0.length c0_0) := (blk_cell BK121.out 0).trans rfl; have hcz58_1 : w56.cell? ⟨gb121, 1, none⟩ = some (.int .i64 a0_1) := (blk_cell BK121.out 1).trans rfl; have hcz58_2 : w56.cell? ⟨gb121, 2, none⟩ = some (.int .i64 0) := (blk_cell BK121.out 2).trans rfl; have hfz58_0 := blk_frozen BK121.out 0; have hfz58_1 := blk_frozen BK121.out 1; have hfz58_2 := blk_frozen BK121.out 2))
                    have n0_ : Aside0 (Kd.R (Kd.int .i64) 3 (w56.setCell ⟨gb121, 0, none⟩ (.slice Ao57 y130.length co57)) w.heap.size (fun _ => True) (.slice Ao57 y130.length co57) y130) := ⟨by exact Kd.R_mono (Kd.R_far (p := ⟨gb121, 0, none⟩) (Kd.R_types HO132.out BK121.out (by decide)) (fun _ hk => hk.2) (.slice Ao57 y130.length co57)) (fun _ hk => trivial)⟩
                    have n1_ : Aside0 ((w56.setCell ⟨gb121, 0, none⟩ (.slice Ao57 y130.length co57)).heap[gb121]? = some (.cells #[.slice Ao57 y130.length co57, .int .i64 a0_1, .int .i64 0] 55 (0, 0))) := ⟨by refine blk_put (cs := #[.slice (some ad125) l0_0.length c0_0, .int .i64 a0_1, .int .i64 0]) ?_ 0 _ rfl; exact BK121.out⟩
                    have n2_ : Aside0 ((w56.setCell ⟨gb121, 0, none⟩ (.slice Ao57 y130.length co57)).heap[gb122]? = some (.cells #[.int .i64 0, .int .i64 0] 54 (0, 0))) := ⟨by refine blk_far ?_ NB122_121.out _; exact BK122.out⟩
                    have n3_ : Aside0 ((w56.setCell ⟨gb121, 0, none⟩ (.slice Ao57 y130.length co57)).heap[gb123]? = some (.cells #[.slice none 0 0, .int .i64 0, .int .i64 0] 55 (0, 0))) := ⟨by refine blk_far ?_ NB123_121.out _; exact BK123.out⟩
                    have n4_ : Aside0 ((w56.setCell ⟨gb121, 0, none⟩ (.slice Ao57 y130.length co57)).heap[gb126]? = some (.cells #[.int .i64 ji39, .int .i64 (rd l0_0 (ji39))] 54 (0, 0))) := ⟨by refine blk_far ?_ NB126_121.out _; exact BK126.out⟩
                    have n5_ : Aside0 (Below w.heap.size w (w56.setCell ⟨gb121, 0, none⟩ (.slice Ao57 y130.length co57))) := ⟨by repeat (first | (with_reducible first | exact HB.out | apply below_alloc | apply pw_below_drewN | apply below_drew1 | refine below_set ?_ GE121.out | refine below_set ?_ GE122.out | refine below_set ?_ GE123.out | refine below_set ?_ GE126.out) | exact HB.out)⟩
                    (try clear HO132)
                    (try clear BK121)
                    (try clear BK122)
                    (try clear BK123)
                    (try clear BK126)
                    (try clear HB)
                    generalize (w56.setCell ⟨gb121, 0, none⟩ (.slice Ao57 y130.length co57)) = w59 at n0_ n1_ n2_ n3_ n4_ n5_ ⊢
                    have HO132 := n0_
                    have BK121 := n1_
                    have BK122 := n2_
                    have BK123 := n3_
                    have BK126 := n4_
                    have HB := n5_
                    clear n0_ n1_ n2_ n3_ n4_ n5_
                    have n0_ := Aside0.mk (Kd.R_drew HO132.out)
                    have n1_ := Aside0.mk (blk_drew BK121.out)
                    have n2_ := Aside0.mk (blk_drew BK122.out)
                    have n3_ := Aside0.mk (blk_drew BK123.out)
                    have n4_ := Aside0.mk (blk_drew BK126.out)
                    have n5_ := Aside0.mk (below_drew1 HB.out)
                    clear HO132
                    clear BK121
                    clear BK122
                    clear BK123
                    clear BK126
                    clear HB
                    have HO132 := n0_
                    have BK121 := n1_
                    have BK122 := n2_
                    have BK123 := n3_
                    have BK126 := n4_
                    have HB := n5_
                    clear n0_ n1_ n2_ n3_ n4_ n5_
                    refine start_ (n := 5) (S := fun w' => w'.cell? ⟨gb126, 0, none⟩ = some (.int .i64 ji39) ∧ w'.cell? ⟨gb126, 1, none⟩ = some (.int .i64 (rd l0_0 (ji39))) ∧ w'.cell? ⟨gb121, 0, none⟩ = some (.slice Ao57 y130.length co57) ∧ w'.cell? ⟨gb121, 1, none⟩ = some (.int .i64 a0_1) ∧ w'.cell? ⟨gb121, 2, none⟩ = some (.int .i64 0)) (ds := []) #[false, false, false, false, false] (by kernel_rfl) rfl rfl ⟨(blk_cell BK126.out 0).trans rfl, (blk_cell BK126.out 1).trans rfl, (blk_cell BK121.out 0).trans rfl, (blk_cell BK121.out 1).trans rfl, (blk_cell BK121.out 2).trans rfl⟩ (fun hHeld => ?_)
                    generalize w59.drew = w60 at HO132 BK121 BK122 BK123 BK126 HB hHeld ⊢
                    refine take_ (i := 0) (N := some 68) (v := ?_) (a' := ?_) #[true, false, false, false, false] rfl rfl (by kernel_rfl) (fun _ _ _ h => h) (Or.inl ⟨by rfl, ?_⟩) hHeld ?_ ?_
                    rotate_left
                    · rintro w' ⟨s0, s1, s2, s3, s4⟩
                      go_simp
                      with_reducible rfl
                    rotate_left
                    · simp only [Act.put, List.setIfInBounds_toArray, List.set_cons_zero, List.set_cons_succ, i64_w, i32_w]
                      rfl
                    refine take_ (i := 1) (N := some 69) (v := ?_) (a' := ?_) #[true, true, false, false, false] rfl rfl (by kernel_rfl) (fun _ _ _ h => h) (Or.inl ⟨by rfl, ?_⟩) hHeld ?_ ?_
                    rotate_left
                    · rintro w' ⟨s0, s1, s2, s3, s4⟩
                      go_simp
                      with_reducible rfl
                    rotate_left
                    · simp only [Act.put, List.setIfInBounds_toArray, List.set_cons_zero, List.set_cons_succ, i64_w, i32_w]
                      rfl
                    refine one_ (i := 2) (N := none) #[true, true, true, false, false] rfl rfl (by kernel_rfl) (by decide) (fun K hK => ?_)
                    have hs61 : w60.cell? ⟨gb122, 0, none⟩ = some (.int .i64 0) := (blk_cell BK122.out 0).trans rfl
                    have hfs61 := blk_frozen BK122.out 0
                    have hns61_0 := NB121_122.out
                    have hns61_2 := NB123_122.out
                    have hns61_3 := NB126_122.out
                    have hms61_0 := NB122_121.out
                    have hms61_2 := NB122_123.out
                    have hms61_3 := NB122_126.out
                    have hs62 : w60.cell? ⟨gb122, 1, none⟩ = some (.int .i64 0) := (blk_cell BK122.out 1).trans rfl
                    have hfs62 := blk_frozen BK122.out 1
                    have hns62_0 := NB121_122.out
                    have hns62_2 := NB123_122.out
                    have hns62_3 := NB126_122.out
                    have hms62_0 := NB122_121.out
                    have hms62_2 := NB122_123.out
                    have hms62_3 := NB122_126.out
                    refine skip_ (w1 := ?_) (by rfl) rfl ?_ ?_
                    rotate_left
                    · go_simp
                      rfl
                    refine hK.out _ _ ⟨((cell_far (p := ⟨gb122, _, none⟩) NB126_122.out _).trans (((cell_far (p := ⟨gb122, _, none⟩) NB126_122.out _).trans (hHeld.1)))), ((cell_far (p := ⟨gb122, _, none⟩) NB126_122.out _).trans (((cell_far (p := ⟨gb122, _, none⟩) NB126_122.out _).trans (hHeld.2.1)))), ((cell_far (p := ⟨gb122, _, none⟩) NB121_122.out _).trans (((cell_far (p := ⟨gb122, _, none⟩) NB121_122.out _).trans (hHeld.2.2.1)))), ((cell_far (p := ⟨gb122, _, none⟩) NB121_122.out _).trans (((cell_far (p := ⟨gb122, _, none⟩) NB121_122.out _).trans (hHeld.2.2.2.1)))), ((cell_far (p := ⟨gb122, _, none⟩) NB121_122.out _).trans (((cell_far (p := ⟨gb122, _, none⟩) NB121_122.out _).trans (hHeld.2.2.2.2))))⟩ (fun hHeld => ?_)
                    clear hK K
                    refine one_ (i := 3) (N := none) #[true, true, true, true, false] rfl rfl (by kernel_rfl) (by decide) (fun K hK => ?_)
                    have hs63 : w60.cell? ⟨gb123, 0, none⟩ = some (.slice none 0 0) := (blk_cell BK123.out 0).trans rfl
                    have hfs63 := blk_frozen BK123.out 0
                    have hns63_0 := NB121_123.out
                    have hns63_1 := NB122_123.out
                    have hns63_3 := NB126_123.out
                    have hms63_0 := NB123_121.out
                    have hms63_1 := NB123_122.out
                    have hms63_3 := NB123_126.out
                    have hs64 : w60.cell? ⟨gb123, 1, none⟩ = some (.int .i64 0) := (blk_cell BK123.out 1).trans rfl
                    have hfs64 := blk_frozen BK123.out 1
                    have hns64_0 := NB121_123.out
                    have hns64_1 := NB122_123.out
                    have hns64_3 := NB126_123.out
                    have hms64_0 := NB123_121.out
                    have hms64_1 := NB123_122.out
                    have hms64_3 := NB123_126.out
                    have hs65 : w60.cell? ⟨gb123, 2, none⟩ = some (.int .i64 0) := (blk_cell BK123.out 2).trans rfl
                    have hfs65 := blk_frozen BK123.out 2
                    have hns65_0 := NB121_123.out
                    have hns65_1 := NB122_123.out
                    have hns65_3 := NB126_123.out
                    have hms65_0 := NB123_121.out
                    have hms65_1 := NB123_122.out
                    have hms65_3 := NB123_126.out
                    refine skip_ (w1 := ?_) (by rfl) rfl ?_ ?_
                    rotate_left
                    · go_simp
                      rfl
                    refine hK.out _ _ ⟨((cell_far (p := ⟨gb123, _, none⟩) NB126_123.out _).trans (((cell_far (p := ⟨gb123, _, none⟩) NB126_123.out _).trans (((cell_far (p := ⟨gb123, _, none⟩) NB126_123.out _).trans (hHeld.1)))))), ((cell_far (p := ⟨gb123, _, none⟩) NB126_123.out _).trans (((cell_far (p := ⟨gb123, _, none⟩) NB126_123.out _).trans (((cell_far (p := ⟨gb123, _, none⟩) NB126_123.out _).trans (hHeld.2.1)))))), ((cell_far (p := ⟨gb123, _, none⟩) NB121_123.out _).trans (((cell_far (p := ⟨gb123, _, none⟩) NB121_123.out _).trans (((cell_far (p := ⟨gb123, _, none⟩) NB121_123.out _).trans (hHeld.2.2.1)))))), ((cell_far (p := ⟨gb123, _, none⟩) NB121_123.out _).trans (((cell_far (p := ⟨gb123, _, none⟩) NB121_123.out _).trans (((cell_far (p := ⟨gb123, _, none⟩) NB121_123.out _).trans (hHeld.2.2.2.1)))))), ((cell_far (p := ⟨gb123, _, none⟩) NB121_123.out _).trans (((cell_far (p := ⟨gb123, _, none⟩) NB121_123.out _).trans (((cell_far (p := ⟨gb123, _, none⟩) NB121_123.out _).trans (hHeld.2.2.2.2))))))⟩ (fun hHeld => ?_)
                    clear hK K
                    refine pure_ (i := 4) (N := some 6) (v := ?_) (a' := ?_) #[true, true, true, true, true] rfl rfl (by kernel_rfl) (fun _ _ _ h => h) (Or.inl ⟨by rfl, ?_⟩) ?_ ?_
                    rotate_left
                    · intro w'
                      go_simp
                      with_reducible rfl
                    rotate_left
                    · simp only [Act.put, List.setIfInBounds_toArray, List.set_cons_zero, List.set_cons_succ, i64_w, i32_w]
                      rfl
                    refine done_ (by kernel_rfl) ?_
                    try go_wp2
                    refine bodyPost_ret (results_list (rs := [.cell 4 54, .cell 5 55, .tmp 6]) rfl (by simp) (.cell gb122 54 #[.int .i64 ji39, .int .i64 (rd l0_0 (ji39))] (0, 0) _ rfl (by refine blk_far ?_ NB122_123.out _; refine blk_far ?_ NB122_123.out _; refine blk_far ?_ NB122_123.out _; refine blk_put (cs := #[.int .i64 ji39, .int .i64 0]) ?_ 1 _ rfl; refine blk_put (cs := #[.int .i64 0, .int .i64 0]) ?_ 0 _ rfl; exact BK122.out) Try.underlying54 rfl (by kernel_rfl) (.cell gb123 55 #[.slice Ao57 y130.length co57, .int .i64 a0_1, .int .i64 0] (0, 0) _ rfl (by refine blk_put (cs := #[.slice Ao57 y130.length co57, .int .i64 a0_1, .int .i64 0]) ?_ 2 _ rfl; refine blk_put (cs := #[.slice Ao57 y130.length co57, .int .i64 0, .int .i64 0]) ?_ 1 _ rfl; refine blk_put (cs := #[.slice none 0 0, .int .i64 0, .int .i64 0]) ?_ 0 _ rfl; refine blk_far ?_ NB123_122.out _; refine blk_far ?_ NB123_122.out _; exact BK123.out) Try.underlying55 rfl (by kernel_rfl) (.tmp .nil)))) rfl ?_
                    exact ⟨_, by first | rfl | (simp [errW_none, errW_some] <;> rfl) | (simp only [← hji39]; first | rfl | (simp [errW_none, errW_some] <;> rfl)) | (simp [*, errW_none, errW_some] <;> rfl), by exact Kd.R_mono (Kd.R_far (p := ⟨gb123, 2, none⟩) (Kd.R_far (p := ⟨gb123, 1, none⟩) (Kd.R_far (p := ⟨gb123, 0, none⟩) (Kd.R_far (p := ⟨gb122, 1, none⟩) (Kd.R_far (p := ⟨gb122, 0, none⟩) (Kd.R_types (Kd.R_types HO132.out BK122.out (by decide)) BK123.out (by decide)) (fun _ hk => hk.1.2) (.int .i64 ji39)) (fun _ hk => hk.1.2) (.int .i64 (rd l0_0 (ji39)))) (fun _ hk => hk.2) (.slice Ao57 y130.length co57)) (fun _ hk => hk.2) (.int .i64 a0_1)) (fun _ hk => hk.2) (.int .i64 0)) (fun _ hk => trivial), by repeat (first | (with_reducible first | exact HB.out | apply below_alloc | apply pw_below_drewN | apply below_drew1 | refine below_set ?_ GE121.out | refine below_set ?_ GE122.out | refine below_set ?_ GE123.out | refine below_set ?_ GE126.out) | exact HB.out)⟩
                  · rw [if_neg c42] at H
                    exact absurd H (by simp)
                · rw [if_neg c41] at H
                  exact absurd H (by simp)
              · rw [if_neg c40] at H
                exact absurd H (by simp)
            · rw [if_neg c38] at H
              have c38b0 : decide (30 ≤ (wrap64 (a0_2 + 1))) = false := decide_eq_false c38
              clear c38
              obtain ⟨ji66, hji66⟩ : ∃ j_ : Int, (wrap64 (a0_1 + (Int.tmod a0_2 a1))) = j_ := ⟨_, rfl⟩
              replace H : (if 0 ≤ (ji66) then (if (ji66) < (l0_0.length : Int) then ((some (([] : List Int) : List Int)).bind fun y135 => (if y135.length + l0_0.length < 17592186044416 then (some (ji66, rd l0_0 (ji66), (y135 ++ l0_0), a0_1, wrap64 (a0_2 + 1), true)) else (none))) else (none)) else (none)) = some (r1, r2, r3, r4, r5, r6) := by first | (rw [hji66] at H; exact H) | (simp only [hji66] at H ⊢; exact H)
              have hji66w : (IntKind.i64.wrap (a0_1 + (Int.tmod a0_2 a1))) = ji66 := (i64_w _).trans hji66
              by_cases c67 : 0 ≤ (ji66)
              · rw [if_pos c67] at H
                have c67b0 : decide (0 ≤ (ji66)) = true := decide_eq_true c67
                clear c67
                by_cases c68 : (ji66) < (l0_0.length : Int)
                · rw [if_pos c68] at H
                  have c68b0 : decide ((ji66) < (l0_0.length : Int)) = true := decide_eq_true c68
                  clear c68
                  obtain ⟨y135, hy135⟩ : ∃ y_ : List Int, y_ = (([] : List Int)) := ⟨_, rfl⟩
                  replace H : (if y135.length + l0_0.length < 17592186044416 then (some (ji66, rd l0_0 (ji66), (y135 ++ l0_0), a0_1, wrap64 (a0_2 + 1), true)) else (none)) = some (r1, r2, r3, r4, r5, r6) := by first | (rw [hy135]; with_reducible exact H) | (have H2_ := (Option.bind_some _ _).symm.trans H; rw [hy135]; with_reducible exact H2_) | (have H2_ := (Option.bind_some _ _).symm.trans H; with_reducible exact H2_) | with_reducible exact H | (rw [hy135]; exact H) | exact H
                  have Ny135 := Aside0.mk hy135
                  clear hy135
                  by_cases c69 : y135.length + l0_0.length < 17592186044416
                  · rw [if_pos c69] at H
                    have LMc69 := Aside0.mk c69
                    clear c69
                    obtain ⟨y138, hy138⟩ : ∃ y_ : List Int, y_ = (y135 ++ l0_0) := ⟨_, rfl⟩
                    replace H : (some (ji66, rd l0_0 (ji66), y138, a0_1, wrap64 (a0_2 + 1), true)) = some (r1, r2, r3, r4, r5, r6) := by first | (rw [hy138]; with_reducible exact H) | (have H2_ := (Option.bind_some _ _).symm.trans H; rw [hy138]; with_reducible exact H2_) | (have H2_ := (Option.bind_some _ _).symm.trans H; with_reducible exact H2_) | with_reducible exact H | (rw [hy138]; exact H) | exact H
                    have Ny138 := Aside0.mk hy138
                    clear hy138
                    simp only [Option.some.injEq, Prod.mk.injEq] at H
                    obtain ⟨rfl, rfl, rfl, rfl, rfl, rfl⟩ := H
                    have hnb70 := NB121_122.out
                    have hnc70 := NB122_121.out
                    have hnb71 := NB121_123.out
                    have hnc71 := NB123_121.out
                    have hcz72_0 : wc.cell? ⟨gb121, 0, none⟩ = some (.slice A0_0 l0_0.length c0_0) := (blk_cell BK121.out 0).trans rfl
                    have hcz72_1 : wc.cell? ⟨gb121, 1, none⟩ = some (.int .i64 a0_1) := (blk_cell BK121.out 1).trans rfl
                    have hcz72_2 : wc.cell? ⟨gb121, 2, none⟩ = some (.int .i64 a0_2) := (blk_cell BK121.out 2).trans rfl
                    have hfz72_0 := blk_frozen BK121.out 0
                    have hfz72_1 := blk_frozen BK121.out 1
                    have hfz72_2 := blk_frozen BK121.out 2
                    try go_wp2
                    have n0_ := Aside0.mk (blk_drew BK121.out)
                    have n1_ := Aside0.mk (blk_drew BK122.out)
                    have n2_ := Aside0.mk (blk_drew BK123.out)
                    have n3_ := Aside0.mk (below_drew1 HB.out)
                    clear BK121
                    clear BK122
                    clear BK123
                    clear HB
                    have BK121 := n0_
                    have BK122 := n1_
                    have BK123 := n2_
                    have HB := n3_
                    clear n0_ n1_ n2_ n3_
                    refine start_ (n := 8) (S := fun w' => w'.cell? ⟨gb121, 0, none⟩ = some (.slice A0_0 l0_0.length c0_0) ∧ w'.cell? ⟨gb121, 1, none⟩ = some (.int .i64 a0_1) ∧ w'.cell? ⟨gb121, 2, none⟩ = some (.int .i64 a0_2)) (ds := []) #[false, false, false, false, false, false, false, false] (by kernel_rfl) rfl rfl ⟨(blk_cell BK121.out 0).trans rfl, (blk_cell BK121.out 1).trans rfl, (blk_cell BK121.out 2).trans rfl⟩ (fun hHeld => ?_); refine with_tabW spec_SendNext.tab6 spec_SendNext.bits6 (fun HT_ HW_ => ?_)
                    generalize wc.drew = w73 at BK121 BK122 BK123 HB hHeld ⊢
                    refine pure_ (i := 0) (N := some 41) (v := ?_) (a' := ?_) #[true, false, false, false, false, false, false, false] rfl rfl (any_of HT_.out (by kernel_rfl)) (fun _ _ _ h => h) (Or.inl ⟨by rfl, ?_⟩) ?_ ?_
                    rotate_left
                    · intro w'
                      go_simp
                      with_reducible rfl
                    rotate_left
                    · simp only [Act.put, List.setIfInBounds_toArray, List.set_cons_zero, List.set_cons_succ, i64_w, i32_w]
                      rfl
                    refine pure_ (i := 2) (N := some 43) (v := ?_) (a' := ?_) #[true, false, true, false, false, false, false, false] rfl rfl (any_of HT_.out (by kernel_rfl)) (fun _ _ _ h => h) (Or.inl ⟨by rfl, ?_⟩) ?_ ?_
                    rotate_left
                    · intro w'
                      go_simp
                      with_reducible rfl
                    rotate_left
                    · simp only [Act.put, List.setIfInBounds_toArray, List.set_cons_zero, List.set_cons_succ, i64_w, i32_w]
                      rfl
                    refine pure_ (i := 4) (N := some 45) (v := ?_) (a' := ?_) #[true, false, true, false, true, false, false, false] rfl rfl (any_of HT_.out (by kernel_rfl)) (fun _ _ _ h => h) (Or.inl ⟨by rfl, ?_⟩) ?_ ?_
                    rotate_left
                    · intro w'
                      go_simp
                      with_reducible rfl
                    rotate_left
                    · simp only [Act.put, List.setIfInBounds_toArray, List.set_cons_zero, List.set_cons_succ, i64_w, i32_w]
                      rfl
                    refine take_ (i := 1) (N := some 42) (v := ?_) (a' := ?_) #[true, true, true, false, true, false, false, false] rfl rfl (take_ofW HT_.out HW_.out (by kernel_rfl)) (fun _ _ _ h => h) (Or.inl ⟨by rfl, ?_⟩) hHeld ?_ ?_
                    rotate_left
                    · rintro w' ⟨s0, s1, s2⟩
                      go_simp
                      with_reducible rfl
                    rotate_left
                    · simp only [Act.put, List.setIfInBounds_toArray, List.set_cons_zero, List.set_cons_succ, i64_w, i32_w]
                      rfl
                    refine take_ (i := 3) (N := some 44) (v := ?_) (a' := ?_) #[true, true, true, true, true, false, false, false] rfl rfl (take_ofW HT_.out HW_.out (by kernel_rfl)) (fun _ _ _ h => h) (Or.inl ⟨by rfl, ?_⟩) hHeld ?_ ?_
                    rotate_left
                    · rintro w' ⟨s0, s1, s2⟩
                      go_simp
                      with_reducible rfl
                    rotate_left
                    · simp only [Act.put, List.setIfInBounds_toArray, List.set_cons_zero, List.set_cons_succ, i64_w, i32_w]
                      rfl
                    refine pure_ (i := 5) (N := some 46) (v := ?_) (a' := ?_) #[true, true, true, true, true, true, false, false] rfl rfl (any_of HT_.out (by kernel_rfl)) (fun _ _ _ h => h) (Or.inl ⟨by rfl, ?_⟩) ?_ ?_
                    rotate_left
                    · intro w'
                      go_simp
                      with_reducible rfl
                    rotate_left
                    · simp only [Act.put, List.setIfInBounds_toArray, List.set_cons_zero, List.set_cons_succ, i64_w, i32_w]
                      rfl
                    refine pure_ (i := 6) (N := some 47) (v := ?_) (a' := ?_) #[true, true, true, true, true, true, true, false] rfl rfl (any_of HT_.out (by kernel_rfl)) (fun _ _ _ h => h) (Or.inl ⟨by rfl, ?_⟩) ?_ ?_
                    rotate_left
                    · intro w'
                      go_simp
                      with_reducible rfl
                    rotate_left
                    · simp only [Act.put, List.setIfInBounds_toArray, List.set_cons_zero, List.set_cons_succ, i64_w, i32_w]
                      rfl
                    refine pure_ (i := 7) (N := some 8) (v := ?_) (a' := ?_) #[true, true, true, true, true, true, true, true] rfl rfl (any_of HT_.out (by kernel_rfl)) (fun _ _ _ h => h) (Or.inl ⟨by rfl, ?_⟩) ?_ ?_
                    rotate_left
                    · intro w'
                      go_simp
                      with_reducible rfl
                    rotate_left
                    · simp only [Act.put, List.setIfInBounds_toArray, List.set_cons_zero, List.set_cons_succ, i64_w, i32_w]
                      rfl
                    refine done_ (done_of HT_.out (by kernel_rfl)) ?_
                    have hcz74_0 : w73.cell? ⟨gb121, 0, none⟩ = some (.slice A0_0 l0_0.length c0_0) := (blk_cell BK121.out 0).trans rfl
                    have hcz74_1 : w73.cell? ⟨gb121, 1, none⟩ = some (.int .i64 a0_1) := (blk_cell BK121.out 1).trans rfl
                    have hcz74_2 : w73.cell? ⟨gb121, 2, none⟩ = some (.int .i64 a0_2) := (blk_cell BK121.out 2).trans rfl
                    have hfz74_0 := blk_frozen BK121.out 0
                    have hfz74_1 := blk_frozen BK121.out 1
                    have hfz74_2 := blk_frozen BK121.out 2
                    have p133 : 0 ≤ ((ji66) : Int) := of_decide_eq_true (by first | (with_reducible assumption) | assumption)
                    have q133 : (ji66) < (l0_0.length : Int) := of_decide_eq_true (by first | (with_reducible assumption) | assumption)
                    obtain ⟨ad133, e133, hx133_0⟩ := Kd.at_int HR0_0.out (ji66) p133 q133
                    cases e133
                    have hn133_0 : ad133.block ≠ gb121 := Nat.ne_of_lt (Nat.lt_of_lt_of_le (by have := World.block_lt_of_cell? _ _ hx133_0; first | rwa [add_block] at this | exact this) GW121.out)
                    (first | replace hx133_0 := (HB.out.cell (World.block_lt_of_cell? w _ hx133_0)).trans hx133_0 | skip)
                    replace hx133_0 := (cell_far (p := ⟨gb121, 2, none⟩) (by first | (rw [add_block]; exact hn133_0) | (show (Addr.add _ _).block ≠ _; rw [add_block]; exact hn133_0) | exact hn133_0) (.int .i64 (wrap64 (a0_2 + 1)))).trans hx133_0
                    clear hn133_0
                    replace p133 := eq_true p133
                    replace q133 := eq_true q133
                    try go_wp2_with (first | ((with_reducible refine gate_dst (N := 9) rfl ?_); (try (refine gate_guard (by rfl) ?_; dsimp only)); refine box_event ?hg (N := 9) ?hd (cs := #[.int .i64 0, .int .i64 0]) (t := 54) ?hr ?_; (case hd => rfl); (case hg => rfl); (case hr => first | (go_simp; done) | (go_simp; rfl)); intro gb134 hg w75 hbox hb; have n0_ := Aside0.mk (blk_below (g := gb121) (o := .cells #[.slice (some ad133) l0_0.length c0_0, .int .i64 a0_1, .int .i64 (wrap64 (a0_2 + 1))] 55 (0, 0)) (by refine blk_put (cs := #[.slice (some ad133) l0_0.length c0_0, .int .i64 a0_1, .int .i64 a0_2]) ?_ 2 _ rfl; exact BK121.out) hb); have n1_ := Aside0.mk (blk_below (g := gb122) (o := .cells #[.int .i64 0, .int .i64 0] 54 (0, 0)) (by refine blk_far ?_ NB122_121.out _; exact BK122.out) hb); have n2_ := Aside0.mk (blk_below (g := gb123) (o := .cells #[.slice none 0 0, .int .i64 0, .int .i64 0] 55 (0, 0)) (by refine blk_far ?_ NB123_121.out _; exact BK123.out) hb); have n3_ := Aside0.mk (below_step (by repeat (first | (with_reducible first | exact HB.out | apply below_alloc | apply pw_below_drewN | apply below_drew1 | refine below_set ?_ GE121.out | refine below_set ?_ GE122.out | refine below_set ?_ GE123.out) | exact HB.out)) hb); have n4_ := Aside0.mk (hbox); have n5_ := Aside0.mk ((by rw [hg]; exact (below_size (by repeat (first | (with_reducible first | exact HB.out | apply below_alloc | apply pw_below_drewN | apply below_drew1 | refine below_set ?_ GE121.out | refine below_set ?_ GE122.out | refine below_set ?_ GE123.out) | exact HB.out))) : w.heap.size ≤ gb134)); have n6_ := Aside0.mk ((by rw [hg]; exact (below_size (by repeat (first | (with_reducible first | exact HB.out | apply below_alloc | apply pw_below_drewN | apply below_drew1 | refine below_set ?_ GE121.out | refine below_set ?_ GE122.out | refine below_set ?_ GE123.out) | exact HB.out))) : w.heap.size ≤ gb134)); have n7_ := Aside0.mk ((by rw [hg]; exact Nat.ne_of_lt (blk_lt (g := gb121) (o := .cells #[.slice (some ad133) l0_0.length c0_0, .int .i64 a0_1, .int .i64 (wrap64 (a0_2 + 1))] 55 (0, 0)) (by refine blk_put (cs := #[.slice (some ad133) l0_0.length c0_0, .int .i64 a0_1, .int .i64 a0_2]) ?_ 2 _ rfl; exact BK121.out)) : gb121 ≠ gb134)); have n8_ := Aside0.mk ((by rw [hg]; exact Nat.ne_of_gt (blk_lt (g := gb121) (o := .cells #[.slice (some ad133) l0_0.length c0_0, .int .i64 a0_1, .int .i64 (wrap64 (a0_2 + 1))] 55 (0, 0)) (by refine blk_put (cs := #[.slice (some ad133) l0_0.length c0_0, .int .i64 a0_1, .int .i64 a0_2]) ?_ 2 _ rfl; exact BK121.out)) : gb134 ≠ gb121)); have n9_ := Aside0.mk ((by rw [hg]; exact Nat.ne_of_lt (blk_lt (g := gb122) (o := .cells #[.int .i64 0, .int .i64 0] 54 (0, 0)) (by refine blk_far ?_ NB122_121.out _; exact BK122.out)) : gb122 ≠ gb134)); have n10_ := Aside0.mk ((by rw [hg]; exact Nat.ne_of_gt (blk_lt (g := gb122) (o := .cells #[.int .i64 0, .int .i64 0] 54 (0, 0)) (by refine blk_far ?_ NB122_121.out _; exact BK122.out)) : gb134 ≠ gb122)); have n11_ := Aside0.mk ((by rw [hg]; exact Nat.ne_of_lt (blk_lt (g := gb123) (o := .cells #[.slice none 0 0, .int .i64 0, .int .i64 0] 55 (0, 0)) (by refine blk_far ?_ NB123_121.out _; exact BK123.out)) : gb123 ≠ gb134)); have n12_ := Aside0.mk ((by rw [hg]; exact Nat.ne_of_gt (blk_lt (g := gb123) (o := .cells #[.slice none 0 0, .int .i64 0, .int .i64 0] 55 (0, 0)) (by refine blk_far ?_ NB123_121.out _; exact BK123.out)) : gb134 ≠ gb123)); clear BK121; clear BK122; clear BK123; clear HB; have BK121 := n0_; have BK122 := n1_; have BK123 := n2_; have HB := n3_; have BK134 := n4_; have GW134 := n5_; have GE134 := n6_; have NB121_134 := n7_; have NB134_121 := n8_; have NB122_134 := n9_; have NB134_122 := n10_; have NB123_134 := n11_; have NB134_123 := n12_; clear n0_ n1_ n2_ n3_ n4_ n5_ n6_ n7_ n8_ n9_ n10_ n11_ n12_; clear hb hbox hg; have hnb76 := NB134_121.out; have hnc76 := NB121_134.out; have hnb77 := NB134_122.out; have hnc77 := NB122_134.out; have hnb78 := NB134_123.out; have hnc78 := NB123_134.out; have hcz79_0 : w75.cell? ⟨gb134, 0, none⟩ = some (.int .i64 0) := (blk_cell BK134.out 0).trans rfl; have hcz79_1 : w75.cell? ⟨gb134, 1, none⟩ = some (.int .i64 0) := (blk_cell BK134.out 1).trans rfl; have hfz79_0 := blk_frozen BK134.out 0; have hfz79_1 := blk_frozen BK134.out 1) | ((with_reducible refine gate_dst (N := 63) rfl ?_); (try (refine gate_guard (by rfl) ?_; dsimp only)); refine Kd.R_lit (Kd.int .i64) _ 3 ?hg (N := 63) ?hd (xs := ([] : List Int)) (inner := []) (ok := fun _ => True) (okp := fun _ => True) ?hr ?hp (fun _ hk => hk) trivial (Below.refl _ _) (Nat.le_refl _) (by simp) ?_; (case hd => rfl); (case hg => rfl); (case hr => first | (go_simp; done) | (go_simp; rfl)); (case hp => exact (Reps.none _ _)); intro v136 w80 ho81 hb hg_ hnew_; clear hg_ hnew_; (first | rw [← Ny135.out] at ho81 | (simp only [Int.reduceToNat] at ho81; rw [← Ny135.out] at ho81)); have n0_ := Aside0.mk (Kd.R_lower ho81 (below_size (by repeat (first | (with_reducible first | exact HB.out | apply below_alloc | apply pw_below_drewN | apply below_drew1 | refine below_set ?_ GE121.out | refine below_set ?_ GE122.out | refine below_set ?_ GE123.out | refine below_set ?_ GE134.out) | exact HB.out)))); have n1_ := Aside0.mk (blk_below (g := gb121) (o := .cells #[.slice (some ad133) l0_0.length c0_0, .int .i64 a0_1, .int .i64 (wrap64 (a0_2 + 1))] 55 (0, 0)) (by refine blk_far ?_ NB121_134.out _; refine blk_far ?_ NB121_134.out _; exact BK121.out) hb); have n2_ := Aside0.mk (blk_below (g := gb122) (o := .cells #[.int .i64 0, .int .i64 0] 54 (0, 0)) (by refine blk_far ?_ NB122_134.out _; refine blk_far ?_ NB122_134.out _; exact BK122.out) hb); have n3_ := Aside0.mk (blk_below (g := gb123) (o := .cells #[.slice none 0 0, .int .i64 0, .int .i64 0] 55 (0, 0)) (by refine blk_far ?_ NB123_134.out _; refine blk_far ?_ NB123_134.out _; exact BK123.out) hb); have n4_ := Aside0.mk (blk_below (g := gb134) (o := .cells #[.int .i64 ji66, .int .i64 (rd l0_0 (ji66))] 54 (0, 0)) (by refine blk_put (cs := #[.int .i64 ji66, .int .i64 0]) ?_ 1 _ rfl; refine blk_put (cs := #[.int .i64 0, .int .i64 0]) ?_ 0 _ rfl; exact BK134.out) hb); have n5_ := Aside0.mk (below_step (by repeat (first | (with_reducible first | exact HB.out | apply below_alloc | apply pw_below_drewN | apply below_drew1 | refine below_set ?_ GE121.out | refine below_set ?_ GE122.out | refine below_set ?_ GE123.out | refine below_set ?_ GE134.out) | exact HB.out)) hb); clear BK121; clear BK122; clear BK123; clear BK134; clear HB; have HO137 := n0_; have BK121 := n1_; have BK122 := n2_; have BK123 := n3_; have BK134 := n4_; have HB := n5_; clear n0_ n1_ n2_ n3_ n4_ n5_; clear hb ho81; have hcz82_0 : w80.cell? ⟨gb121, 0, none⟩ = some (.slice (some ad133) l0_0.length c0_0) := (blk_cell BK121.out 0).trans rfl; have hcz82_1 : w80.cell? ⟨gb121, 1, none⟩ = some (.int .i64 a0_1) := (blk_cell BK121.out 1).trans rfl; have hcz82_2 : w80.cell? ⟨gb121, 2, none⟩ = some (.int .i64 (wrap64 (a0_2 + 1))) := (blk_cell BK121.out 2).trans rfl; have hfz82_0 := blk_frozen BK121.out 0; have hfz82_1 := blk_frozen BK121.out 1; have hfz82_2 := blk_frozen BK121.out 2) | ((with_reducible refine gate_builtin (b := .append) (xs := #[.tmp 63, .tmp 65]) rfl ?_); (try (refine gate_guard (by rfl) ?_; dsimp only)); at_builtin; refine Kd.R_append_rows (Kd.int .i64) (w0 := w) w.heap.size rfl (.tmp 63) (.tmp 65) 22 3 (.int .i64 0) 8 rfl Try.underlying22 info3 rfl (by decide) (by omega) v136 y135 l0_0 _ _ _ (fun _ => True) (fun _ => False) rfl rfl ?aO ?aR (fun _ _ h => h) (fun _ h => h.elim) ?aF ?aB ?aS ?aL ?_; (case aR => repeat (first | exact (Kd.C_below HR0_0.out HB.out) | (with_reducible refine Kd.C_alloc ?_ _) | (with_reducible refine Kd.C_drewN ?_ _) | (with_reducible refine Kd.C_drew ?_))); (case aB => exact (by repeat (first | (with_reducible first | exact HB.out | apply below_alloc | apply pw_below_drewN | apply below_drew1 | refine below_set ?_ GE121.out | refine below_set ?_ GE122.out | refine below_set ?_ GE123.out | refine below_set ?_ GE134.out) | exact HB.out))); (case aF => exact (fun _ _ => trivial)); (case aO => exact HO137.out); (case aS => exact (below_size (by repeat (first | (with_reducible first | exact HB.out | apply below_alloc | apply pw_below_drewN | apply below_drew1 | refine below_set ?_ GE121.out | refine below_set ?_ GE122.out | refine below_set ?_ GE123.out | refine below_set ?_ GE134.out) | exact HB.out)))); (case aL => have := LMc69.out; omega); intro v139 w83 ho hb hg hat; rw [← Ny138.out] at ho; have n0_ := Aside0.mk (blk_grown (g := gb121) (o := .cells #[.slice (some ad133) l0_0.length c0_0, .int .i64 a0_1, .int .i64 (wrap64 (a0_2 + 1))] 55 (0, 0)) BK121.out hg (Kd.R_ne HO137.out BK121.out (by decide))); have n1_ := Aside0.mk (blk_grown (g := gb122) (o := .cells #[.int .i64 0, .int .i64 0] 54 (0, 0)) BK122.out hg (Kd.R_ne HO137.out BK122.out (by decide))); have n2_ := Aside0.mk (blk_grown (g := gb123) (o := .cells #[.slice none 0 0, .int .i64 0, .int .i64 0] 55 (0, 0)) BK123.out hg (Kd.R_ne HO137.out BK123.out (by decide))); have n3_ := Aside0.mk (blk_grown (g := gb134) (o := .cells #[.int .i64 ji66, .int .i64 (rd l0_0 (ji66))] 54 (0, 0)) BK134.out hg (Kd.R_ne HO137.out BK134.out (by decide))); have n4_ := Aside0.mk (hb); have n5_ := Aside0.mk (ho); clear BK121; clear BK122; clear BK123; clear BK134; clear HB; clear HO137; have BK121 := n0_; have BK122 := n1_; have BK123 := n2_; have BK134 := n3_; have HB := n4_; have HO140 := n5_; clear n0_ n1_ n2_ n3_ n4_ n5_; clear ho hb hg hat; obtain ⟨Ao84, co84, eo84⟩ := Kd.R_slice HO140.out; subst eo84; have hcz85_0 : w83.cell? ⟨gb121, 0, none⟩ = some (.slice (some ad133) l0_0.length c0_0) := (blk_cell BK121.out 0).trans rfl; have hcz85_1 : w83.cell? ⟨gb121, 1, none⟩ = some (.int .i64 a0_1) := (blk_cell BK121.out 1).trans rfl; have hcz85_2 : w83.cell? ⟨gb121, 2, none⟩ = some (.int .i64 (wrap64 (a0_2 + 1))) := (blk_cell BK121.out 2).trans rfl; have hfz85_0 := blk_frozen BK121.out 0; have hfz85_1 := blk_frozen BK121.out 1; have hfz85_2 := blk_frozen BK121.out 2))
                    have n0_ : Aside0 (Kd.R (Kd.int .i64) 3 (w83.setCell ⟨gb121, 0, none⟩ (.slice Ao84 y138.length co84)) w.heap.size (fun _ => True) (.slice Ao84 y138.length co84) y138) := ⟨by exact Kd.R_mono (Kd.R_far (p := ⟨gb121, 0, none⟩) (Kd.R_types HO140.out BK121.out (by decide)) (fun _ hk => hk.2) (.slice Ao84 y138.length co84)) (fun _ hk => trivial)⟩
                    have n1_ : Aside0 ((w83.setCell ⟨gb121, 0, none⟩ (.slice Ao84 y138.length co84)).heap[gb121]? = some (.cells #[.slice Ao84 y138.length co84, .int .i64 a0_1, .int .i64 (wrap64 (a0_2 + 1))] 55 (0, 0))) := ⟨by refine blk_put (cs := #[.slice (some ad133) l0_0.length c0_0, .int .i64 a0_1, .int .i64 (wrap64 (a0_2 + 1))]) ?_ 0 _ rfl; exact BK121.out⟩
                    have n2_ : Aside0 ((w83.setCell ⟨gb121, 0, none⟩ (.slice Ao84 y138.length co84)).heap[gb122]? = some (.cells #[.int .i64 0, .int .i64 0] 54 (0, 0))) := ⟨by refine blk_far ?_ NB122_121.out _; exact BK122.out⟩
                    have n3_ : Aside0 ((w83.setCell ⟨gb121, 0, none⟩ (.slice Ao84 y138.length co84)).heap[gb123]? = some (.cells #[.slice none 0 0, .int .i64 0, .int .i64 0] 55 (0, 0))) := ⟨by refine blk_far ?_ NB123_121.out _; exact BK123.out⟩
                    have n4_ : Aside0 ((w83.setCell ⟨gb121, 0, none⟩ (.slice Ao84 y138.length co84)).heap[gb134]? = some (.cells #[.int .i64 ji66, .int .i64 (rd l0_0 (ji66))] 54 (0, 0))) := ⟨by refine blk_far ?_ NB134_121.out _; exact BK134.out⟩
                    have n5_ : Aside0 (Below w.heap.size w (w83.setCell ⟨gb121, 0, none⟩ (.slice Ao84 y138.length co84))) := ⟨by repeat (first | (with_reducible first | exact HB.out | apply below_alloc | apply pw_below_drewN | apply below_drew1 | refine below_set ?_ GE121.out | refine below_set ?_ GE122.out | refine below_set ?_ GE123.out | refine below_set ?_ GE134.out) | exact HB.out)⟩
                    (try clear HO140)
                    (try clear BK121)
                    (try clear BK122)
                    (try clear BK123)
                    (try clear BK134)
                    (try clear HB)
                    generalize (w83.setCell ⟨gb121, 0, none⟩ (.slice Ao84 y138.length co84)) = w86 at n0_ n1_ n2_ n3_ n4_ n5_ ⊢
                    have HO140 := n0_
                    have BK121 := n1_
                    have BK122 := n2_
                    have BK123 := n3_
                    have BK134 := n4_
                    have HB := n5_
                    clear n0_ n1_ n2_ n3_ n4_ n5_
                    have n0_ := Aside0.mk (Kd.R_drew HO140.out)
                    have n1_ := Aside0.mk (blk_drew BK121.out)
                    have n2_ := Aside0.mk (blk_drew BK122.out)
                    have n3_ := Aside0.mk (blk_drew BK123.out)
                    have n4_ := Aside0.mk (blk_drew BK134.out)
                    have n5_ := Aside0.mk (below_drew1 HB.out)
                    clear HO140
                    clear BK121
                    clear BK122
                    clear BK123
                    clear BK134
                    clear HB
                    have HO140 := n0_
                    have BK121 := n1_
                    have BK122 := n2_
                    have BK123 := n3_
                    have BK134 := n4_
                    have HB := n5_
                    clear n0_ n1_ n2_ n3_ n4_ n5_
                    refine start_ (n := 5) (S := fun w' => w'.cell? ⟨gb134, 0, none⟩ = some (.int .i64 ji66) ∧ w'.cell? ⟨gb134, 1, none⟩ = some (.int .i64 (rd l0_0 (ji66))) ∧ w'.cell? ⟨gb121, 0, none⟩ = some (.slice Ao84 y138.length co84) ∧ w'.cell? ⟨gb121, 1, none⟩ = some (.int .i64 a0_1) ∧ w'.cell? ⟨gb121, 2, none⟩ = some (.int .i64 (wrap64 (a0_2 + 1)))) (ds := []) #[false, false, false, false, false] (by kernel_rfl) rfl rfl ⟨(blk_cell BK134.out 0).trans rfl, (blk_cell BK134.out 1).trans rfl, (blk_cell BK121.out 0).trans rfl, (blk_cell BK121.out 1).trans rfl, (blk_cell BK121.out 2).trans rfl⟩ (fun hHeld => ?_)
                    generalize w86.drew = w87 at HO140 BK121 BK122 BK123 BK134 HB hHeld ⊢
                    refine take_ (i := 0) (N := some 68) (v := ?_) (a' := ?_) #[true, false, false, false, false] rfl rfl (by kernel_rfl) (fun _ _ _ h => h) (Or.inl ⟨by rfl, ?_⟩) hHeld ?_ ?_
                    rotate_left
                    · rintro w' ⟨s0, s1, s2, s3, s4⟩
                      go_simp
                      with_reducible rfl
                    rotate_left
                    · simp only [Act.put, List.setIfInBounds_toArray, List.set_cons_zero, List.set_cons_succ, i64_w, i32_w]
                      rfl
                    refine take_ (i := 1) (N := some 69) (v := ?_) (a' := ?_) #[true, true, false, false, false] rfl rfl (by kernel_rfl) (fun _ _ _ h => h) (Or.inl ⟨by rfl, ?_⟩) hHeld ?_ ?_
                    rotate_left
                    · rintro w' ⟨s0, s1, s2, s3, s4⟩
                      go_simp
                      with_reducible rfl
                    rotate_left
                    · simp only [Act.put, List.setIfInBounds_toArray, List.set_cons_zero, List.set_cons_succ, i64_w, i32_w]
                      rfl
                    refine one_ (i := 2) (N := none) #[true, true, true, false, false] rfl rfl (by kernel_rfl) (by decide) (fun K hK => ?_)
                    have hs88 : w87.cell? ⟨gb122, 0, none⟩ = some (.int .i64 0) := (blk_cell BK122.out 0).trans rfl
                    have hfs88 := blk_frozen BK122.out 0
                    have hns88_0 := NB121_122.out
                    have hns88_2 := NB123_122.out
                    have hns88_3 := NB134_122.out
                    have hms88_0 := NB122_121.out
                    have hms88_2 := NB122_123.out
                    have hms88_3 := NB122_134.out
                    have hs89 : w87.cell? ⟨gb122, 1, none⟩ = some (.int .i64 0) := (blk_cell BK122.out 1).trans rfl
                    have hfs89 := blk_frozen BK122.out 1
                    have hns89_0 := NB121_122.out
                    have hns89_2 := NB123_122.out
                    have hns89_3 := NB134_122.out
                    have hms89_0 := NB122_121.out
                    have hms89_2 := NB122_123.out
                    have hms89_3 := NB122_134.out
                    refine skip_ (w1 := ?_) (by rfl) rfl ?_ ?_
                    rotate_left
                    · go_simp
                      rfl
                    refine hK.out _ _ ⟨((cell_far (p := ⟨gb122, _, none⟩) NB134_122.out _).trans (((cell_far (p := ⟨gb122, _, none⟩) NB134_122.out _).trans (hHeld.1)))), ((cell_far (p := ⟨gb122, _, none⟩) NB134_122.out _).trans (((cell_far (p := ⟨gb122, _, none⟩) NB134_122.out _).trans (hHeld.2.1)))), ((cell_far (p := ⟨gb122, _, none⟩) NB121_122.out _).trans (((cell_far (p := ⟨gb122, _, none⟩) NB121_122.out _).trans (hHeld.2.2.1)))), ((cell_far (p := ⟨gb122, _, none⟩) NB121_122.out _).trans (((cell_far (p := ⟨gb122, _, none⟩) NB121_122.out _).trans (hHeld.2.2.2.1)))), ((cell_far (p := ⟨gb122, _, none⟩) NB121_122.out _).trans (((cell_far (p := ⟨gb122, _, none⟩) NB121_122.out _).trans (hHeld.2.2.2.2))))⟩ (fun hHeld => ?_)
                    clear hK K
                    refine one_ (i := 3) (N := none) #[true, true, true, true, false] rfl rfl (by kernel_rfl) (by decide) (fun K hK => ?_)
                    have hs90 : w87.cell? ⟨gb123, 0, none⟩ = some (.slice none 0 0) := (blk_cell BK123.out 0).trans rfl
                    have hfs90 := blk_frozen BK123.out 0
                    have hns90_0 := NB121_123.out
                    have hns90_1 := NB122_123.out
                    have hns90_3 := NB134_123.out
                    have hms90_0 := NB123_121.out
                    have hms90_1 := NB123_122.out
                    have hms90_3 := NB123_134.out
                    have hs91 : w87.cell? ⟨gb123, 1, none⟩ = some (.int .i64 0) := (blk_cell BK123.out 1).trans rfl
                    have hfs91 := blk_frozen BK123.out 1
                    have hns91_0 := NB121_123.out
                    have hns91_1 := NB122_123.out
                    have hns91_3 := NB134_123.out
                    have hms91_0 := NB123_121.out
                    have hms91_1 := NB123_122.out
                    have hms91_3 := NB123_134.out
                    have hs92 : w87.cell? ⟨gb123, 2, none⟩ = some (.int .i64 0) := (blk_cell BK123.out 2).trans rfl
                    have hfs92 := blk_frozen BK123.out 2
                    have hns92_0 := NB121_123.out
                    have hns92_1 := NB122_123.out
                    have hns92_3 := NB134_123.out
                    have hms92_0 := NB123_121.out
                    have hms92_1 := NB123_122.out
                    have hms92_3 := NB123_134.out
                    refine skip_ (w1 := ?_) (by rfl) rfl ?_ ?_
                    rotate_left
                    · go_simp
                      rfl
                    refine hK.out _ _ ⟨((cell_far (p := ⟨gb123, _, none⟩) NB134_123.out _).trans (((cell_far (p := ⟨gb123, _, none⟩) NB134_123.out _).trans (((cell_far (p := ⟨gb123, _, none⟩) NB134_123.out _).trans (hHeld.1)))))), ((cell_far (p := ⟨gb123, _, none⟩) NB134_123.out _).trans (((cell_far (p := ⟨gb123, _, none⟩) NB134_123.out _).trans (((cell_far (p := ⟨gb123, _, none⟩) NB134_123.out _).trans (hHeld.2.1)))))), ((cell_far (p := ⟨gb123, _, none⟩) NB121_123.out _).trans (((cell_far (p := ⟨gb123, _, none⟩) NB121_123.out _).trans (((cell_far (p := ⟨gb123, _, none⟩) NB121_123.out _).trans (hHeld.2.2.1)))))), ((cell_far (p := ⟨gb123, _, none⟩) NB121_123.out _).trans (((cell_far (p := ⟨gb123, _, none⟩) NB121_123.out _).trans (((cell_far (p := ⟨gb123, _, none⟩) NB121_123.out _).trans (hHeld.2.2.2.1)))))), ((cell_far (p := ⟨gb123, _, none⟩) NB121_123.out _).trans (((cell_far (p := ⟨gb123, _, none⟩) NB121_123.out _).trans (((cell_far (p := ⟨gb123, _, none⟩) NB121_123.out _).trans (hHeld.2.2.2.2))))))⟩ (fun hHeld => ?_)
                    clear hK K
                    refine pure_ (i := 4) (N := some 6) (v := ?_) (a' := ?_) #[true, true, true, true, true] rfl rfl (by kernel_rfl) (fun _ _ _ h => h) (Or.inl ⟨by rfl, ?_⟩) ?_ ?_
                    rotate_left
                    · intro w'
                      go_simp
                      with_reducible rfl
                    rotate_left
                    · simp only [Act.put, List.setIfInBounds_toArray, List.set_cons_zero, List.set_cons_succ, i64_w, i32_w]
                      rfl
                    refine done_ (by kernel_rfl) ?_
                    try go_wp2
                    refine bodyPost_ret (results_list (rs := [.cell 4 54, .cell 5 55, .tmp 6]) rfl (by simp) (.cell gb122 54 #[.int .i64 ji66, .int .i64 (rd l0_0 (ji66))] (0, 0) _ rfl (by refine blk_far ?_ NB122_123.out _; refine blk_far ?_ NB122_123.out _; refine blk_far ?_ NB122_123.out _; refine blk_put (cs := #[.int .i64 ji66, .int .i64 0]) ?_ 1 _ rfl; refine blk_put (cs := #[.int .i64 0, .int .i64 0]) ?_ 0 _ rfl; exact BK122.out) Try.underlying54 rfl (by kernel_rfl) (.cell gb123 55 #[.slice Ao84 y138.length co84, .int .i64 a0_1, .int .i64 (wrap64 (a0_2 + 1))] (0, 0) _ rfl (by refine blk_put (cs := #[.slice Ao84 y138.length co84, .int .i64 a0_1, .int .i64 0]) ?_ 2 _ rfl; refine blk_put (cs := #[.slice Ao84 y138.length co84, .int .i64 0, .int .i64 0]) ?_ 1 _ rfl; refine blk_put (cs := #[.slice none 0 0, .int .i64 0, .int .i64 0]) ?_ 0 _ rfl; refine blk_far ?_ NB123_122.out _; refine blk_far ?_ NB123_122.out _; exact BK123.out) Try.underlying55 rfl (by kernel_rfl) (.tmp .nil)))) rfl ?_
                    exact ⟨_, by first | rfl | (simp [errW_none, errW_some] <;> rfl) | (simp only [← hji66]; first | rfl | (simp [errW_none, errW_some] <;> rfl)) | (simp [*, errW_none, errW_some] <;> rfl), by exact Kd.R_mono (Kd.R_far (p := ⟨gb123, 2, none⟩) (Kd.R_far (p := ⟨gb123, 1, none⟩) (Kd.R_far (p := ⟨gb123, 0, none⟩) (Kd.R_far (p := ⟨gb122, 1, none⟩) (Kd.R_far (p := ⟨gb122, 0, none⟩) (Kd.R_types (Kd.R_types HO140.out BK122.out (by decide)) BK123.out (by decide)) (fun _ hk => hk.1.2) (.int .i64 ji66)) (fun _ hk => hk.1.2) (.int .i64 (rd l0_0 (ji66)))) (fun _ hk => hk.2) (.slice Ao84 y138.length co84)) (fun _ hk => hk.2) (.int .i64 a0_1)) (fun _ hk => hk.2) (.int .i64 (wrap64 (a0_2 + 1)))) (fun _ hk => trivial), by repeat (first | (with_reducible first | exact HB.out | apply below_alloc | apply pw_below_drewN | apply below_drew1 | refine below_set ?_ GE121.out | refine below_set ?_ GE122.out | refine below_set ?_ GE123.out | refine below_set ?_ GE134.out) | exact HB.out)⟩
                  · rw [if_neg c69] at H
                    exact absurd H (by simp)
                · rw [if_neg c68] at H
                  exact absurd H (by simp)
              · rw [if_neg c67] at H
                exact absurd H (by simp)
        · rw [if_neg c36] at H
          have c36b0 : decide (a1 < (wrap64 ((l0_0.length : Int) - a0_1))) = false := decide_eq_false c36
          clear c36
          by_cases c93 : (wrap64 ((l0_0.length : Int) - a0_1)) = 0
          · rw [if_pos c93] at H
            exact absurd H (by simp)
          · rw [if_neg c93] at H
            have c93b0 : ((wrap64 ((l0_0.length : Int) - a0_1)) == 0) = false := beq_eq_false_iff_ne.mpr c93
            have c93b1 : ((wrap64 ((l0_0.length : Int) - a0_1)) != 0) = true := bne_iff_ne.mpr c93
            by_cases c94 : (wrap64 (a0_2 + 1)) ≥ 30
            · rw [if_pos c94] at H
              have c94b0 : decide (30 ≤ (wrap64 (a0_2 + 1))) = true := decide_eq_true c94
              clear c94
              obtain ⟨ji95, hji95⟩ : ∃ j_ : Int, (wrap64 (a0_1 + (Int.tmod a0_2 (wrap64 ((l0_0.length : Int) - a0_1))))) = j_ := ⟨_, rfl⟩
              replace H : (if 0 ≤ (ji95) then (if (ji95) < (l0_0.length : Int) then ((some (([] : List Int) : List Int)).bind fun y143 => (if y143.length + l0_0.length < 17592186044416 then (some (ji95, rd l0_0 (ji95), (y143 ++ l0_0), a0_1, 0, true)) else (none))) else (none)) else (none)) = some (r1, r2, r3, r4, r5, r6) := by first | (rw [hji95] at H; exact H) | (simp only [hji95] at H ⊢; exact H)
              have hji95w : (IntKind.i64.wrap (a0_1 + (Int.tmod a0_2 (wrap64 ((l0_0.length : Int) - a0_1))))) = ji95 := (i64_w _).trans hji95
              by_cases c96 : 0 ≤ (ji95)
              · rw [if_pos c96] at H
                have c96b0 : decide (0 ≤ (ji95)) = true := decide_eq_true c96
                clear c96
                by_cases c97 : (ji95) < (l0_0.length : Int)
                · rw [if_pos c97] at H
                  have c97b0 : decide ((ji95) < (l0_0.length : Int)) = true := decide_eq_true c97
                  clear c97
                  obtain ⟨y143, hy143⟩ : ∃ y_ : List Int, y_ = (([] : List Int)) := ⟨_, rfl⟩
                  replace H : (if y143.length + l0_0.length < 17592186044416 then (some (ji95, rd l0_0 (ji95), (y143 ++ l0_0), a0_1, 0, true)) else (none)) = some (r1, r2, r3, r4, r5, r6) := by first | (rw [hy143]; with_reducible exact H) | (have H2_ := (Option.bind_some _ _).symm.trans H; rw [hy143]; with_reducible exact H2_) | (have H2_ := (Option.bind_some _ _).symm.trans H; with_reducible exact H2_) | with_reducible exact H | (rw [hy143]; exact H) | exact H
                  have Ny143 := Aside0.mk hy143
                  clear hy143
                  by_cases c98 : y143.length + l0_0.length < 17592186044416
                  · rw [if_pos c98] at H
                    have LMc98 := Aside0.mk c98
                    clear c98
                    obtain ⟨y146, hy146⟩ : ∃ y_ : List Int, y_ = (y143 ++ l0_0) := ⟨_, rfl⟩
                    replace H : (some (ji95, rd l0_0 (ji95), y146, a0_1, 0, true)) = some (r1, r2, r3, r4, r5, r6) := by first | (rw [hy146]; with_reducible exact H) | (have H2_ := (Option.bind_some _ _).symm.trans H; rw [hy146]; with_reducible exact H2_) | (have H2_ := (Option.bind_some _ _).symm.trans H; with_reducible exact H2_) | with_reducible exact H | (rw [hy146]; exact H) | exact H
                    have Ny146 := Aside0.mk hy146
                    clear hy146
                    simp only [Option.some.injEq, Prod.mk.injEq] at H
                    obtain ⟨rfl, rfl, rfl, rfl, rfl, rfl⟩ := H
                    have hnb99 := NB121_122.out
                    have hnc99 := NB122_121.out
                    have hnb100 := NB121_123.out
                    have hnc100 := NB123_121.out
                    have hcz101_0 : wc.cell? ⟨gb121, 0, none⟩ = some (.slice A0_0 l0_0.length c0_0) := (blk_cell BK121.out 0).trans rfl
                    have hcz101_1 : wc.cell? ⟨gb121, 1, none⟩ = some (.int .i64 a0_1) := (blk_cell BK121.out 1).trans rfl
                    have hcz101_2 : wc.cell? ⟨gb121, 2, none⟩ = some (.int .i64 a0_2) := (blk_cell BK121.out 2).trans rfl
                    have hfz101_0 := blk_frozen BK121.out 0
                    have hfz101_1 := blk_frozen BK121.out 1
                    have hfz101_2 := blk_frozen BK121.out 2
                    try go_wp2
                    have n0_ := Aside0.mk (blk_drew BK121.out)
                    have n1_ := Aside0.mk (blk_drew BK122.out)
                    have n2_ := Aside0.mk (blk_drew BK123.out)
                    have n3_ := Aside0.mk (below_drew1 HB.out)
                    clear BK121
                    clear BK122
                    clear BK123
                    clear HB
                    have BK121 := n0_
                    have BK122 := n1_
                    have BK123 := n2_
                    have HB := n3_
                    clear n0_ n1_ n2_ n3_
                    refine start_ (n := 8) (S := fun w' => w'.cell? ⟨gb121, 0, none⟩ = some (.slice A0_0 l0_0.length c0_0) ∧ w'.cell? ⟨gb121, 1, none⟩ = some (.int .i64 a0_1) ∧ w'.cell? ⟨gb121, 2, none⟩ = some (.int .i64 a0_2)) (ds := []) #[false, false, false, false, false, false, false, false] (by kernel_rfl) rfl rfl ⟨(blk_cell BK121.out 0).trans rfl, (blk_cell BK121.out 1).trans rfl, (blk_cell BK121.out 2).trans rfl⟩ (fun hHeld => ?_); refine with_tabW spec_SendNext.tab6 spec_SendNext.bits6 (fun HT_ HW_ => ?_)
                    generalize wc.drew = w102 at BK121 BK122 BK123 HB hHeld ⊢
                    refine pure_ (i := 0) (N := some 41) (v := ?_) (a' := ?_) #[true, false, false, false, false, false, false, false] rfl rfl (any_of HT_.out (by kernel_rfl)) (fun _ _ _ h => h) (Or.inl ⟨by rfl, ?_⟩) ?_ ?_
                    rotate_left
                    · intro w'
                      go_simp
                      with_reducible rfl
                    rotate_left
                    · simp only [Act.put, List.setIfInBounds_toArray, List.set_cons_zero, List.set_cons_succ, i64_w, i32_w]
                      rfl
                    refine pure_ (i := 2) (N := some 43) (v := ?_) (a' := ?_) #[true, false, true, false, false, false, false, false] rfl rfl (any_of HT_.out (by kernel_rfl)) (fun _ _ _ h => h) (Or.inl ⟨by rfl, ?_⟩) ?_ ?_
                    rotate_left
                    · intro w'
                      go_simp
                      with_reducible rfl
                    rotate_left
                    · simp only [Act.put, List.setIfInBounds_toArray, List.set_cons_zero, List.set_cons_succ, i64_w, i32_w]
                      rfl
                    refine pure_ (i := 4) (N := some 45) (v := ?_) (a' := ?_) #[true, false, true, false, true, false, false, false] rfl rfl (any_of HT_.out (by kernel_rfl)) (fun _ _ _ h => h) (Or.inl ⟨by rfl, ?_⟩) ?_ ?_
                    rotate_left
                    · intro w'
                      go_simp
                      with_reducible rfl
                    rotate_left
                    · simp only [Act.put, List.setIfInBounds_toArray, List.set_cons_zero, List.set_cons_succ, i64_w, i32_w]
                      rfl
                    refine take_ (i := 1) (N := some 42) (v := ?_) (a' := ?_) #[true, true, true, false, true, false, false, false] rfl rfl (take_ofW HT_.out HW_.out (by kernel_rfl)) (fun _ _ _ h => h) (Or.inl ⟨by rfl, ?_⟩) hHeld ?_ ?_
                    rotate_left
                    · rintro w' ⟨s0, s1, s2⟩
                      go_simp
                      with_reducible rfl
                    rotate_left
                    · simp only [Act.put, List.setIfInBounds_toArray, List.set_cons_zero, List.set_cons_succ, i64_w, i32_w]
                      rfl
                    refine take_ (i := 3) (N := some 44) (v := ?_) (a' := ?_) #[true, true, true, true, true, false, false, false] rfl rfl (take_ofW HT_.out HW_.out (by kernel_rfl)) (fun _ _ _ h => h) (Or.inl ⟨by rfl, ?_⟩) hHeld ?_ ?_
                    rotate_left
                    · rintro w' ⟨s0, s1, s2⟩
                      go_simp
                      with_reducible rfl
                    rotate_left
                    · simp only [Act.put, List.setIfInBounds_toArray, List.set_cons_zero, List.set_cons_succ, i64_w, i32_w]
                      rfl
                    refine pure_ (i := 5) (N := some 46) (v := ?_) (a' := ?_) #[true, true, true, true, true, true, false, false] rfl rfl (any_of HT_.out (by kernel_rfl)) (fun _ _ _ h => h) (Or.inl ⟨by rfl, ?_⟩) ?_ ?_
                    rotate_left
                    · intro w'
                      go_simp
                      with_reducible rfl
                    rotate_left
                    · simp only [Act.put, List.setIfInBounds_toArray, List.set_cons_zero, List.set_cons_succ, i64_w, i32_w]
                      rfl
                    refine pure_ (i := 6) (N := some 47) (v := ?_) (a' := ?_) #[true, true, true, true, true, true, true, false] rfl rfl (any_of HT_.out (by kernel_rfl)) (fun _ _ _ h => h) (Or.inl ⟨by rfl, ?_⟩) ?_ ?_
                    rotate_left
                    · intro w'
                      go_simp
                      with_reducible rfl
                    rotate_left
                    · simp only [Act.put, List.setIfInBounds_toArray, List.set_cons_zero, List.set_cons_succ, i64_w, i32_w]
                      rfl
                    refine pure_ (i := 7) (N := some 8) (v := ?_) (a' := ?_) #[true, true, true, true, true, true, true, true] rfl rfl (any_of HT_.out (by kernel_rfl)) (fun _ _ _ h => h) (Or.inl ⟨by rfl, ?_⟩) ?_ ?_
                    rotate_left
                    · intro w'
                      go_simp
                      with_reducible rfl
                    rotate_left
                    · simp only [Act.put, List.setIfInBounds_toArray, List.set_cons_zero, List.set_cons_succ, i64_w, i32_w]
                      rfl
                    refine done_ (done_of HT_.out (by kernel_rfl)) ?_
                    have hcz103_0 : w102.cell? ⟨gb121, 0, none⟩ = some (.slice A0_0 l0_0.length c0_0) := (blk_cell BK121.out 0).trans rfl
                    have hcz103_1 : w102.cell? ⟨gb121, 1, none⟩ = some (.int .i64 a0_1) := (blk_cell BK121.out 1).trans rfl
                    have hcz103_2 : w102.cell? ⟨gb121, 2, none⟩ = some (.int .i64 a0_2) := (blk_cell BK121.out 2).trans rfl
                    have hfz103_0 := blk_frozen BK121.out 0
                    have hfz103_1 := blk_frozen BK121.out 1
                    have hfz103_2 := blk_frozen BK121.out 2
                    have p141 : 0 ≤ ((ji95) : Int) := of_decide_eq_true (by first | (with_reducible assumption) | assumption)
                    have q141 : (ji95) < (l0_0.length : Int) := of_decide_eq_true (by first | (with_reducible assumption) | assumption)
                    obtain ⟨ad141, e141, hx141_0⟩ := Kd.at_int HR0_0.out (ji95) p141 q141
                    cases e141
                    have hn141_0 : ad141.block ≠ gb121 := Nat.ne_of_lt (Nat.lt_of_lt_of_le (by have := World.block_lt_of_cell? _ _ hx141_0; first | rwa [add_block] at this | exact this) GW121.out)
                    have hn141_1 : ad141.block ≠ gb121 := Nat.ne_of_lt (Nat.lt_of_lt_of_le (by have := World.block_lt_of_cell? _ _ hx141_0; first | rwa [add_block] at this | exact this) GW121.out)
                    (first | replace hx141_0 := (HB.out.cell (World.block_lt_of_cell? w _ hx141_0)).trans hx141_0 | skip)
                    replace hx141_0 := (cell_far (p := ⟨gb121, 2, none⟩) (by first | (rw [add_block]; exact hn141_0) | (show (Addr.add _ _).block ≠ _; rw [add_block]; exact hn141_0) | exact hn141_0) (.int .i64 (wrap64 (a0_2 + 1)))).trans hx141_0
                    replace hx141_0 := (cell_far (p := ⟨gb121, 2, none⟩) (by first | (rw [add_block]; exact hn141_1) | (show (Addr.add _ _).block ≠ _; rw [add_block]; exact hn141_1) | exact hn141_1) (.int .i64 0)).trans hx141_0
                    clear hn141_0
                    clear hn141_1
                    replace p141 := eq_true p141
                    replace q141 := eq_true q141
                    try go_wp2_with (first | ((with_reducible refine gate_dst (N := 9) rfl ?_); (try (refine gate_guard (by rfl) ?_; dsimp only)); refine box_event ?hg (N := 9) ?hd (cs := #[.int .i64 0, .int .i64 0]) (t := 54) ?hr ?_; (case hd => rfl); (case hg => rfl); (case hr => first | (go_simp; done) | (go_simp; rfl)); intro gb142 hg w104 hbox hb; have n0_ := Aside0.mk (blk_below (g := gb121) (o := .cells #[.slice (some ad141) l0_0.length c0_0, .int .i64 a0_1, .int .i64 0] 55 (0, 0)) (by refine blk_put (cs := #[.slice (some ad141) l0_0.length c0_0, .int .i64 a0_1, .int .i64 (wrap64 (a0_2 + 1))]) ?_ 2 _ rfl; refine blk_put (cs := #[.slice (some ad141) l0_0.length c0_0, .int .i64 a0_1, .int .i64 a0_2]) ?_ 2 _ rfl; exact BK121.out) hb); have n1_ := Aside0.mk (blk_below (g := gb122) (o := .cells #[.int .i64 0, .int .i64 0] 54 (0, 0)) (by refine blk_far ?_ NB122_121.out _; refine blk_far ?_ NB122_121.out _; exact BK122.out) hb); have n2_ := Aside0.mk (blk_below (g := gb123) (o := .cells #[.slice none 0 0, .int .i64 0, .int .i64 0] 55 (0, 0)) (by refine blk_far ?_ NB123_121.out _; refine blk_far ?_ NB123_121.out _; exact BK123.out) hb); have n3_ := Aside0.mk (below_step (by repeat (first | (with_reducible first | exact HB.out | apply below_alloc | apply pw_below_drewN | apply below_drew1 | refine below_set ?_ GE121.out | refine below_set ?_ GE122.out | refine below_set ?_ GE123.out) | exact HB.out)) hb); have n4_ := Aside0.mk (hbox); have n5_ := Aside0.mk ((by rw [hg]; exact (below_size (by repeat (first | (with_reducible first | exact HB.out | apply below_alloc | apply pw_below_drewN | apply below_drew1 | refine below_set ?_ GE121.out | refine below_set ?_ GE122.out | refine below_set ?_ GE123.out) | exact HB.out))) : w.heap.size ≤ gb142)); have n6_ := Aside0.mk ((by rw [hg]; exact (below_size (by repeat (first | (with_reducible first | exact HB.out | apply below_alloc | apply pw_below_drewN | apply below_drew1 | refine below_set ?_ GE121.out | refine below_set ?_ GE122.out | refine below_set ?_ GE123.out) | exact HB.out))) : w.heap.size ≤ gb142)); have n7_ := Aside0.mk ((by rw [hg]; exact Nat.ne_of_lt (blk_lt (g := gb121) (o := .cells #[.slice (some ad141) l0_0.length c0_0, .int .i64 a0_1, .int .i64 0] 55 (0, 0)) (by refine blk_put (cs := #[.slice (some ad141) l0_0.length c0_0, .int .i64 a0_1, .int .i64 (wrap64 (a0_2 + 1))]) ?_ 2 _ rfl; refine blk_put (cs := #[.slice (some ad141) l0_0.length c0_0, .int .i64 a0_1, .int .i64 a0_2]) ?_ 2 _ rfl; exact BK121.out)) : gb121 ≠ gb142)); have n8_ := Aside0.mk ((by rw [hg]; exact Nat.ne_of_gt (blk_lt (g := gb121) (o := .cells #[.slice (some ad141) l0_0.length c0_0, .int .i64 a0_1, .int .i64 0] 55 (0, 0)) (by refine blk_put (cs := #[.slice (some ad141) l0_0.length c0_0, .int .i64 a0_1, .int .i64 (wrap64 (a0_2 + 1))]) ?_ 2 _ rfl; refine blk_put (cs := #[.slice (some ad141) l0_0.length c0_0, .int .i64 a0_1, .int .i64 a0_2]) ?_ 2 _ rfl; exact BK121.out)) : gb142 ≠ gb121)); have n9_ := Aside0.mk ((by rw [hg]; exact Nat.ne_of_lt (blk_lt (g := gb122) (o := .cells #[.int .i64 0, .int .i64 0] 54 (0, 0)) (by refine blk_far ?_ NB122_121.out _; refine blk_far ?_ NB122_121.out _; exact BK122.out)) : gb122 ≠ gb142)); have n10_ := Aside0.mk ((by rw [hg]; exact Nat.ne_of_gt (blk_lt (g := gb122) (o := .cells #[.int .i64 0, .int .i64 0] 54 (0, 0)) (by refine blk_far ?_ NB122_121.out _; refine blk_far ?_ NB122_121.out _; exact BK122.out)) : gb142 ≠ gb122)); have n11_ := Aside0.mk ((by rw [hg]; exact Nat.ne_of_lt (blk_lt (g := gb123) (o := .cells #[.slice none 0 0, .int .i64 0, .int .i64 0] 55 (0, 0)) (by refine blk_far ?_ NB123_121.out _; refine blk_far ?_ NB123_121.out _; exact BK123.out)) : gb123 ≠ gb142)); have n12_ := Aside0.mk ((by rw [hg]; exact Nat.ne_of_gt (blk_lt (g := gb123) (o := .cells #[.slice none 0 0, .int .i64 0, .int .i64 0] 55 (0, 0)) (by refine blk_far ?_ NB123_121.out _; refine blk_far ?_ NB123_121.out _; exact BK123.out)) : gb142 ≠ gb123)); clear BK121; clear BK122; clear BK123; clear HB; have BK121 := n0_; have BK122 := n1_; have BK123 := n2_; have HB := n3_; have BK142 := n4_; have GW142 := n5_; have GE142 := n6_; have NB121_142 := n7_; have NB142_121 := n8_; have NB122_142 := n9_; have NB142_122 := n10_; have NB123_142 := n11_; have NB142_123 := n12_; clear n0_ n1_ n2_ n3_ n4_ n5_ n6_ n7_ n8_ n9_ n10_ n11_ n12_; clear hb hbox hg; have hnb105 := NB142_121.out; have hnc105 := NB121_142.out; have hnb106 := NB142_122.out; have hnc106 := NB122_142.out; have hnb107 := NB142_123.out; have hnc107 := NB123_142.out; have hcz108_0 : w104.cell? ⟨gb142, 0, none⟩ = some (.int .i64 0) := (blk_cell BK142.out 0).trans rfl; have hcz108_1 : w104.cell? ⟨gb142, 1, none⟩ = some (.int .i64 0) := (blk_cell BK142.out 1).trans rfl; have hfz108_0 := blk_frozen BK142.out 0; have hfz108_1 := blk_frozen BK142.out 1) | ((with_reducible refine gate_dst (N := 63) rfl ?_); (try (refine gate_guard (by rfl) ?_; dsimp only)); refine Kd.R_lit (Kd.int .i64) _ 3 ?hg (N := 63) ?hd (xs := ([] : List Int)) (inner := []) (ok := fun _ => True) (okp := fun _ => True) ?hr ?hp (fun _ hk => hk) trivial (Below.refl _ _) (Nat.le_refl _) (by simp) ?_; (case hd => rfl); (case hg => rfl); (case hr => first | (go_simp; done) | (go_simp; rfl)); (case hp => exact (Reps.none _ _)); intro v144 w109 ho110 hb hg_ hnew_; clear hg_ hnew_; (first | rw [← Ny143.out] at ho110 | (simp only [Int.reduceToNat] at ho110; rw [← Ny143.out] at ho110)); have n0_ := Aside0.mk (Kd.R_lower ho110 (below_size (by repeat (first | (with_reducible first | exact HB.out | apply below_alloc | apply pw_below_drewN | apply below_drew1 | refine below_set ?_ GE121.out | refine below_set ?_ GE122.out | refine below_set ?_ GE123.out | refine below_set ?_ GE142.out) | exact HB.out)))); have n1_ := Aside0.mk (blk_below (g := gb121) (o := .cells #[.slice (some ad141) l0_0.length c0_0, .int .i64 a0_1, .int .i64 0] 55 (0, 0)) (by refine blk_far ?_ NB121_142.out _; refine blk_far ?_ NB121_142.out _; exact BK121.out) hb); have n2_ := Aside0.mk (blk_below (g := gb122) (o := .cells #[.int .i64 0, .int .i64 0] 54 (0, 0)) (by refine blk_far ?_ NB122_142.out _; refine blk_far ?_ NB122_142.out _; exact BK122.out) hb); have n3_ := Aside0.mk (blk_below (g := gb123) (o := .cells #[.slice none 0 0, .int .i64 0, .int .i64 0] 55 (0, 0)) (by refine blk_far ?_ NB123_142.out _; refine blk_far ?_ NB123_142.out _; exact BK123.out) hb); have n4_ := Aside0.mk (blk_below (g := gb142) (o := .cells #[.int .i64 ji95, .int .i64 (rd l0_0 (ji95))] 54 (0, 0)) (by refine blk_put (cs := #[.int .i64 ji95, .int .i64 0]) ?_ 1 _ rfl; refine blk_put (cs := #[.int .i64 0, .int .i64 0]) ?_ 0 _ rfl; exact BK142.out) hb); have n5_ := Aside0.mk (below_step (by repeat (first | (with_reducible first | exact HB.out | apply below_alloc | apply pw_below_drewN | apply below_drew1 | refine below_set ?_ GE121.out | refine below_set ?_ GE122.out | refine below_set ?_ GE123.out | refine below_set ?_ GE142.out) | exact HB.out)) hb); clear BK121; clear BK122; clear BK123; clear BK142; clear HB; have HO145 := n0_; have BK121 := n1_; have BK122 := n2_; have BK123 := n3_; have BK142 := n4_; have HB := n5_; clear n0_ n1_ n2_ n3_ n4_ n5_; clear hb ho110; have hcz111_0 : w109.cell? ⟨gb121, 0, none⟩ = some (.slice (some ad141) l0_0.length c0_0) := (blk_cell BK121.out 0).trans rfl; have hcz111_1 : w109.cell? ⟨gb121, 1, none⟩ = some (.int .i64 a0_1) := (blk_cell BK121.out 1).trans rfl; have hcz111_2 : w109.cell? ⟨gb121, 2, none⟩ = some (.int .i64 0) := (blk_cell BK121.out 2).trans rfl; have hfz111_0 := blk_frozen BK121.out 0; have hfz111_1 := blk_frozen BK121.out 1; have hfz111_2 := blk_frozen BK121.out 2) | ((with_reducible refine gate_builtin (b := .append) (xs := #[.tmp 63, .tmp 65]) rfl ?_); (try (refine gate_guard (by rfl) ?_; dsimp only)); at_builtin; refine Kd.R_append_rows (Kd.int .i64) (w0 := w) w.heap.size rfl (.tmp 63) (.tmp 65) 22 3 (.int .i64 0) 8 rfl Try.underlying22 info3 rfl (by decide) (by omega) v144 y143 l0_0 _ _ _ (fun _ => True) (fun _ => False) rfl rfl ?aO ?aR (fun _ _ h => h) (fun _ h => h.elim) ?aF ?aB ?aS ?aL ?_; (case aR => repeat (first | exact (Kd.C_below HR0_0.out HB.out) | (with_reducible refine Kd.C_alloc ?_ _) | (with_reducible refine Kd.C_drewN ?_ _) | (with_reducible refine Kd.C_drew ?_))); (case aB => exact (by repeat (first | (with_reducible first | exact HB.out | apply below_alloc | apply pw_below_drewN | apply below_drew1 | refine below_set ?_ GE121.out | refine below_set ?_ GE122.out | refine below_set ?_ GE123.out | refine below_set ?_ GE142.out) | exact HB.out))); (case aF => exact (fun _ _ => trivial)); (case aO => exact HO145.out); (case aS => exact (below_size (by repeat (first | (with_reducible first | exact HB.out | apply below_alloc | apply pw_below_drewN | apply below_drew1 | refine below_set ?_ GE121.out | refine below_set ?_ GE122.out | refine below_set ?_ GE123.out | refine below_set ?_ GE142.out) | exact HB.out)))); (case aL => have := LMc98.out; omega); intro v147 w112 ho hb hg hat; rw [← Ny146.out] at ho; have n0_ := Aside0.mk (blk_grown (g := gb121) (o := .cells #[.slice (some ad141) l0_0.length c0_0, .int .i64 a0_1, .int .i64 0] 55 (0, 0)) BK121.out hg (Kd.R_ne HO145.out BK121.out (by decide))); have n1_ := Aside0.mk (blk_grown (g := gb122) (o := .cells #[.int .i64 0, .int .i64 0] 54 (0, 0)) BK122.out hg (Kd.R_ne HO145.out BK122.out (by decide))); have n2_ := Aside0.mk (blk_grown (g := gb123) (o := .cells #[.slice none 0 0, .int .i64 0, .int .i64 0] 55 (0, 0)) BK123.out hg (Kd.R_ne HO145.out BK123.out (by decide))); have n3_ := Aside0.mk (blk_grown (g := gb142) (o := .cells #[.int .i64 ji95, .int .i64 (rd l0_0 (ji95))] 54 (0, 0)) BK142.out hg (Kd.R_ne HO145.out BK142.out (by decide))); have n4_ := Aside0.mk (hb); have n5_ := Aside0.mk (ho); clear BK121; clear BK122; clear BK123; clear BK142; clear HB; clear HO145; have BK121 := n0_; have BK122 := n1_; have BK123 := n2_; have BK142 := n3_; have HB := n4_; have HO148 := n5_; clear n0_ n1_ n2_ n3_ n4_ n5_; clear ho hb hg hat; obtain ⟨Ao113, co113, eo113⟩ := Kd.R_slice HO148.out; subst eo113; have hcz114_0 : w112.cell? ⟨gb121, 0, none⟩ = some (.slice (some ad141) l0_0.length c0_0) := (blk_cell BK121.out 0).trans rfl; have hcz114_1 : w112.cell? ⟨gb121, 1, none⟩ = some (.int .i64 a0_1) := (blk_cell BK121.out 1).trans rfl; have hcz114_2 : w112.cell? ⟨gb121, 2, none⟩ = some (.int .i64 0) := (blk_cell BK121.out 2).trans rfl; have hfz114_0 := blk_frozen BK121.out 0; have hfz114_1 := blk_frozen BK121.out 1; have hfz114_2 := blk_frozen BK121.out 2))
                    have n0_ : Aside0 (Kd.R (Kd.int .i64) 3 (w112.setCell ⟨gb121, 0, none⟩ (.slice Ao113 y146.length co113)) w.heap.size (fun _ => True) (.slice Ao113 y146.length co113) y146) := ⟨by exact Kd.R_mono (Kd.R_far (p := ⟨gb121, 0, none⟩) (Kd.R_types HO148.out BK121.out (by decide)) (fun _ hk => hk.2) (.slice Ao113 y146.length co113)) (fun _ hk => trivial)⟩
                    have n1_ : Aside0 ((w112.setCell ⟨gb121, 0, none⟩ (.slice Ao113 y146.length co113)).heap[gb121]? = some (.cells #[.slice Ao113 y146.length co113, .int .i64 a0_1, .int .i64 0] 55 (0, 0))) := ⟨by refine blk_put (cs := #[.slice (some ad141) l0_0.length c0_0, .int .i64 a0_1, .int .i64 0]) ?_ 0 _ rfl; exact BK121.out⟩
                    have n2_ : Aside0 ((w112.setCell ⟨gb121, 0, none⟩ (.slice Ao113 y146.length co113)).heap[gb122]? = some (.cells #[.int .i64 0, .int .i64 0] 54 (0, 0))) := ⟨by refine blk_far ?_ NB122_121.out _; exact BK122.out⟩
                    have n3_ : Aside0 ((w112.setCell ⟨gb121, 0, none⟩ (.slice Ao113 y146.length co113)).heap[gb123]? = some (.cells #[.slice none 0 0, .int .i64 0, .int .i64 0] 55 (0, 0))) := ⟨by refine blk_far ?_ NB123_121.out _; exact BK123.out⟩
                    have n4_ : Aside0 ((w112.setCell ⟨gb121, 0, none⟩ (.slice Ao113 y146.length co113)).heap[gb142]? = some (.cells #[.int .i64 ji95, .int .i64 (rd l0_0 (ji95))] 54 (0, 0))) := ⟨by refine blk_far ?_ NB142_121.out _; exact BK142.out⟩
                    have n5_ : Aside0 (Below w.heap.size w (w112.setCell ⟨gb121, 0, none⟩ (.slice Ao113 y146.length co113))) := ⟨by repeat (first | (with_reducible first | exact HB.out | apply below_alloc | apply pw_below_drewN | apply below_drew1 | refine below_set ?_ GE121.out | refine below_set ?_ GE122.out | refine below_set ?_ GE123.out | refine below_set ?_ GE142.out) | exact HB.out)⟩
                    (try clear HO148)
                    (try clear BK121)
                    (try clear BK122)
                    (try clear BK123)
                    (try clear BK142)
                    (try clear HB)
                    generalize (w112.setCell ⟨gb121, 0, none⟩ (.slice Ao113 y146.length co113)) = w115 at n0_ n1_ n2_ n3_ n4_ n5_ ⊢
                    have HO148 := n0_
                    have BK121 := n1_
                    have BK122 := n2_
                    have BK123 := n3_
                    have BK142 := n4_
                    have HB := n5_
                    clear n0_ n1_ n2_ n3_ n4_ n5_
                    have n0_ := Aside0.mk (Kd.R_drew HO148.out)
                    have n1_ := Aside0.mk (blk_drew BK121.out)
                    have n2_ := Aside0.mk (blk_drew BK122.out)
                    have n3_ := Aside0.mk (blk_drew BK123.out)
                    have n4_ := Aside0.mk (blk_drew BK142.out)
                    have n5_ := Aside0.mk (below_drew1 HB.out)
                    clear HO148
                    clear BK121
                    clear BK122
                    clear BK123
                    clear BK142
                    clear HB
                    have HO148 := n0_
                    have BK121 := n1_
                    have BK122 := n2_
                    have BK123 := n3_
                    have BK142 := n4_
                    have HB := n5_
                    clear n0_ n1_ n2_ n3_ n4_ n5_
                    refine start_ (n := 5) (S := fun w' => w'.cell? ⟨gb142, 0, none⟩ = some (.int .i64 ji95) ∧ w'.cell? ⟨gb142, 1, none⟩ = some (.int .i64 (rd l0_0 (ji95))) ∧ w'.cell? ⟨gb121, 0, none⟩ = some (.slice Ao113 y146.length co113) ∧ w'.cell? ⟨gb121, 1, none⟩ = some (.int .i64 a0_1) ∧ w'.cell? ⟨gb121, 2, none⟩ = some (.int .i64 0)) (ds := []) #[false, false, false, false, false] (by kernel_rfl) rfl rfl ⟨(blk_cell BK142.out 0).trans rfl, (blk_cell BK142.out 1).trans rfl, (blk_cell BK121.out 0).trans rfl, (blk_cell BK121.out 1).trans rfl, (blk_cell BK121.out 2).trans rfl⟩ (fun hHeld => ?_)
                    generalize w115.drew = w116 at HO148 BK121 BK122 BK123 BK142 HB hHeld ⊢
                    refine take_ (i := 0) (N := some 68) (v := ?_) (a' := ?_) #[true, false, false, false, false] rfl rfl (by kernel_rfl) (fun _ _ _ h => h) (Or.inl ⟨by rfl, ?_⟩) hHeld ?_ ?_
                    rotate_left
                    · rintro w' ⟨s0, s1, s2, s3, s4⟩
                      go_simp
                      with_reducible rfl
                    rotate_left
                    · simp only [Act.put, List.setIfInBounds_toArray, List.set_cons_zero, List.set_cons_succ, i64_w, i32_w]
                      rfl
                    refine take_ (i := 1) (N := some 69) (v := ?_) (a' := ?_) #[true, true, false, false, false] rfl rfl (by kernel_rfl) (fun _ _ _ h => h) (Or.inl ⟨by rfl, ?_⟩) hHeld ?_ ?_
                    rotate_left
                    · rintro w' ⟨s0, s1, s2, s3, s4⟩
                      go_simp
                      with_reducible rfl
                    rotate_left
                    · simp only [Act.put, List.setIfInBounds_toArray, List.set_cons_zero, List.set_cons_succ, i64_w, i32_w]
                      rfl
                    refine one_ (i := 2) (N := none) #[true, true, true, false, false] rfl rfl (by kernel_rfl) (by decide) (fun K hK => ?_)
                    have hs117 : w116.cell? ⟨gb122, 0, none⟩ = some (.int .i64 0) := (blk_cell BK122.out 0).trans rfl
                    have hfs117 := blk_frozen BK122.out 0
                    have hns117_0 := NB121_122.out
                    have hns117_2 := NB123_122.out
                    have hns117_3 := NB142_122.out
                    have hms117_0 := NB122_121.out
                    have hms117_2 := NB122_123.out
                    have hms117_3 := NB122_142.out
                    have hs118 : w116.cell? ⟨gb122, 1, none⟩ = some (.int .i64 0) := (blk_cell BK122.out 1).trans rfl
                    have hfs118 := blk_frozen BK122.out 1
                    have hns118_0 := NB121_122.out
                    have hns118_2 := NB123_122.out
                    have hns118_3 := NB142_122.out
                    have hms118_0 := NB122_121.out
                    have hms118_2 := NB122_123.out
                    have hms118_3 := NB122_142.out
                    refine skip_ (w1 := ?_) (by rfl) rfl ?_ ?_
                    rotate_left
                    · go_simp
                      rfl
                    refine hK.out _ _ ⟨((cell_far (p := ⟨gb122, _, none⟩) NB142_122.out _).trans (((cell_far (p := ⟨gb122, _, none⟩) NB142_122.out _).trans (hHeld.1)))), ((cell_far (p := ⟨gb122, _, none⟩) NB142_122.out _).trans (((cell_far (p := ⟨gb122, _, none⟩) NB142_122.out _).trans (hHeld.2.1)))), ((cell_far (p := ⟨gb122, _, none⟩) NB121_122.out _).trans (((cell_far (p := ⟨gb122, _, none⟩) NB121_122.out _).trans (hHeld.2.2.1)))), ((cell_far (p := ⟨gb122, _, none⟩) NB121_122.out _).trans (((cell_far (p := ⟨gb122, _, none⟩) NB121_122.out _).trans (hHeld.2.2.2.1)))), ((cell_far (p := ⟨gb122, _, none⟩) NB121_122.out _).trans (((cell_far (p := ⟨gb122, _, none⟩) NB121_122.out _).trans (hHeld.2.2.2.2))))⟩ (fun hHeld => ?_)
                    clear hK K
                    refine one_ (i := 3) (N := none) #[true, true, true, true, false] rfl rfl (by kernel_rfl) (by decide) (fun K hK => ?_)
                    have hs119 : w116.cell? ⟨gb123, 0, none⟩ = some (.slice none 0 0) := (blk_cell BK123.out 0).trans rfl
                    have hfs119 := blk_frozen BK123.out 0
                    have hns119_0 := NB121_123.out
                    have hns119_1 := NB122_123.out
                    have hns119_3 := NB142_123.out
                    have hms119_0 := NB123_121.out
                    have hms119_1 := NB123_122.out
                    have hms119_3 := NB123_142.out
                    have hs120 : w116.cell? ⟨gb123, 1, none⟩ = some (.int .i64 0) := (blk_cell BK123.out 1).trans rfl
                    have hfs120 := blk_frozen BK123.out 1
                    have hns120_0 := NB121_123.out
                    have hns120_1 := NB122_123.out
                    have hns120_3 := NB142_123.out
                    have hms120_0 := NB123_121.out
                    have hms120_1 := NB123_122.out
                    have hms120_3 := NB123_142.out
                    have hs121 : w116.cell? ⟨gb123, 2, none⟩ = some (.int .i64 0) := (blk_cell BK123.out 2).trans rfl
                    have hfs121 := blk_frozen BK123.out 2
                    have hns121_0 := NB121_123.out
                    have hns121_1 := NB122_123.out
                    have hns121_3 := NB142_123.out
                    have hms121_0 := NB123_121.out
                    have hms121_1 := NB123_122.out
                    have hms121_3 := NB123_142.out
                    refine skip_ (w1 := ?_) (by rfl) rfl ?_ ?_
                    rotate_left
                    · go_simp
                      rfl
                    refine hK.out _ _ ⟨((cell_far (p := ⟨gb123, _, none⟩) NB142_123.out _).trans (((cell_far (p := ⟨gb123, _, none⟩) NB142_123.out _).trans (((cell_far (p := ⟨gb123, _, none⟩) NB142_123.out _).trans (hHeld.1)))))), ((cell_far (p := ⟨gb123, _, none⟩) NB142_123.out _).trans (((cell_far (p := ⟨gb123, _, none⟩) NB142_123.out _).trans (((cell_far (p := ⟨gb123, _, none⟩) NB142_123.out _).trans (hHeld.2.1)))))), ((cell_far (p := ⟨gb123, _, none⟩) NB121_123.out _).trans (((cell_far (p := ⟨gb123, _, none⟩) NB121_123.out _).trans (((cell_far (p := ⟨gb123, _, none⟩) NB121_123.out _).trans (hHeld.2.2.1)))))), ((cell_far (p := ⟨gb123, _, none⟩) NB121_123.out _).trans (((cell_far (p := ⟨gb123, _, none⟩) NB121_123.out _).trans (((cell_far (p := ⟨gb123, _, none⟩) NB121_123.out _).trans (hHeld.2.2.2.1)))))), ((cell_far (p := ⟨gb123, _, none⟩) NB121_123.out _).trans (((cell_far (p := ⟨gb123, _, none⟩) NB121_123.out _).trans (((cell_far (p := ⟨gb123, _, none⟩) NB121_123.out _).trans (hHeld.2.2.2.2))))))⟩ (fun hHeld => ?_)
                    clear hK K
                    refine pure_ (i := 4) (N := some 6) (v := ?_) (a' := ?_) #[true, true, true, true, true] rfl rfl (by kernel_rfl) (fun _ _ _ h => h) (Or.inl ⟨by rfl, ?_⟩) ?_ ?_
                    rotate_left
                    · intro w'
                      go_simp
                      with_reducible rfl
                    rotate_left
                    · simp only [Act.put, List.setIfInBounds_toArray, List.set_cons_zero, List.set_cons_succ, i64_w, i32_w]
                      rfl
                    refine done_ (by kernel_rfl) ?_
                    try go_wp2
                    refine bodyPost_ret (results_list (rs := [.cell 4 54, .cell 5 55, .tmp 6]) rfl (by simp) (.cell gb122 54 #[.int .i64 ji95, .int .i64 (rd l0_0 (ji95))] (0, 0) _ rfl (by refine blk_far ?_ NB122_123.out _; refine blk_far ?_ NB122_123.out _; refine blk_far ?_ NB122_123.out _; refine blk_put (cs := #[.int .i64 ji95, .int .i64 0]) ?_ 1 _ rfl; refine blk_put (cs := #[.int .i64 0, .int .i64 0]) ?_ 0 _ rfl; exact BK122.out) Try.underlying54 rfl (by kernel_rfl) (.cell gb123 55 #[.slice Ao113 y146.length co113, .int .i64 a0_1, .int .i64 0] (0, 0) _ rfl (by refine blk_put (cs := #[.slice Ao113 y146.length co113, .int .i64 a0_1, .int .i64 0]) ?_ 2 _ rfl; refine blk_put (cs := #[.slice Ao113 y146.length co113, .int .i64 0, .int .i64 0]) ?_ 1 _ rfl; refine blk_put (cs := #[.slice none 0 0, .int .i64 0, .int .i64 0]) ?_ 0 _ rfl; refine blk_far ?_ NB123_122.out _; refine blk_far ?_ NB123_122.out _; exact BK123.out) Try.underlying55 rfl (by kernel_rfl) (.tmp .nil)))) rfl ?_
                    exact ⟨_, by first | rfl | (simp [errW_none, errW_some] <;> rfl) | (simp only [← hji95]; first | rfl | (simp [errW_none, errW_some] <;> rfl)) | (simp [*, errW_none, errW_some] <;> rfl), by exact Kd.R_mono (Kd.R_far (p := ⟨gb123, 2, none⟩) (Kd.R_far (p := ⟨gb123, 1, none⟩) (Kd.R_far (p := ⟨gb123, 0, none⟩) (Kd.R_far (p := ⟨gb122, 1, none⟩) (Kd.R_far (p := ⟨gb122, 0, none⟩) (Kd.R_types (Kd.R_types HO148.out BK122.out (by decide)) BK123.out (by decide)) (fun _ hk => hk.1.2) (.int .i64 ji95)) (fun _ hk => hk.1.2) (.int .i64 (rd l0_0 (ji95)))) (fun _ hk => hk.2) (.slice Ao113 y146.length co113)) (fun _ hk => hk.2) (.int .i64 a0_1)) (fun _ hk => hk.2) (.int .i64 0)) (fun _ hk => trivial), by repeat (first | (with_reducible first | exact HB.out | apply below_alloc | apply pw_below_drewN | apply below_drew1 | refine below_set ?_ GE121.out | refine below_set ?_ GE122.out | refine below_set ?_ GE123.out | refine below_set ?_ GE142.out) | exact HB.out)⟩
                  · rw [if_neg c98] at H
                    exact absurd H (by simp)
                · rw [if_neg c97] at H
                  exact absurd H (by simp)
              · rw [if_neg c96] at H
                exact absurd H (by simp)
            · rw [if_neg c94] at H
              have c94b0 : decide (30 ≤ (wrap64 (a0_2 + 1))) = false := decide_eq_false c94
              clear c94
              obtain ⟨ji122, hji122⟩ : ∃ j_ : Int, (wrap64 (a0_1 + (Int.tmod a0_2 (wrap64 ((l0_0.length : Int) - a0_1))))) = j_ := ⟨_, rfl⟩
              replace H : (if 0 ≤ (ji122) then (if (ji122) < (l0_0.length : Int) then ((some (([] : List Int) : List Int)).bind fun y151 => (if y151.length + l0_0.length < 17592186044416 then (some (ji122, rd l0_0 (ji122), (y151 ++ l0_0), a0_1, wrap64 (a0_2 + 1), true)) else (none))) else (none)) else (none)) = some (r1, r2, r3, r4, r5, r6) := by first | (rw [hji122] at H; exact H) | (simp only [hji122] at H ⊢; exact H)
              have hji122w : (IntKind.i64.wrap (a0_1 + (Int.tmod a0_2 (wrap64 ((l0_0.length : Int) - a0_1))))) = ji122 := (i64_w _).trans hji122
              by_cases c123 : 0 ≤ (ji122)
              · rw [if_pos c123] at H
                have c123b0 : decide (0 ≤ (ji122)) = true := decide_eq_true c123
                clear c123
                by_cases c124 : (ji122) < (l0_0.length : Int)
                · rw [if_pos c124] at H
                  have c124b0 : decide ((ji122) < (l0_0.length : Int)) = true := decide_eq_true c124
                  clear c124
                  obtain ⟨y151, hy151⟩ : ∃ y_ : List Int, y_ = (([] : List Int)) := ⟨_, rfl⟩
                  replace H : (if y151.length + l0_0.length < 17592186044416 then (some (ji122, rd l0_0 (ji122), (y151 ++ l0_0), a0_1, wrap64 (a0_2 + 1), true)) else (none)) = some (r1, r2, r3, r4, r5, r6) := by first | (rw [hy151]; with_reducible exact H) | (have H2_ := (Option.bind_some _ _).symm.trans H; rw [hy151]; with_reducible exact H2_) | (have H2_ := (Option.bind_some _ _).symm.trans H; with_reducible exact H2_) | with_reducible exact H | (rw [hy151]; exact H) | exact H
                  have Ny151 := Aside0.mk hy151
                  clear hy151
                  by_cases c125 : y151.length + l0_0.length < 17592186044416
                  · rw [if_pos c125] at H
                    have LMc125 := Aside0.mk c125
                    clear c125
                    obtain ⟨y154, hy154⟩ : ∃ y_ : List Int, y_ = (y151 ++ l0_0) := ⟨_, rfl⟩
                    replace H : (some (ji122, rd l0_0 (ji122), y154, a0_1, wrap64 (a0_2 + 1), true)) = some (r1, r2, r3, r4, r5, r6) := by first | (rw [hy154]; with_reducible exact H) | (have H2_ := (Option.bind_some _ _).symm.trans H; rw [hy154]; with_reducible exact H2_) | (have H2_ := (Option.bind_some _ _).symm.trans H; with_reducible exact H2_) | with_reducible exact H | (rw [hy154]; exact H) | exact H
                    have Ny154 := Aside0.mk hy154
                    clear hy154
                    simp only [Option.some.injEq, Prod.mk.injEq] at H
                    obtain ⟨rfl, rfl, rfl, rfl, rfl, rfl⟩ := H
                    have hnb126 := NB121_122.out
                    have hnc126 := NB122_121.out
                    have hnb127 := NB121_123.out
                    have hnc127 := NB123_121.out
                    have hcz128_0 : wc.cell? ⟨gb121, 0, none⟩ = some (.slice A0_0 l0_0.length c0_0) := (blk_cell BK121.out 0).trans rfl
                    have hcz128_1 : wc.cell? ⟨gb121, 1, none⟩ = some (.int .i64 a0_1) := (blk_cell BK121.out 1).trans rfl
                    have hcz128_2 : wc.cell? ⟨gb121, 2, none⟩ = some (.int .i64 a0_2) := (blk_cell BK121.out 2).trans rfl
                    have hfz128_0 := blk_frozen BK121.out 0
                    have hfz128_1 := blk_frozen BK121.out 1
                    have hfz128_2 := blk_frozen BK121.out 2
                    try go_wp2
                    have n0_ := Aside0.mk (blk_drew BK121.out)
                    have n1_ := Aside0.mk (blk_drew BK122.out)
                    have n2_ := Aside0.mk (blk_drew BK123.out)
                    have n3_ := Aside0.mk (below_drew1 HB.out)
                    clear BK121
                    clear BK122
                    clear BK123
                    clear HB
                    have BK121 := n0_
                    have BK122 := n1_
                    have BK123 := n2_
                    have HB := n3_
                    clear n0_ n1_ n2_ n3_
                    refine start_ (n := 8) (S := fun w' => w'.cell? ⟨gb121, 0, none⟩ = some (.slice A0_0 l0_0.length c0_0) ∧ w'.cell? ⟨gb121, 1, none⟩ = some (.int .i64 a0_1) ∧ w'.cell? ⟨gb121, 2, none⟩ = some (.int .i64 a0_2)) (ds := []) #[false, false, false, false, false, false, false, false] (by kernel_rfl) rfl rfl ⟨(blk_cell BK121.out 0).trans rfl, (blk_cell BK121.out 1).trans rfl, (blk_cell BK121.out 2).trans rfl⟩ (fun hHeld => ?_); refine with_tabW spec_SendNext.tab6 spec_SendNext.bits6 (fun HT_ HW_ => ?_)
                    generalize wc.drew = w129 at BK121 BK122 BK123 HB hHeld ⊢
                    refine pure_ (i := 0) (N := some 41) (v := ?_) (a' := ?_) #[true, false, false, false, false, false, false, false] rfl rfl (any_of HT_.out (by kernel_rfl)) (fun _ _ _ h => h) (Or.inl ⟨by rfl, ?_⟩) ?_ ?_
                    rotate_left
                    · intro w'
                      go_simp
                      with_reducible rfl
                    rotate_left
                    · simp only [Act.put, List.setIfInBounds_toArray, List.set_cons_zero, List.set_cons_succ, i64_w, i32_w]
                      rfl
                    refine pure_ (i := 2) (N := some 43) (v := ?_) (a' := ?_) #[true, false, true, false, false, false, false, false] rfl rfl (any_of HT_.out (by kernel_rfl)) (fun _ _ _ h => h) (Or.inl ⟨by rfl, ?_⟩) ?_ ?_
                    rotate_left
                    · intro w'
                      go_simp
                      with_reducible rfl
                    rotate_left
                    · simp only [Act.put, List.setIfInBounds_toArray, List.set_cons_zero, List.set_cons_succ, i64_w, i32_w]
                      rfl
                    refine pure_ (i := 4) (N := some 45) (v := ?_) (a' := ?_) #[true, false, true, false, true, false, false, false] rfl rfl (any_of HT_.out (by kernel_rfl)) (fun _ _ _ h => h) (Or.inl ⟨by rfl, ?_⟩) ?_ ?_
                    rotate_left
                    · intro w'
                      go_simp
                      with_reducible rfl
                    rotate_left
                    · simp only [Act.put, List.setIfInBounds_toArray, List.set_cons_zero, List.set_cons_succ, i64_w, i32_w]
                      rfl
                    refine take_ (i := 1) (N := some 42) (v := ?_) (a' := ?_) #[true, true, true, false, true, false, false, false] rfl rfl (take_ofW HT_.out HW_.out (by kernel_rfl)) (fun _ _ _ h => h) (Or.inl ⟨by rfl, ?_⟩) hHeld ?_ ?_
                    rotate_left
                    · rintro w' ⟨s0, s1, s2⟩
                      go_simp
                      with_reducible rfl
                    rotate_left
                    · simp only [Act.put, List.setIfInBounds_toArray, List.set_cons_zero, List.set_cons_succ, i64_w, i32_w]
                      rfl
                    refine take_ (i := 3) (N := some 44) (v := ?_) (a' := ?_) #[true, true, true, true, true, false, false, false] rfl rfl (take_ofW HT_.out HW_.out (by kernel_rfl)) (fun _ _ _ h => h) (Or.inl ⟨by rfl, ?_⟩) hHeld ?_ ?_
                    rotate_left
                    · rintro w' ⟨s0, s1, s2⟩
                      go_simp
                      with_reducible rfl
                    rotate_left
                    · simp only [Act.put, List.setIfInBounds_toArray, List.set_cons_zero, List.set_cons_succ, i64_w, i32_w]
                      rfl
                    refine pure_ (i := 5) (N := some 46) (v := ?_) (a' := ?_) #[true, true, true, true, true, true, false, false] rfl rfl (any_of HT_.out (by kernel_rfl)) (fun _ _ _ h => h) (Or.inl ⟨by rfl, ?_⟩) ?_ ?_
                    rotate_left
                    · intro w'
                      go_simp
                      with_reducible rfl
                    rotate_left
                    · simp only [Act.put, List.setIfInBounds_toArray, List.set_cons_zero, List.set_cons_succ, i64_w, i32_w]
                      rfl
                    refine pure_ (i := 6) (N := some 47) (v := ?_) (a' := ?_) #[true, true, true, true, true, true, true, false] rfl rfl (any_of HT_.out (by kernel_rfl)) (fun _ _ _ h => h) (Or.inl ⟨by rfl, ?_⟩) ?_ ?_
                    rotate_left
                    · intro w'
                      go_simp
                      with_reducible rfl
                    rotate_left
                    · simp only [Act.put, List.setIfInBounds_toArray, List.set_cons_zero, List.set_cons_succ, i64_w, i32_w]
                      rfl
                    refine pure_ (i := 7) (N := some 8) (v := ?_) (a' := ?_) #[true, true, true, true, true, true, true, true] rfl rfl (any_of HT_.out (by kernel_rfl)) (fun _ _ _ h => h) (Or.inl ⟨by rfl, ?_⟩) ?_ ?_
                    rotate_left
                    · intro w'
                      go_simp
                      with_reducible rfl
                    rotate_left
                    · simp only [Act.put, List.setIfInBounds_toArray, List.set_cons_zero, List.set_cons_succ, i64_w, i32_w]
                      rfl
                    refine done_ (done_of HT_.out (by kernel_rfl)) ?_
                    have hcz130_0 : w129.cell? ⟨gb121, 0, none⟩ = some (.slice A0_0 l0_0.length c0_0) := (blk_cell BK121.out 0).trans rfl
                    have hcz130_1 : w129.cell? ⟨gb121, 1, none⟩ = some (.int .i64 a0_1) := (blk_cell BK121.out 1).trans rfl
                    have hcz130_2 : w129.cell? ⟨gb121, 2, none⟩ = some (.int .i64 a0_2) := (blk_cell BK121.out 2).trans rfl
                    have hfz130_0 := blk_frozen BK121.out 0
                    have hfz130_1 := blk_frozen BK121.out 1
                    have hfz130_2 := blk_frozen BK121.out 2
                    have p149 : 0 ≤ ((ji122) : Int) := of_decide_eq_true (by first | (with_reducible assumption) | assumption)
                    have q149 : (ji122) < (l0_0.length : Int) := of_decide_eq_true (by first | (with_reducible assumption) | assumption)
                    obtain ⟨ad149, e149, hx149_0⟩ := Kd.at_int HR0_0.out (ji122) p149 q149
                    cases e149
                    have hn149_0 : ad149.block ≠ gb121 := Nat.ne_of_lt (Nat.lt_of_lt_of_le (by have := World.block_lt_of_cell? _ _ hx149_0; first | rwa [add_block] at this | exact this) GW121.out)
                    (first | replace hx149_0 := (HB.out.cell (World.block_lt_of_cell? w _ hx149_0)).trans hx149_0 | skip)
                    replace hx149_0 := (cell_far (p := ⟨gb121, 2, none⟩) (by first | (rw [add_block]; exact hn149_0) | (show (Addr.add _ _).block ≠ _; rw [add_block]; exact hn149_0) | exact hn149_0) (.int .i64 (wrap64 (a0_2 + 1)))).trans hx149_0
                    clear hn149_0
                    replace p149 := eq_true p149
                    replace q149 := eq_true q149
                    try go_wp2_with (first | ((with_reducible refine gate_dst (N := 9) rfl ?_); (try (refine gate_guard (by rfl) ?_; dsimp only)); refine box_event ?hg (N := 9) ?hd (cs := #[.int .i64 0, .int .i64 0]) (t := 54) ?hr ?_; (case hd => rfl); (case hg => rfl); (case hr => first | (go_simp; done) | (go_simp; rfl)); intro gb150 hg w131 hbox hb; have n0_ := Aside0.mk (blk_below (g := gb121) (o := .cells #[.slice (some ad149) l0_0.length c0_0, .int .i64 a0_1, .int .i64 (wrap64 (a0_2 + 1))] 55 (0, 0)) (by refine blk_put (cs := #[.slice (some ad149) l0_0.length c0_0, .int .i64 a0_1, .int .i64 a0_2]) ?_ 2 _ rfl; exact BK121.out) hb); have n1_ := Aside0.mk (blk_below (g := gb122) (o := .cells #[.int .i64 0, .int .i64 0] 54 (0, 0)) (by refine blk_far ?_ NB122_121.out _; exact BK122.out) hb); have n2_ := Aside0.mk (blk_below (g := gb123) (o := .cells #[.slice none 0 0, .int .i64 0, .int .i64 0] 55 (0, 0)) (by refine blk_far ?_ NB123_121.out _; exact BK123.out) hb); have n3_ := Aside0.mk (below_step (by repeat (first | (with_reducible first | exact HB.out | apply below_alloc | apply pw_below_drewN | apply below_drew1 | refine below_set ?_ GE121.out | refine below_set ?_ GE122.out | refine below_set ?_ GE123.out) | exact HB.out)) hb); have n4_ := Aside0.mk (hbox); have n5_ := Aside0.mk ((by rw [hg]; exact (below_size (by repeat (first | (with_reducible first | exact HB.out | apply below_alloc | apply pw_below_drewN | apply below_drew1 | refine below_set ?_ GE121.out | refine below_set ?_ GE122.out | refine below_set ?_ GE123.out) | exact HB.out))) : w.heap.size ≤ gb150)); have n6_ := Aside0.mk ((by rw [hg]; exact (below_size (by repeat (first | (with_reducible first | exact HB.out | apply below_alloc | apply pw_below_drewN | apply below_drew1 | refine below_set ?_ GE121.out | refine below_set ?_ GE122.out | refine below_set ?_ GE123.out) | exact HB.out))) : w.heap.size ≤ gb150)); have n7_ := Aside0.mk ((by rw [hg]; exact Nat.ne_of_lt (blk_lt (g := gb121) (o := .cells #[.slice (some ad149) l0_0.length c0_0, .int .i64 a0_1, .int .i64 (wrap64 (a0_2 + 1))] 55 (0, 0)) (by refine blk_put (cs := #[.slice (some ad149) l0_0.length c0_0, .int .i64 a0_1, .int .i64 a0_2]) ?_ 2 _ rfl; exact BK121.out)) : gb121 ≠ gb150)); have n8_ := Aside0.mk ((by rw [hg]; exact Nat.ne_of_gt (blk_lt (g := gb121) (o := .cells #[.slice (some ad149) l0_0.length c0_0, .int .i64 a0_1, .int .i64 (wrap64 (a0_2 + 1))] 55 (0, 0)) (by refine blk_put (cs := #[.slice (some ad149) l0_0.length c0_0, .int .i64 a0_1, .int .i64 a0_2]) ?_ 2 _ rfl; exact BK121.out)) : gb150 ≠ gb121)); have n9_ := Aside0.mk ((by rw [hg]; exact Nat.ne_of_lt (blk_lt (g := gb122) (o := .cells #[.int .i64 0, .int .i64 0] 54 (0, 0)) (by refine blk_far ?_ NB122_121.out _; exact BK122.out)) : gb122 ≠ gb150)); have n10_ := Aside0.mk ((by rw [hg]; exact Nat.ne_of_gt (blk_lt (g := gb122) (o := .cells #[.int .i64 0, .int .i64 0] 54 (0, 0)) (by refine blk_far ?_ NB122_121.out _; exact BK122.out)) : gb150 ≠ gb122)); have n11_ := Aside0.mk ((by rw [hg]; exact Nat.ne_of_lt (blk_lt (g := gb123) (o := .cells #[.slice none 0 0, .int .i64 0, .int .i64 0] 55 (0, 0)) (by refine blk_far ?_ NB123_121.out _; exact BK123.out)) : gb123 ≠ gb150)); have n12_ := Aside0.mk ((by rw [hg]; exact Nat.ne_of_gt (blk_lt (g := gb123) (o := .cells #[.slice none 0 0, .int .i64 0, .int .i64 0] 55 (0, 0)) (by refine blk_far ?_ NB123_121.out _; exact BK123.out)) : gb150 ≠ gb123)); clear BK121; clear BK122; clear BK123; clear HB; have BK121 := n0_; have BK122 := n1_; have BK123 := n2_; have HB := n3_; have BK150 := n4_; have GW150 := n5_; have GE150 := n6_; have NB121_150 := n7_; have NB150_121 := n8_; have NB122_150 := n9_; have NB150_122 := n10_; have NB123_150 := n11_; have NB150_123 := n12_; clear n0_ n1_ n2_ n3_ n4_ n5_ n6_ n7_ n8_ n9_ n10_ n11_ n12_; clear hb hbox hg; have hnb132 := NB150_121.out; have hnc132 := NB121_150.out; have hnb133 := NB150_122.out; have hnc133 := NB122_150.out; have hnb134 := NB150_123.out; have hnc134 := NB123_150.out; have hcz135_0 : w131.cell? ⟨gb150, 0, none⟩ = some (.int .i64 0) := (blk_cell BK150.out 0).trans rfl; have hcz135_1 : w131.cell? ⟨gb150, 1, none⟩ = some (.int .i64 0) := (blk_cell BK150.out 1).trans rfl; have hfz135_0 := blk_frozen BK150.out 0; have hfz135_1 := blk_frozen BK150.out 1) | ((with_reducible refine gate_dst (N := 63) rfl ?_); (try (refine gate_guard (by rfl) ?_; dsimp only)); refine Kd.R_lit (Kd.int .i64) _ 3 ?hg (N := 63) ?hd (xs := ([] : List Int)) (inner := []) (ok := fun _ => True) (okp := fun _ => True) ?hr ?hp (fun _ hk => hk) trivial (Below.refl _ _) (Nat.le_refl _) (by simp) ?_; (case hd => rfl); (case hg => rfl); (case hr => first | (go_simp; done) | (go_simp; rfl)); (case hp => exact (Reps.none _ _)); intro v152 w136 ho137 hb hg_ hnew_; clear hg_ hnew_; (first | rw [← Ny151.out] at ho137 | (simp only [Int.reduceToNat] at ho137; rw [← Ny151.out] at ho137)); have n0_ := Aside0.mk (Kd.R_lower ho137 (below_size (by repeat (first | (with_reducible first | exact HB.out | apply below_alloc | apply pw_below_drewN | apply below_drew1 | refine below_set ?_ GE121.out | refine below_set ?_ GE122.out | refine below_set ?_ GE123.out | refine below_set ?_ GE150.out) | exact HB.out)))); have n1_ := Aside0.mk (blk_below (g := gb121) (o := .cells #[.slice (some ad149) l0_0.length c0_0, .int .i64 a0_1, .int .i64 (wrap64 (a0_2 + 1))] 55 (0, 0)) (by refine blk_far ?_ NB121_150.out _; refine blk_far ?_ NB121_150.out _; exact BK121.out) hb); have n2_ := Aside0.mk (blk_below (g := gb122) (o := .cells #[.int .i64 0, .int .i64 0] 54 (0, 0)) (by refine blk_far ?_ NB122_150.out _; refine blk_far ?_ NB122_150.out _; exact BK122.out) hb); have n3_ := Aside0.mk (blk_below (g := gb123) (o := .cells #[.slice none 0 0, .int .i64 0, .int .i64 0] 55 (0, 0)) (by refine blk_far ?_ NB123_150.out _; refine blk_far ?_ NB123_150.out _; exact BK123.out) hb); have n4_ := Aside0.mk (blk_below (g := gb150) (o := .cells #[.int .i64 ji122, .int .i64 (rd l0_0 (ji122))] 54 (0, 0)) (by refine blk_put (cs := #[.int .i64 ji122, .int .i64 0]) ?_ 1 _ rfl; refine blk_put (cs := #[.int .i64 0, .int .i64 0]) ?_ 0 _ rfl; exact BK150.out) hb); have n5_ := Aside0.mk (below_step (by repeat (first | (with_reducible first | exact HB.out | apply below_alloc | apply pw_below_drewN | apply below_drew1 | refine below_set ?_ GE121.out | refine below_set ?_ GE122.out | refine below_set ?_ GE123.out | refine below_set ?_ GE150.out) | exact HB.out)) hb); clear BK121; clear BK122; clear BK123; clear BK150; clear HB; have HO153 := n0_; have BK121 := n1_; have BK122 := n2_; have BK123 := n3_; have BK150 := n4_; have HB := n5_; clear n0_ n1_ n2_ n3_ n4_ n5_; clear hb ho137; have hcz138_0 : w136.cell? ⟨gb121, 0, none⟩ = some (.slice (some ad149) l0_0.length c0_0) := (blk_cell BK121.out 0).trans rfl; have hcz138_1 : w136.cell? ⟨gb121, 1, none⟩ = some (.int .i64 a0_1) := (blk_cell BK121.out 1).trans rfl; have hcz138_2 : w136.cell? ⟨gb121, 2, none⟩ = some (.int .i64 (wrap64 (a0_2 + 1))) := (blk_cell BK121.out 2).trans rfl; have hfz138_0 := blk_frozen BK121.out 0; have hfz138_1 := blk_frozen BK121.out 1; have hfz138_2 := blk_frozen BK121.out 2) | ((with_reducible refine gate_builtin (b := .append) (xs := #[.tmp 63, .tmp 65]) rfl ?_); (try (refine gate_guard (by rfl) ?_; dsimp only)); at_builtin; refine Kd.R_append_rows (Kd.int .i64) (w0 := w) w.heap.size rfl (.tmp 63) (.tmp 65) 22 3 (.int .i64 0) 8 rfl Try.underlying22 info3 rfl (by decide) (by omega) v152 y151 l0_0 _ _ _ (fun _ => True) (fun _ => False) rfl rfl ?aO ?aR (fun _ _ h => h) (fun _ h => h.elim) ?aF ?aB ?aS ?aL ?_; (case aR => repeat (first | exact (Kd.C_below HR0_0.out HB.out) | (with_reducible refine Kd.C_alloc ?_ _) | (with_reducible refine Kd.C_drewN ?_ _) | (with_reducible refine Kd.C_drew ?_))); (case aB => exact (by repeat (first | (with_reducible first | exact HB.out | apply below_alloc | apply pw_below_drewN | apply below_drew1 | refine below_set ?_ GE121.out | refine below_set ?_ GE122.out | refine below_set ?_ GE123.out | refine below_set ?_ GE150.out) | exact HB.out))); (case aF => exact (fun _ _ => trivial)); (case aO => exact HO153.out); (case aS => exact (below_size (by repeat (first | (with_reducible first | exact HB.out | apply below_alloc | apply pw_below_drewN | apply below_drew1 | refine below_set ?_ GE121.out | refine below_set ?_ GE122.out | refine below_set ?_ GE123.out | refine below_set ?_ GE150.out) | exact HB.out)))); (case aL => have := LMc125.out; omega); intro v155 w139 ho hb hg hat; rw [← Ny154.out] at ho; have n0_ := Aside0.mk (blk_grown (g := gb121) (o := .cells #[.slice (some ad149) l0_0.length c0_0, .int .i64 a0_1, .int .i64 (wrap64 (a0_2 + 1))] 55 (0, 0)) BK121.out hg (Kd.R_ne HO153.out BK121.out (by decide))); have n1_ := Aside0.mk (blk_grown (g := gb122) (o := .cells #[.int .i64 0, .int .i64 0] 54 (0, 0)) BK122.out hg (Kd.R_ne HO153.out BK122.out (by decide))); have n2_ := Aside0.mk (blk_grown (g := gb123) (o := .cells #[.slice none 0 0, .int .i64 0, .int .i64 0] 55 (0, 0)) BK123.out hg (Kd.R_ne HO153.out BK123.out (by decide))); have n3_ := Aside0.mk (blk_grown (g := gb150) (o := .cells #[.int .i64 ji122, .int .i64 (rd l0_0 (ji122))] 54 (0, 0)) BK150.out hg (Kd.R_ne HO153.out BK150.out (by decide))); have n4_ := Aside0.mk (hb); have n5_ := Aside0.mk (ho); clear BK121; clear BK122; clear BK123; clear BK150; clear HB; clear HO153; have BK121 := n0_; have BK122 := n1_; have BK123 := n2_; have BK150 := n3_; have HB := n4_; have HO156 := n5_; clear n0_ n1_ n2_ n3_ n4_ n5_; clear ho hb hg hat; obtain ⟨Ao140, co140, eo140⟩ := Kd.R_slice HO156.out; subst eo140; have hcz141_0 : w139.cell? ⟨gb121, 0, none⟩ = some (.slice (some ad149) l0_0.length c0_0) := (blk_cell BK121.out 0).trans rfl; have hcz141_1 : w139.cell? ⟨gb121, 1, none⟩ = some (.int .i64 a0_1) := (blk_cell BK121.out 1).trans rfl; have hcz141_2 : w139.cell? ⟨gb121, 2, none⟩ = some (.int .i64 (wrap64 (a0_2 + 1))) := (blk_cell BK121.out 2).trans rfl; have hfz141_0 := blk_frozen BK121.out 0; have hfz141_1 := blk_frozen BK121.out 1; have hfz141_2 := blk_frozen BK121.out 2))
                    have n0_ : Aside0 (Kd.R (Kd.int .i64) 3 (w139.setCell ⟨gb121, 0, none⟩ (.slice Ao140 y154.length co140)) w.heap.size (fun _ => True) (.slice Ao140 y154.length co140) y154) := ⟨by exact Kd.R_mono (Kd.R_far (p := ⟨gb121, 0, none⟩) (Kd.R_types HO156.out BK121.out (by decide)) (fun _ hk => hk.2) (.slice Ao140 y154.length co140)) (fun _ hk => trivial)⟩
                    have n1_ : Aside0 ((w139.setCell ⟨gb121, 0, none⟩ (.slice Ao140 y154.length co140)).heap[gb121]? = some (.cells #[.slice Ao140 y154.length co140, .int .i64 a0_1, .int .i64 (wrap64 (a0_2 + 1))] 55 (0, 0))) := ⟨by refine blk_put (cs := #[.slice (some ad149) l0_0.length c0_0, .int .i64 a0_1, .int .i64 (wrap64 (a0_2 + 1))]) ?_ 0 _ rfl; exact BK121.out⟩
                    have n2_ : Aside0 ((w139.setCell ⟨gb121, 0, none⟩ (.slice Ao140 y154.length co140)).heap[gb122]? = some (.cells #[.int .i64 0, .int .i64 0] 54 (0, 0))) := ⟨by refine blk_far ?_ NB122_121.out _; exact BK122.out⟩
                    have n3_ : Aside0 ((w139.setCell ⟨gb121, 0, none⟩ (.slice Ao140 y154.length co140)).heap[gb123]? = some (.cells #[.slice none 0 0, .int .i64 0, .int .i64 0] 55 (0, 0))) := ⟨by refine blk_far ?_ NB123_121.out _; exact BK123.out⟩
                    have n4_ : Aside0 ((w139.setCell ⟨gb121, 0, none⟩ (.slice Ao140 y154.length co140)).heap[gb150]? = some (.cells #[.int .i64 ji122, .int .i64 (rd l0_0 (ji122))] 54 (0, 0))) := ⟨by refine blk_far ?_ NB150_121.out _; exact BK150.out⟩
                    have n5_ : Aside0 (Below w.heap.size w (w139.setCell ⟨gb121, 0, none⟩ (.slice Ao140 y154.length co140))) := ⟨by repeat (first | (with_reducible first | exact HB.out | apply below_alloc | apply pw_below_drewN | apply below_drew1 | refine below_set ?_ GE121.out | refine below_set ?_ GE122.out | refine below_set ?_ GE123.out | refine below_set ?_ GE150.out) | exact HB.out)⟩
                    (try clear HO156)
                    (try clear BK121)
                    (try clear BK122)
                    (try clear BK123)
                    (try clear BK150)
                    (try clear HB)
                    generalize (w139.setCell ⟨gb121, 0, none⟩ (.slice Ao140 y154.length co140)) = w142 at n0_ n1_ n2_ n3_ n4_ n5_ ⊢
                    have HO156 := n0_
                    have BK121 := n1_
                    have BK122 := n2_
                    have BK123 := n3_
                    have BK150 := n4_
                    have HB := n5_
                    clear n0_ n1_ n2_ n3_ n4_ n5_
                    have n0_ := Aside0.mk (Kd.R_drew HO156.out)
                    have n1_ := Aside0.mk (blk_drew BK121.out)
                    have n2_ := Aside0.mk (blk_drew BK122.out)
                    have n3_ := Aside0.mk (blk_drew BK123.out)
                    have n4_ := Aside0.mk (blk_drew BK150.out)
                    have n5_ := Aside0.mk (below_drew1 HB.out)
                    clear HO156
                    clear BK121
                    clear BK122
                    clear BK123
                    clear BK150
                    clear HB
                    have HO156 := n0_
                    have BK121 := n1_
                    have BK122 := n2_
                    have BK123 := n3_
                    have BK150 := n4_
                    have HB := n5_
                    clear n0_ n1_ n2_ n3_ n4_ n5_
                    refine start_ (n := 5) (S := fun w' => w'.cell? ⟨gb150, 0, none⟩ = some (.int .i64 ji122) ∧ w'.cell? ⟨gb150, 1, none⟩ = some (.int .i64 (rd l0_0 (ji122))) ∧ w'.cell? ⟨gb121, 0, none⟩ = some (.slice Ao140 y154.length co140) ∧ w'.cell? ⟨gb121, 1, none⟩ = some (.int .i64 a0_1) ∧ w'.cell? ⟨gb121, 2, none⟩ = some (.int .i64 (wrap64 (a0_2 + 1)))) (ds := []) #[false, false, false, false, false] (by kernel_rfl) rfl rfl ⟨(blk_cell BK150.out 0).trans rfl, (blk_cell BK150.out 1).trans rfl, (blk_cell BK121.out 0).trans rfl, (blk_cell BK121.out 1).trans rfl, (blk_cell BK121.out 2).trans rfl⟩ (fun hHeld => ?_)
                    generalize w142.drew = w143 at HO156 BK121 BK122 BK123 BK150 HB hHeld ⊢
                    refine take_ (i := 0) (N := some 68) (v := ?_) (a' := ?_) #[true, false, false, false, false] rfl rfl (by kernel_rfl) (fun _ _ _ h => h) (Or.inl ⟨by rfl, ?_⟩) hHeld ?_ ?_
                    rotate_left
                    · rintro w' ⟨s0, s1, s2, s3, s4⟩
                      go_simp
                      with_reducible rfl
                    rotate_left
                    · simp only [Act.put, List.setIfInBounds_toArray, List.set_cons_zero, List.set_cons_succ, i64_w, i32_w]
                      rfl
                    refine take_ (i := 1) (N := some 69) (v := ?_) (a' := ?_) #[true, true, false, false, false] rfl rfl (by kernel_rfl) (fun _ _ _ h => h) (Or.inl ⟨by rfl, ?_⟩) hHeld ?_ ?_
                    rotate_left
                    · rintro w' ⟨s0, s1, s2, s3, s4⟩
                      go_simp
                      with_reducible rfl
                    rotate_left
                    · simp only [Act.put, List.setIfInBounds_toArray, List.set_cons_zero, List.set_cons_succ, i64_w, i32_w]
                      rfl
                    refine one_ (i := 2) (N := none) #[true, true, true, false, false] rfl rfl (by kernel_rfl) (by decide) (fun K hK => ?_)
                    have hs144 : w143.cell? ⟨gb122, 0, none⟩ = some (.int .i64 0) := (blk_cell BK122.out 0).trans rfl
                    have hfs144 := blk_frozen BK122.out 0
                    have hns144_0 := NB121_122.out
                    have hns144_2 := NB123_122.out
                    have hns144_3 := NB150_122.out
                    have hms144_0 := NB122_121.out
                    have hms144_2 := NB122_123.out
                    have hms144_3 := NB122_150.out
                    have hs145 : w143.cell? ⟨gb122, 1, none⟩ = some (.int .i64 0) := (blk_cell BK122.out 1).trans rfl
                    have hfs145 := blk_frozen BK122.out 1
                    have hns145_0 := NB121_122.out
                    have hns145_2 := NB123_122.out
                    have hns145_3 := NB150_122.out
                    have hms145_0 := NB122_121.out
                    have hms145_2 := NB122_123.out
                    have hms145_3 := NB122_150.out
                    refine skip_ (w1 := ?_) (by rfl) rfl ?_ ?_
                    rotate_left
                    · go_simp
                      rfl
                    refine hK.out _ _ ⟨((cell_far (p := ⟨gb122, _, none⟩) NB150_122.out _).trans (((cell_far (p := ⟨gb122, _, none⟩) NB150_122.out _).trans (hHeld.1)))), ((cell_far (p := ⟨gb122, _, none⟩) NB150_122.out _).trans (((cell_far (p := ⟨gb122, _, none⟩) NB150_122.out _).trans (hHeld.2.1)))), ((cell_far (p := ⟨gb122, _, none⟩) NB121_122.out _).trans (((cell_far (p := ⟨gb122, _, none⟩) NB121_122.out _).trans (hHeld.2.2.1)))), ((cell_far (p := ⟨gb122, _, none⟩) NB121_122.out _).trans (((cell_far (p := ⟨gb122, _, none⟩) NB121_122.out _).trans (hHeld.2.2.2.1)))), ((cell_far (p := ⟨gb122, _, none⟩) NB121_122.out _).trans (((cell_far (p := ⟨gb122, _, none⟩) NB121_122.out _).trans (hHeld.2.2.2.2))))⟩ (fun hHeld => ?_)
                    clear hK K
                    refine one_ (i := 3) (N := none) #[true, true, true, true, false] rfl rfl (by kernel_rfl) (by decide) (fun K hK => ?_)
                    have hs146 : w143.cell? ⟨gb123, 0, none⟩ = some (.slice none 0 0) := (blk_cell BK123.out 0).trans rfl
                    have hfs146 := blk_frozen BK123.out 0
                    have hns146_0 := NB121_123.out
                    have hns146_1 := NB122_123.out
                    have hns146_3 := NB150_123.out
                    have hms146_0 := NB123_121.out
                    have hms146_1 := NB123_122.out
                    have hms146_3 := NB123_150.out
                    have hs147 : w143.cell? ⟨gb123, 1, none⟩ = some (.int .i64 0) := (blk_cell BK123.out 1).trans rfl
                    have hfs147 := blk_frozen BK123.out 1
                    have hns147_0 := NB121_123.out
                    have hns147_1 := NB122_123.out
                    have hns147_3 := NB150_123.out
                    have hms147_0 := NB123_121.out
                    have hms147_1 := NB123_122.out
                    have hms147_3 := NB123_150.out
                    have hs148 : w143.cell? ⟨gb123, 2, none⟩ = some (.int .i64 0) := (blk_cell BK123.out 2).trans rfl
                    have hfs148 := blk_frozen BK123.out 2
                    have hns148_0 := NB121_123.out
                    have hns148_1 := NB122_123.out
                    have hns148_3 := NB150_123.out
                    have hms148_0 := NB123_121.out
                    have hms148_1 := NB123_122.out
                    have hms148_3 := NB123_150.out
                    refine skip_ (w1 := ?_) (by rfl) rfl ?_ ?_
                    rotate_left
                    · go_simp
                      rfl
                    refine hK.out _ _ ⟨((cell_far (p := ⟨gb123, _, none⟩) NB150_123.out _).trans (((cell_far (p := ⟨gb123, _, none⟩) NB150_123.out _).trans (((cell_far (p := ⟨gb123, _, none⟩) NB150_123.out _).trans (hHeld.1)))))), ((cell_far (p := ⟨gb123, _, none⟩) NB150_123.out _).trans (((cell_far (p := ⟨gb123, _, none⟩) NB150_123.out _).trans (((cell_far (p := ⟨gb123, _, none⟩) NB150_123.out _).trans (hHeld.2.1)))))), ((cell_far (p := ⟨gb123, _, none⟩) NB121_123.out _).trans (((cell_far (p := ⟨gb123, _, none⟩) NB121_123.out _).trans (((cell_far (p := ⟨gb123, _, none⟩) NB121_123.out _).trans (hHeld.2.2.1)))))), ((cell_far (p := ⟨gb123, _, none⟩) NB121_123.out _).trans (((cell_far (p := ⟨gb123, _, none⟩) NB121_123.out _).trans (((cell_far (p := ⟨gb123, _, none⟩) NB121_123.out _).trans (hHeld.2.2.2.1)))))), ((cell_far (p := ⟨gb123, _, none⟩) NB121_123.out _).trans (((cell_far (p := ⟨gb123, _, none⟩) NB121_123.out _).trans (((cell_far (p := ⟨gb123, _, none⟩) NB121_123.out _).trans (hHeld.2.2.2.2))))))⟩ (fun hHeld => ?_)
                    clear hK K
                    refine pure_ (i := 4) (N := some 6) (v := ?_) (a' := ?_) #[true, true, true, true, true] rfl rfl (by kernel_rfl) (fun _ _ _ h => h) (Or.inl ⟨by rfl, ?_⟩) ?_ ?_
                    rotate_left
                    · intro w'
                      go_simp
                      with_reducible rfl
                    rotate_left
                    · simp only [Act.put, List.setIfInBounds_toArray, List.set_cons_zero, List.set_cons_succ, i64_w, i32_w]
                      rfl
                    refine done_ (by kernel_rfl) ?_
                    try go_wp2
                    refine bodyPost_ret (results_list (rs := [.cell 4 54, .cell 5 55, .tmp 6]) rfl (by simp) (.cell gb122 54 #[.int .i64 ji122, .int .i64 (rd l0_0 (ji122))] (0, 0) _ rfl (by refine blk_far ?_ NB122_123.out _; refine blk_far ?_ NB122_123.out _; refine blk_far ?_ NB122_123.out _; refine blk_put (cs := #[.int .i64 ji122, .int .i64 0]) ?_ 1 _ rfl; refine blk_put (cs := #[.int .i64 0, .int .i64 0]) ?_ 0 _ rfl; exact BK122.out) Try.underlying54 rfl (by kernel_rfl) (.cell gb123 55 #[.slice Ao140 y154.length co140, .int .i64 a0_1, .int .i64 (wrap64 (a0_2 + 1))] (0, 0) _ rfl (by refine blk_put (cs := #[.slice Ao140 y154.length co140, .int .i64 a0_1, .int .i64 0]) ?_ 2 _ rfl; refine blk_put (cs := #[.slice Ao140 y154.length co140, .int .i64 0, .int .i64 0]) ?_ 1 _ rfl; refine blk_put (cs := #[.slice none 0 0, .int .i64 0, .int .i64 0]) ?_ 0 _ rfl; refine blk_far ?_ NB123_122.out _; refine blk_far ?_ NB123_122.out _; exact BK123.out) Try.underlying55 rfl (by kernel_rfl) (.tmp .nil)))) rfl ?_
                    exact ⟨_, by first | rfl | (simp [errW_none, errW_some] <;> rfl) | (simp only [← hji122]; first | rfl | (simp [errW_none, errW_some] <;> rfl)) | (simp [*, errW_none, errW_some] <;> rfl), by exact Kd.R_mono (Kd.R_far (p := ⟨gb123, 2, none⟩) (Kd.R_far (p := ⟨gb123, 1, none⟩) (Kd.R_far (p := ⟨gb123, 0, none⟩) (Kd.R_far (p := ⟨gb122, 1, none⟩) (Kd.R_far (p := ⟨gb122, 0, none⟩) (Kd.R_types (Kd.R_types HO156.out BK122.out (by decide)) BK123.out (by decide)) (fun _ hk => hk.1.2) (.int .i64 ji122)) (fun _ hk => hk.1.2) (.int .i64 (rd l0_0 (ji122)))) (fun _ hk => hk.2) (.slice Ao140 y154.length co140)) (fun _ hk => hk.2) (.int .i64 a0_1)) (fun _ hk => hk.2) (.int .i64 (wrap64 (a0_2 + 1)))) (fun _ hk => trivial), by repeat (first | (with_reducible first | exact HB.out | apply below_alloc | apply pw_below_drewN | apply below_drew1 | refine below_set ?_ GE121.out | refine below_set ?_ GE122.out | refine below_set ?_ GE123.out | refine below_set ?_ GE150.out) | exact HB.out)⟩
                  · rw [if_neg c125] at H
                    exact absurd H (by simp)
                · rw [if_neg c124] at H
                  exact absurd H (by simp)
              · rw [if_neg c123] at H
                exact absurd H (by simp)

end Go.Proofs.Ytmlejakajcmbdaa.PFnExactTalkAll
