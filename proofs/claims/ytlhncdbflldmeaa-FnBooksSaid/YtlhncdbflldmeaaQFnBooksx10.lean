-- Written by this session's own program for the law FnBooks; it began as the print's text.
import Derived.Test.YtlhncdbflldmeaaQFnBooksx0
import Derived.Test.YtlhncdbflldmeaaQFnBooksx1
namespace Go.Proofs.Ytlhncdbflldmeaa.PFnBooks
open Go.RowKit Go.Proofs.YtlhncdbflldmeaaW.PrintWords Go.Proofs.YtlhncdbflldmeaaW.PrintLast Go.Proofs.YtlhncdbflldmeaaW.PrintMore
attribute [local go_sem] max2_int min2_int max_two min_two max_three min_three max_four min_four   -- for this text's walks alone
set_option linter.unusedVariables false
set_option linter.unusedSimpArgs false

attribute [local go_sem high] eqA53
/-! ### spec_FreedFine: function 41 -/
mutual
def spec_FreedFine.l0 : Nat → List (S53) → Int → Int → Int → List (S53) → Int → Int → Option (Bool)
  | 0, _, _, _, _, _, _, _ => none
  | k + 1, x1, x2, x3, x9, x12, x13, x14 => if x14 < x13 then (if 0 ≤ x14 then (if x14 < (x12.length : Int) then (if ((rd_T53 x12 x14).f3) = x2 then (spec_FreedFine.j1 k x1 x2 x3 x9 x12 x13 x14 (decide (((rd_T53 x12 x14).f1) ≥ x3)) ((rd_T53 x12 x14).f0) ((rd_T53 x12 x14).f1) ((rd_T53 x12 x14).f2) ((rd_T53 x12 x14).f3)) else (spec_FreedFine.j1 k x1 x2 x3 x9 x12 x13 x14 false ((rd_T53 x12 x14).f0) ((rd_T53 x12 x14).f1) ((rd_T53 x12 x14).f2) ((rd_T53 x12 x14).f3))) else (none)) else (none)) else (some (x9 == (x1.length : Int)))
def spec_FreedFine.j1 : Nat → List (S53) → Int → Int → Int → List (S53) → Int → Int → Bool → Int → Int → Int → Int → Option (Bool)
  | 0, _, _, _, _, _, _, _, _, _, _, _, _ => none
  | k + 1, x1, x2, x3, x9, x12, x13, x14, x27, x356000, x356001, x356002, x356003 => if x27 = true then (spec_FreedFine.l0 k x1 x2 x3 x9 x12 x13 (wrap64 (x14 + 1))) else (if x356003 = x2 then (spec_FreedFine.j2 k x1 x2 x3 x9 x12 x13 x14 (decide (x356002 > x3)) x356000 x356001 x356002 x356003) else (spec_FreedFine.j2 k x1 x2 x3 x9 x12 x13 x14 false x356000 x356001 x356002 x356003))
def spec_FreedFine.j2 : Nat → List (S53) → Int → Int → Int → List (S53) → Int → Int → Bool → Int → Int → Int → Int → Option (Bool)
  | 0, _, _, _, _, _, _, _, _, _, _, _, _ => none
  | k + 1, x1, x2, x3, x9, x12, x13, x14, x37, x356000, x356001, x356002, x356003 => if x37 = true then (if x9 ≥ (x1.length : Int) then (some false) else (if 0 ≤ x9 then (if x9 < (x1.length : Int) then (if (!(((rd_T53 x1 x9).f0) == x356000) || (!(((rd_T53 x1 x9).f1) == x356001) || (!(((rd_T53 x1 x9).f2) == x3) || (!(((rd_T53 x1 x9).f3) == x356003))))) = true then (some false) else (spec_FreedFine.l0 k x1 x2 x3 (wrap64 (x9 + 1)) x12 x13 (wrap64 (x14 + 1)))) else (none)) else (none))) else (if x9 ≥ (x1.length : Int) then (some false) else (if 0 ≤ x9 then (if x9 < (x1.length : Int) then (if (!(((rd_T53 x1 x9).f0) == x356000) || (!(((rd_T53 x1 x9).f1) == x356001) || (!(((rd_T53 x1 x9).f2) == x356002) || (!(((rd_T53 x1 x9).f3) == x356003))))) = true then (some false) else (spec_FreedFine.l0 k x1 x2 x3 (wrap64 (x9 + 1)) x12 x13 (wrap64 (x14 + 1)))) else (none)) else (none)))
end
def spec_FreedFine.f (k : Nat) (l0 : List (S53)) (l1 : List (S53)) (a2 : Int) (a3 : Int) : Option (Bool) := spec_FreedFine.l0 k l1 a2 a3 0 l0 (l0.length : Int) 0
theorem spec_FreedFine.mono_l : ∀ k, (∀ y0 y1 y2 y3 y4 y5 y6, LeO (spec_FreedFine.l0 k y0 y1 y2 y3 y4 y5 y6) (spec_FreedFine.l0 (k + 1) y0 y1 y2 y3 y4 y5 y6)) ∧ (∀ y0 y1 y2 y3 y4 y5 y6 y7 y8 y9 y10 y11, LeO (spec_FreedFine.j1 k y0 y1 y2 y3 y4 y5 y6 y7 y8 y9 y10 y11) (spec_FreedFine.j1 (k + 1) y0 y1 y2 y3 y4 y5 y6 y7 y8 y9 y10 y11)) ∧ (∀ y0 y1 y2 y3 y4 y5 y6 y7 y8 y9 y10 y11, LeO (spec_FreedFine.j2 k y0 y1 y2 y3 y4 y5 y6 y7 y8 y9 y10 y11) (spec_FreedFine.j2 (k + 1) y0 y1 y2 y3 y4 y5 y6 y7 y8 y9 y10 y11))
  | 0 => ⟨fun _ _ _ _ _ _ _ r h => by simp [spec_FreedFine.l0] at h, fun _ _ _ _ _ _ _ _ _ _ _ _ r h => by simp [spec_FreedFine.j1] at h, fun _ _ _ _ _ _ _ _ _ _ _ _ r h => by simp [spec_FreedFine.j2] at h⟩
  | k + 1 => by
    obtain ⟨ih0, ih1, ih2⟩ := spec_FreedFine.mono_l k
    refine ⟨?_, ?_, ?_⟩
    · intro y0 y1 y2 y3 y4 y5 y6
      unfold spec_FreedFine.l0
      repeat' first
      | (with_reducible exact ih0 _ _ _ _ _ _ _)
      | (with_reducible exact ih1 _ _ _ _ _ _ _ _ _ _ _ _)
      | (with_reducible exact ih2 _ _ _ _ _ _ _ _ _ _ _ _)
      | (with_reducible exact LeO.refl _)
      | (with_reducible exact LeO.none _)
      | (with_reducible refine LeO.ite ?_ ?_)
      | (with_reducible refine LeO.bind ?_ (fun _ => ?_))
      | exact ih0 _ _ _ _ _ _ _
      | exact ih1 _ _ _ _ _ _ _ _ _ _ _ _
      | exact ih2 _ _ _ _ _ _ _ _ _ _ _ _
      | exact LeO.none _
      | refine LeO.ite ?_ ?_
      | refine LeO.bind ?_ (fun _ => ?_)
    · intro y0 y1 y2 y3 y4 y5 y6 y7 y8 y9 y10 y11
      unfold spec_FreedFine.j1
      repeat' first
      | (with_reducible exact ih0 _ _ _ _ _ _ _)
      | (with_reducible exact ih1 _ _ _ _ _ _ _ _ _ _ _ _)
      | (with_reducible exact ih2 _ _ _ _ _ _ _ _ _ _ _ _)
      | (with_reducible exact LeO.refl _)
      | (with_reducible exact LeO.none _)
      | (with_reducible refine LeO.ite ?_ ?_)
      | (with_reducible refine LeO.bind ?_ (fun _ => ?_))
      | exact ih0 _ _ _ _ _ _ _
      | exact ih1 _ _ _ _ _ _ _ _ _ _ _ _
      | exact ih2 _ _ _ _ _ _ _ _ _ _ _ _
      | exact LeO.none _
      | refine LeO.ite ?_ ?_
      | refine LeO.bind ?_ (fun _ => ?_)
    · intro y0 y1 y2 y3 y4 y5 y6 y7 y8 y9 y10 y11
      unfold spec_FreedFine.j2
      repeat' first
      | (with_reducible exact ih0 _ _ _ _ _ _ _)
      | (with_reducible exact ih1 _ _ _ _ _ _ _ _ _ _ _ _)
      | (with_reducible exact ih2 _ _ _ _ _ _ _ _ _ _ _ _)
      | (with_reducible exact LeO.refl _)
      | (with_reducible exact LeO.none _)
      | (with_reducible refine LeO.ite ?_ ?_)
      | (with_reducible refine LeO.bind ?_ (fun _ => ?_))
      | exact ih0 _ _ _ _ _ _ _
      | exact ih1 _ _ _ _ _ _ _ _ _ _ _ _
      | exact ih2 _ _ _ _ _ _ _ _ _ _ _ _
      | exact LeO.none _
      | refine LeO.ite ?_ ?_
      | refine LeO.bind ?_ (fun _ => ?_)
theorem spec_FreedFine.mono : ∀ a0 a1 a2 a3 k, LeO (spec_FreedFine.f k a0 a1 a2 a3) (spec_FreedFine.f (k + 1) a0 a1 a2 a3) := by
  intro a0 a1 a2 a3 k
  obtain ⟨ih0, ih1, ih2⟩ := spec_FreedFine.mono_l k
  unfold spec_FreedFine.f
  repeat' first
      | (with_reducible exact ih0 _ _ _ _ _ _ _)
      | (with_reducible exact ih1 _ _ _ _ _ _ _ _ _ _ _ _)
      | (with_reducible exact ih2 _ _ _ _ _ _ _ _ _ _ _ _)
      | (with_reducible exact LeO.refl _)
      | (with_reducible exact LeO.none _)
      | (with_reducible refine LeO.ite ?_ ?_)
      | (with_reducible refine LeO.bind ?_ (fun _ => ?_))
      | exact ih0 _ _ _ _ _ _ _
      | exact ih1 _ _ _ _ _ _ _ _ _ _ _ _
      | exact ih2 _ _ _ _ _ _ _ _ _ _ _ _
      | exact LeO.none _
      | refine LeO.ite ?_ ?_
      | refine LeO.bind ?_ (fun _ => ?_)
set_option maxHeartbeats 8000000 in
set_option maxRecDepth 100000 in
theorem spec_FreedFine.calls (k : Nat) (A0 : Option Addr) (c0 : Nat) (l0 : List (S53)) (A1 : Option Addr) (c1 : Nat) (l1 : List (S53)) (a2 : Int) (a3 : Int) (r : Bool) (w : World) (hr0 : Kd.C k53 w A0 l0.length l0) (hc0 : l0.length ≤ c0) (hr1 : Kd.C k53 w A1 l1.length l1) (hc1 : l1.length ≤ c1) (h : spec_FreedFine.f k l0 l1 a2 a3 = some r) :
    Calls Try.prog 41 #[.slice A0 l0.length c0, .slice A1 l1.length c1, .int .i64 a2, .int .i64 a3] w fun e w' => e = .returned (.bool r) ∧ Below w.heap.size w w' := by
  have hu53 := Try.underlying53
  have HR0 := Aside0.mk hr0
  have HC0 := Aside0.mk hc0
  clear hr0 hc0
  have HR1 := Aside0.mk hr1
  have HC1 := Aside0.mk hc1
  clear hr1 hc1
  have HB := Aside0.mk (Below.refl w.heap.size w)
  have H : (spec_FreedFine.l0 k l1 a2 a3 0 l0 (l0.length : Int) 0) = some r := h
  clear h
  have H' := Aside0.mk H
  clear H
  go_enter Try.func41, Try.ntmps41
  go_wp2
  repeat (go_quiet (fail); try go_wp2)
  go_loopg [9, 14] k (fun kq v9 v14 w' => ∃ (x9_1 : Int) (x14_1 : Int), v9 = .int .i64 x9_1 ∧ v14 = .int .i64 x14_1 ∧ Aside0 (spec_FreedFine.l0 kq l1 a2 a3 x9_1 l0 (l0.length : Int) x14_1 = some r) ∧ Aside0 (kq ≤ k) ∧ Aside0 (Below w.heap.size w w'))
  case atStart => exact ⟨(0), (0), (by first | rfl | (simp; done) | (simp [*]; done)), (by first | rfl | (simp; done) | (simp [*]; done)), H', ⟨Nat.le_refl _⟩, ⟨by repeat (first | (with_reducible first | exact HB.out | apply below_alloc | apply pw_below_drewN | apply below_drew1) | exact HB.out)⟩⟩
  case round =>
    clear H'
    try clear c1
    try clear p2
    try clear c4
    obtain ⟨x9_1, x14_1, rfl, rfl, HA, HK1, HB⟩ := hrel
    cases gk with
    | zero => exact absurd HA.out (by simp [spec_FreedFine.l0])
    | succ k1 =>
      have H := HA.out
      clear HA
      simp only [spec_FreedFine.l0] at H
      by_cases c5 : x14_1 < (l0.length : Int)
      · rw [if_pos c5] at H
        have c5b0 : decide (x14_1 < (l0.length : Int)) = true := decide_eq_true c5
        clear c5
        by_cases c6 : 0 ≤ x14_1
        · rw [if_pos c6] at H
          have c6b0 : decide (0 ≤ x14_1) = true := decide_eq_true c6
          clear c6
          by_cases c7 : x14_1 < (l0.length : Int)
          · rw [if_pos c7] at H
            have c7b0 : decide (x14_1 < (l0.length : Int)) = true := decide_eq_true c7
            clear c7
            have HC8 := Aside0.mk H
            clear H
            have p354 : 0 ≤ (x14_1 : Int) := of_decide_eq_true (by first | (with_reducible assumption) | assumption)
            have q354 : x14_1 < (l0.length : Int) := of_decide_eq_true (by first | (with_reducible assumption) | assumption)
            obtain ⟨ad354, e354, hx354_0, hx354_1, hx354_2, hx354_3⟩ := at_T53 HR0.out x14_1 p354 q354
            cases e354
            (first | replace hx354_0 := (HB.out.cell (World.block_lt_of_cell? w _ hx354_0)).trans hx354_0 | skip)
            (first | replace hx354_1 := (HB.out.cell (World.block_lt_of_cell? w _ hx354_1)).trans hx354_1 | skip)
            (first | replace hx354_2 := (HB.out.cell (World.block_lt_of_cell? w _ hx354_2)).trans hx354_2 | skip)
            (first | replace hx354_3 := (HB.out.cell (World.block_lt_of_cell? w _ hx354_3)).trans hx354_3 | skip)
            replace p354 := eq_true p354
            replace q354 := eq_true q354
            go_upto_region 5 with (first | ((with_reducible refine gate_dst (N := 11) rfl ?_); refine box_event ?hg (N := 11) ?hd (cs := #[.int .i64 0, .int .i64 0, .int .i64 0, .int .i64 0]) (t := 53) ?hr ?_; (case hd => rfl); (case hg => rfl); (case hr => first | (go_simp; done) | (go_simp; rfl)); intro gb355 hg w9 hbox hb; have n0_ := Aside0.mk (below_step (by repeat (first | (with_reducible first | exact HB.out | apply below_alloc | apply pw_below_drewN | apply below_drew1) | exact HB.out)) hb); have n1_ := Aside0.mk (hbox); have n2_ := Aside0.mk ((by rw [hg]; exact (below_size (by repeat (first | (with_reducible first | exact HB.out | apply below_alloc | apply pw_below_drewN | apply below_drew1) | exact HB.out))) : w.heap.size ≤ gb355)); have n3_ := Aside0.mk ((by rw [hg]; exact (below_size (by repeat (first | (with_reducible first | exact HB.out | apply below_alloc | apply pw_below_drewN | apply below_drew1) | exact HB.out))) : w.heap.size ≤ gb355)); clear HB; have HB := n0_; have BK355 := n1_; have GW355 := n2_; have GE355 := n3_; clear n0_ n1_ n2_ n3_; clear hb hbox hg; have hcz10_0 : w9.cell? ⟨gb355, 0, none⟩ = some (.int .i64 0) := (blk_cell BK355.out 0).trans rfl; have hcz10_1 : w9.cell? ⟨gb355, 1, none⟩ = some (.int .i64 0) := (blk_cell BK355.out 1).trans rfl; have hcz10_2 : w9.cell? ⟨gb355, 2, none⟩ = some (.int .i64 0) := (blk_cell BK355.out 2).trans rfl; have hcz10_3 : w9.cell? ⟨gb355, 3, none⟩ = some (.int .i64 0) := (blk_cell BK355.out 3).trans rfl; have hfz10_0 := blk_frozen BK355.out 0; have hfz10_1 := blk_frozen BK355.out 1; have hfz10_2 := blk_frozen BK355.out 2; have hfz10_3 := blk_frozen BK355.out 3))
            repeat (go_quiet (first | ((with_reducible refine gate_dst (N := 11) rfl ?_); refine box_event ?hg (N := 11) ?hd (cs := #[.int .i64 0, .int .i64 0, .int .i64 0, .int .i64 0]) (t := 53) ?hr ?_; (case hd => rfl); (case hg => rfl); (case hr => first | (go_simp; done) | (go_simp; rfl)); intro gb355 hg w9 hbox hb; have n0_ := Aside0.mk (below_step (by repeat (first | (with_reducible first | exact HB.out | apply below_alloc | apply pw_below_drewN | apply below_drew1) | exact HB.out)) hb); have n1_ := Aside0.mk (hbox); have n2_ := Aside0.mk ((by rw [hg]; exact (below_size (by repeat (first | (with_reducible first | exact HB.out | apply below_alloc | apply pw_below_drewN | apply below_drew1) | exact HB.out))) : w.heap.size ≤ gb355)); have n3_ := Aside0.mk ((by rw [hg]; exact (below_size (by repeat (first | (with_reducible first | exact HB.out | apply below_alloc | apply pw_below_drewN | apply below_drew1) | exact HB.out))) : w.heap.size ≤ gb355)); clear HB; have HB := n0_; have BK355 := n1_; have GW355 := n2_; have GE355 := n3_; clear n0_ n1_ n2_ n3_; clear hb hbox hg; have hcz10_0 : w9.cell? ⟨gb355, 0, none⟩ = some (.int .i64 0) := (blk_cell BK355.out 0).trans rfl; have hcz10_1 : w9.cell? ⟨gb355, 1, none⟩ = some (.int .i64 0) := (blk_cell BK355.out 1).trans rfl; have hcz10_2 : w9.cell? ⟨gb355, 2, none⟩ = some (.int .i64 0) := (blk_cell BK355.out 2).trans rfl; have hcz10_3 : w9.cell? ⟨gb355, 3, none⟩ = some (.int .i64 0) := (blk_cell BK355.out 3).trans rfl; have hfz10_0 := blk_frozen BK355.out 0; have hfz10_1 := blk_frozen BK355.out 1; have hfz10_2 := blk_frozen BK355.out 2; have hfz10_3 := blk_frozen BK355.out 3)); go_upto_region 5 with (first | ((with_reducible refine gate_dst (N := 11) rfl ?_); refine box_event ?hg (N := 11) ?hd (cs := #[.int .i64 0, .int .i64 0, .int .i64 0, .int .i64 0]) (t := 53) ?hr ?_; (case hd => rfl); (case hg => rfl); (case hr => first | (go_simp; done) | (go_simp; rfl)); intro gb355 hg w9 hbox hb; have n0_ := Aside0.mk (below_step (by repeat (first | (with_reducible first | exact HB.out | apply below_alloc | apply pw_below_drewN | apply below_drew1) | exact HB.out)) hb); have n1_ := Aside0.mk (hbox); have n2_ := Aside0.mk ((by rw [hg]; exact (below_size (by repeat (first | (with_reducible first | exact HB.out | apply below_alloc | apply pw_below_drewN | apply below_drew1) | exact HB.out))) : w.heap.size ≤ gb355)); have n3_ := Aside0.mk ((by rw [hg]; exact (below_size (by repeat (first | (with_reducible first | exact HB.out | apply below_alloc | apply pw_below_drewN | apply below_drew1) | exact HB.out))) : w.heap.size ≤ gb355)); clear HB; have HB := n0_; have BK355 := n1_; have GW355 := n2_; have GE355 := n3_; clear n0_ n1_ n2_ n3_; clear hb hbox hg; have hcz10_0 : w9.cell? ⟨gb355, 0, none⟩ = some (.int .i64 0) := (blk_cell BK355.out 0).trans rfl; have hcz10_1 : w9.cell? ⟨gb355, 1, none⟩ = some (.int .i64 0) := (blk_cell BK355.out 1).trans rfl; have hcz10_2 : w9.cell? ⟨gb355, 2, none⟩ = some (.int .i64 0) := (blk_cell BK355.out 2).trans rfl; have hcz10_3 : w9.cell? ⟨gb355, 3, none⟩ = some (.int .i64 0) := (blk_cell BK355.out 3).trans rfl; have hfz10_0 := blk_frozen BK355.out 0; have hfz10_1 := blk_frozen BK355.out 1; have hfz10_2 := blk_frozen BK355.out 2; have hfz10_3 := blk_frozen BK355.out 3)))
            (try simp only [Act.put, List.setIfInBounds_toArray, List.set_cons_zero, List.set_cons_succ])
            go_cut [27] (fun v27 wc => ∃ (kq : Nat) (x27_7 : Bool), v27 = .bool x27_7 ∧ Aside0 (spec_FreedFine.j1 kq l1 a2 a3 x9_1 l0 (l0.length : Int) x14_1 x27_7 ((rd_T53 l0 x14_1).f0) ((rd_T53 l0 x14_1).f1) ((rd_T53 l0 x14_1).f2) ((rd_T53 l0 x14_1).f3) = some r) ∧ Aside0 (kq ≤ k1) ∧ Aside0 (wc.heap[gb355]? = some (.cells #[.int .i64 ((rd_T53 l0 x14_1).f0), .int .i64 ((rd_T53 l0 x14_1).f1), .int .i64 ((rd_T53 l0 x14_1).f2), .int .i64 ((rd_T53 l0 x14_1).f3)] 53 (0, 0))) ∧ Aside0 (Below w.heap.size w wc))
            case first =>
              have H := HC8.out
              clear HC8
              by_cases c11 : ((rd_T53 l0 x14_1).f3) = a2
              · rw [if_pos c11] at H
                have c11b0 : (((rd_T53 l0 x14_1).f3) == a2) = true := beq_iff_eq.mpr c11
                have c11b1 : (((rd_T53 l0 x14_1).f3) != a2) = false := bne_eq_false_iff_eq.mpr c11
                clear c11
                (first | rw [c11b0] | (simp only [i64_w, i32_w]; rw [c11b0]) | skip)
                have H' := Aside0.mk H
                clear H
                have hcz12_0 : w9.cell? ⟨gb355, 0, none⟩ = some (.int .i64 0) := (blk_cell BK355.out 0).trans rfl
                have hcz12_1 : w9.cell? ⟨gb355, 1, none⟩ = some (.int .i64 0) := (blk_cell BK355.out 1).trans rfl
                have hcz12_2 : w9.cell? ⟨gb355, 2, none⟩ = some (.int .i64 0) := (blk_cell BK355.out 2).trans rfl
                have hcz12_3 : w9.cell? ⟨gb355, 3, none⟩ = some (.int .i64 0) := (blk_cell BK355.out 3).trans rfl
                have hfz12_0 := blk_frozen BK355.out 0
                have hfz12_1 := blk_frozen BK355.out 1
                have hfz12_2 := blk_frozen BK355.out 2
                have hfz12_3 := blk_frozen BK355.out 3
                go_wp2
                repeat (go_quiet (fail); try go_wp2)
                go_meet
                case rel => exact ⟨_, (decide (((rd_T53 l0 x14_1).f1) ≥ a3)), (by first | rfl | (simp; done) | (simp [*]; done)), H', ⟨by have := HK1.out; first | omega | exact Nat.le_refl _⟩, ⟨by (with_reducible repeat (first | refine blk_drewN ?_ _ | refine blk_drew ?_ | refine blk_alloc ?_ _)); refine blk_put (cs := #[.int .i64 ((rd_T53 l0 x14_1).f0), .int .i64 ((rd_T53 l0 x14_1).f1), .int .i64 ((rd_T53 l0 x14_1).f2), .int .i64 0]) ?_ 3 _ rfl; (with_reducible repeat (first | refine blk_drewN ?_ _ | refine blk_drew ?_ | refine blk_alloc ?_ _)); refine blk_put (cs := #[.int .i64 ((rd_T53 l0 x14_1).f0), .int .i64 ((rd_T53 l0 x14_1).f1), .int .i64 0, .int .i64 0]) ?_ 2 _ rfl; (with_reducible repeat (first | refine blk_drewN ?_ _ | refine blk_drew ?_ | refine blk_alloc ?_ _)); refine blk_put (cs := #[.int .i64 ((rd_T53 l0 x14_1).f0), .int .i64 0, .int .i64 0, .int .i64 0]) ?_ 1 _ rfl; (with_reducible repeat (first | refine blk_drewN ?_ _ | refine blk_drew ?_ | refine blk_alloc ?_ _)); refine blk_put (cs := #[.int .i64 0, .int .i64 0, .int .i64 0, .int .i64 0]) ?_ 0 _ rfl; (with_reducible repeat (first | refine blk_drewN ?_ _ | refine blk_drew ?_ | refine blk_alloc ?_ _)); exact BK355.out⟩, ⟨by repeat (first | (with_reducible first | exact HB.out | apply below_alloc | apply pw_below_drewN | apply below_drew1 | refine below_set ?_ GE355.out) | exact HB.out)⟩⟩
              · rw [if_neg c11] at H
                have c11b0 : (((rd_T53 l0 x14_1).f3) == a2) = false := beq_eq_false_iff_ne.mpr c11
                have c11b1 : (((rd_T53 l0 x14_1).f3) != a2) = true := bne_iff_ne.mpr c11
                (first | rw [c11b0] | (simp only [i64_w, i32_w]; rw [c11b0]) | skip)
                have H' := Aside0.mk H
                clear H
                have hcz13_0 : w9.cell? ⟨gb355, 0, none⟩ = some (.int .i64 0) := (blk_cell BK355.out 0).trans rfl
                have hcz13_1 : w9.cell? ⟨gb355, 1, none⟩ = some (.int .i64 0) := (blk_cell BK355.out 1).trans rfl
                have hcz13_2 : w9.cell? ⟨gb355, 2, none⟩ = some (.int .i64 0) := (blk_cell BK355.out 2).trans rfl
                have hcz13_3 : w9.cell? ⟨gb355, 3, none⟩ = some (.int .i64 0) := (blk_cell BK355.out 3).trans rfl
                have hfz13_0 := blk_frozen BK355.out 0
                have hfz13_1 := blk_frozen BK355.out 1
                have hfz13_2 := blk_frozen BK355.out 2
                have hfz13_3 := blk_frozen BK355.out 3
                go_wp2
                repeat (go_quiet (fail); try go_wp2)
                go_meet
                case rel => exact ⟨_, (false), (by first | rfl | (simp; done) | (simp [*]; done)), H', ⟨by have := HK1.out; first | omega | exact Nat.le_refl _⟩, ⟨by (with_reducible repeat (first | refine blk_drewN ?_ _ | refine blk_drew ?_ | refine blk_alloc ?_ _)); refine blk_put (cs := #[.int .i64 ((rd_T53 l0 x14_1).f0), .int .i64 ((rd_T53 l0 x14_1).f1), .int .i64 ((rd_T53 l0 x14_1).f2), .int .i64 0]) ?_ 3 _ rfl; (with_reducible repeat (first | refine blk_drewN ?_ _ | refine blk_drew ?_ | refine blk_alloc ?_ _)); refine blk_put (cs := #[.int .i64 ((rd_T53 l0 x14_1).f0), .int .i64 ((rd_T53 l0 x14_1).f1), .int .i64 0, .int .i64 0]) ?_ 2 _ rfl; (with_reducible repeat (first | refine blk_drewN ?_ _ | refine blk_drew ?_ | refine blk_alloc ?_ _)); refine blk_put (cs := #[.int .i64 ((rd_T53 l0 x14_1).f0), .int .i64 0, .int .i64 0, .int .i64 0]) ?_ 1 _ rfl; (with_reducible repeat (first | refine blk_drewN ?_ _ | refine blk_drew ?_ | refine blk_alloc ?_ _)); refine blk_put (cs := #[.int .i64 0, .int .i64 0, .int .i64 0, .int .i64 0]) ?_ 0 _ rfl; (with_reducible repeat (first | refine blk_drewN ?_ _ | refine blk_drew ?_ | refine blk_alloc ?_ _)); exact BK355.out⟩, ⟨by repeat (first | (with_reducible first | exact HB.out | apply below_alloc | apply pw_below_drewN | apply below_drew1 | refine below_set ?_ GE355.out) | exact HB.out)⟩⟩
            case rest =>
              clear HC8
              try clear c1
              try clear p2
              try clear p3
              try clear q3
              try clear hx3
              try clear c4
              try clear c5
              try clear c5b0
              try clear c6
              try clear c6b0
              try clear c7
              try clear c7b0
              try clear c11
              try clear c11b0
              try clear c11b1
              try clear hcz10_0
              try clear hcz10_1
              try clear hcz10_2
              try clear hcz10_3
              try clear hcz12_0
              try clear hcz12_1
              try clear hcz12_2
              try clear hcz12_3
              try clear hcz13_0
              try clear hcz13_1
              try clear hcz13_2
              try clear hcz13_3
              try clear hfz10_0
              try clear hfz10_1
              try clear hfz10_2
              try clear hfz10_3
              try clear hfz12_0
              try clear hfz12_1
              try clear hfz12_2
              try clear hfz12_3
              try clear hfz13_0
              try clear hfz13_1
              try clear hfz13_2
              try clear hfz13_3
              try clear hx354_0
              try clear hx354_1
              try clear hx354_2
              try clear hx354_3
              try clear p2
              try clear p354
              try clear q354
              obtain ⟨kq, x27_7, rfl, HA, HJ7, BK355, HB⟩ := hcut
              cases kq with
              | zero => exact absurd HA.out (by simp [spec_FreedFine.j1])
              | succ kj7 =>
                have H := HA.out
                clear HA
                simp only [spec_FreedFine.j1] at H
                by_cases c14 : x27_7 = true
                · subst c14
                  have H1 : (spec_FreedFine.l0 kj7 l1 a2 a3 x9_1 l0 (l0.length : Int) (wrap64 (x14_1 + 1))) = some r := by rw [if_pos rfl] at H; exact H
                  clear H
                  have H := H1
                  clear H1
                  have H' := Aside0.mk H
                  clear H
                  go_wp2
                  repeat (go_quiet (fail); try go_wp2)
                  go_roundg kj7
                  case measure => have := HK1.out; have := HJ7.out; omega
                  case rel => exact ⟨(x9_1), (wrap64 (x14_1 + 1)), (by first | rfl | (simp; done) | (simp [*]; done)), (by first | rfl | (simp; done) | (simp [*]; done)), H', ⟨by have := HK1.out; have := HJ7.out; omega⟩, ⟨by repeat (first | (with_reducible first | exact HB.out | apply below_alloc | apply pw_below_drewN | apply below_drew1 | refine below_set ?_ GE355.out) | exact HB.out)⟩⟩
                · replace c14 := Bool.eq_false_iff.mpr c14
                  subst c14
                  have H1 : (if ((rd_T53 l0 x14_1).f3) = a2 then (spec_FreedFine.j2 kj7 l1 a2 a3 x9_1 l0 (l0.length : Int) x14_1 (decide (((rd_T53 l0 x14_1).f2) > a3)) ((rd_T53 l0 x14_1).f0) ((rd_T53 l0 x14_1).f1) ((rd_T53 l0 x14_1).f2) ((rd_T53 l0 x14_1).f3)) else (spec_FreedFine.j2 kj7 l1 a2 a3 x9_1 l0 (l0.length : Int) x14_1 false ((rd_T53 l0 x14_1).f0) ((rd_T53 l0 x14_1).f1) ((rd_T53 l0 x14_1).f2) ((rd_T53 l0 x14_1).f3))) = some r := by rw [if_neg (show ¬ (false = true) by decide)] at H; exact H
                  clear H
                  have H := H1
                  clear H1
                  have HC15 := Aside0.mk H
                  clear H
                  go_upto_region 6 with (fail)
                  repeat (go_quiet (fail); go_upto_region 6 with (fail))
                  go_cut [37] (fun v37 wc => ∃ (kq : Nat) (x37_14 : Bool), v37 = .bool x37_14 ∧ Aside0 (spec_FreedFine.j2 kq l1 a2 a3 x9_1 l0 (l0.length : Int) x14_1 x37_14 ((rd_T53 l0 x14_1).f0) ((rd_T53 l0 x14_1).f1) ((rd_T53 l0 x14_1).f2) ((rd_T53 l0 x14_1).f3) = some r) ∧ Aside0 (kq ≤ kj7) ∧ Aside0 (wc.heap[gb355]? = some (.cells #[.int .i64 ((rd_T53 l0 x14_1).f0), .int .i64 ((rd_T53 l0 x14_1).f1), .int .i64 ((rd_T53 l0 x14_1).f2), .int .i64 ((rd_T53 l0 x14_1).f3)] 53 (0, 0))) ∧ Aside0 (Below w.heap.size w wc))
                  case first =>
                    have H := HC15.out
                    clear HC15
                    by_cases c16 : ((rd_T53 l0 x14_1).f3) = a2
                    · rw [if_pos c16] at H
                      have c16b0 : (((rd_T53 l0 x14_1).f3) == a2) = true := beq_iff_eq.mpr c16
                      have c16b1 : (((rd_T53 l0 x14_1).f3) != a2) = false := bne_eq_false_iff_eq.mpr c16
                      clear c16
                      (first | rw [c16b0] | (simp only [i64_w, i32_w]; rw [c16b0]) | skip)
                      have H' := Aside0.mk H
                      clear H
                      have hcz17_0 : wc.cell? ⟨gb355, 0, none⟩ = some (.int .i64 ((rd_T53 l0 x14_1).f0)) := (blk_cell BK355.out 0).trans rfl
                      have hcz17_1 : wc.cell? ⟨gb355, 1, none⟩ = some (.int .i64 ((rd_T53 l0 x14_1).f1)) := (blk_cell BK355.out 1).trans rfl
                      have hcz17_2 : wc.cell? ⟨gb355, 2, none⟩ = some (.int .i64 ((rd_T53 l0 x14_1).f2)) := (blk_cell BK355.out 2).trans rfl
                      have hcz17_3 : wc.cell? ⟨gb355, 3, none⟩ = some (.int .i64 ((rd_T53 l0 x14_1).f3)) := (blk_cell BK355.out 3).trans rfl
                      have hfz17_0 := blk_frozen BK355.out 0
                      have hfz17_1 := blk_frozen BK355.out 1
                      have hfz17_2 := blk_frozen BK355.out 2
                      have hfz17_3 := blk_frozen BK355.out 3
                      go_wp2
                      repeat (go_quiet (fail); try go_wp2)
                      go_meet
                      case rel => exact ⟨_, (decide (((rd_T53 l0 x14_1).f2) > a3)), (by first | rfl | (simp; done) | (simp [*]; done)), H', ⟨by have := HK1.out; have := HJ7.out; first | omega | exact Nat.le_refl _⟩, ⟨by (with_reducible repeat (first | refine blk_drewN ?_ _ | refine blk_drew ?_ | refine blk_alloc ?_ _)); exact BK355.out⟩, ⟨by repeat (first | (with_reducible first | exact HB.out | apply below_alloc | apply pw_below_drewN | apply below_drew1 | refine below_set ?_ GE355.out) | exact HB.out)⟩⟩
                    · rw [if_neg c16] at H
                      have c16b0 : (((rd_T53 l0 x14_1).f3) == a2) = false := beq_eq_false_iff_ne.mpr c16
                      have c16b1 : (((rd_T53 l0 x14_1).f3) != a2) = true := bne_iff_ne.mpr c16
                      (first | rw [c16b0] | (simp only [i64_w, i32_w]; rw [c16b0]) | skip)
                      have H' := Aside0.mk H
                      clear H
                      have hcz18_0 : wc.cell? ⟨gb355, 0, none⟩ = some (.int .i64 ((rd_T53 l0 x14_1).f0)) := (blk_cell BK355.out 0).trans rfl
                      have hcz18_1 : wc.cell? ⟨gb355, 1, none⟩ = some (.int .i64 ((rd_T53 l0 x14_1).f1)) := (blk_cell BK355.out 1).trans rfl
                      have hcz18_2 : wc.cell? ⟨gb355, 2, none⟩ = some (.int .i64 ((rd_T53 l0 x14_1).f2)) := (blk_cell BK355.out 2).trans rfl
                      have hcz18_3 : wc.cell? ⟨gb355, 3, none⟩ = some (.int .i64 ((rd_T53 l0 x14_1).f3)) := (blk_cell BK355.out 3).trans rfl
                      have hfz18_0 := blk_frozen BK355.out 0
                      have hfz18_1 := blk_frozen BK355.out 1
                      have hfz18_2 := blk_frozen BK355.out 2
                      have hfz18_3 := blk_frozen BK355.out 3
                      go_wp2
                      repeat (go_quiet (fail); try go_wp2)
                      go_meet
                      case rel => exact ⟨_, (false), (by first | rfl | (simp; done) | (simp [*]; done)), H', ⟨by have := HK1.out; have := HJ7.out; first | omega | exact Nat.le_refl _⟩, ⟨by (with_reducible repeat (first | refine blk_drewN ?_ _ | refine blk_drew ?_ | refine blk_alloc ?_ _)); exact BK355.out⟩, ⟨by repeat (first | (with_reducible first | exact HB.out | apply below_alloc | apply pw_below_drewN | apply below_drew1 | refine below_set ?_ GE355.out) | exact HB.out)⟩⟩
                  case rest =>
                    clear HC15
                    try clear c1
                    try clear p2
                    try clear p3
                    try clear q3
                    try clear hx3
                    try clear c4
                    try clear c5
                    try clear c5b0
                    try clear c6
                    try clear c6b0
                    try clear p6
                    try clear c7
                    try clear c7b0
                    try clear c11
                    try clear c11b0
                    try clear c11b1
                    try clear c14
                    try clear c16
                    try clear c16b0
                    try clear c16b1
                    try clear hcz10_0
                    try clear hcz10_1
                    try clear hcz10_2
                    try clear hcz10_3
                    try clear hcz12_0
                    try clear hcz12_1
                    try clear hcz12_2
                    try clear hcz12_3
                    try clear hcz13_0
                    try clear hcz13_1
                    try clear hcz13_2
                    try clear hcz13_3
                    try clear hcz17_0
                    try clear hcz17_1
                    try clear hcz17_2
                    try clear hcz17_3
                    try clear hcz18_0
                    try clear hcz18_1
                    try clear hcz18_2
                    try clear hcz18_3
                    try clear hfz10_0
                    try clear hfz10_1
                    try clear hfz10_2
                    try clear hfz10_3
                    try clear hfz12_0
                    try clear hfz12_1
                    try clear hfz12_2
                    try clear hfz12_3
                    try clear hfz13_0
                    try clear hfz13_1
                    try clear hfz13_2
                    try clear hfz13_3
                    try clear hfz17_0
                    try clear hfz17_1
                    try clear hfz17_2
                    try clear hfz17_3
                    try clear hfz18_0
                    try clear hfz18_1
                    try clear hfz18_2
                    try clear hfz18_3
                    try clear hx354_0
                    try clear hx354_1
                    try clear hx354_2
                    try clear hx354_3
                    try clear p2
                    try clear p3
                    try clear p354
                    try clear q3
                    try clear q354
                    obtain ⟨kq, x37_14, rfl, HA, HJ14, BK355, HB⟩ := hcut
                    cases kq with
                    | zero => exact absurd HA.out (by simp [spec_FreedFine.j2])
                    | succ kj14 =>
                      have H := HA.out
                      clear HA
                      simp only [spec_FreedFine.j2] at H
                      by_cases c19 : x37_14 = true
                      · subst c19
                        have H1 : (if x9_1 ≥ (l1.length : Int) then (some false) else (if 0 ≤ x9_1 then (if x9_1 < (l1.length : Int) then (if (!(((rd_T53 l1 x9_1).f0) == ((rd_T53 l0 x14_1).f0)) || (!(((rd_T53 l1 x9_1).f1) == ((rd_T53 l0 x14_1).f1)) || (!(((rd_T53 l1 x9_1).f2) == a3) || (!(((rd_T53 l1 x9_1).f3) == ((rd_T53 l0 x14_1).f3)))))) = true then (some false) else (spec_FreedFine.l0 kj14 l1 a2 a3 (wrap64 (x9_1 + 1)) l0 (l0.length : Int) (wrap64 (x14_1 + 1)))) else (none)) else (none))) = some r := by rw [if_pos rfl] at H; exact H
                        clear H
                        have H := H1
                        clear H1
                        by_cases c20 : x9_1 ≥ (l1.length : Int)
                        · rw [if_pos c20] at H
                          have c20b0 : decide ((l1.length : Int) ≤ x9_1) = true := decide_eq_true c20
                          clear c20
                          obtain rfl := Option.some.inj H
                          have hcz21_0 : wc.cell? ⟨gb355, 0, none⟩ = some (.int .i64 ((rd_T53 l0 x14_1).f0)) := (blk_cell BK355.out 0).trans rfl
                          have hcz21_1 : wc.cell? ⟨gb355, 1, none⟩ = some (.int .i64 ((rd_T53 l0 x14_1).f1)) := (blk_cell BK355.out 1).trans rfl
                          have hcz21_2 : wc.cell? ⟨gb355, 2, none⟩ = some (.int .i64 ((rd_T53 l0 x14_1).f2)) := (blk_cell BK355.out 2).trans rfl
                          have hcz21_3 : wc.cell? ⟨gb355, 3, none⟩ = some (.int .i64 ((rd_T53 l0 x14_1).f3)) := (blk_cell BK355.out 3).trans rfl
                          have hfz21_0 := blk_frozen BK355.out 0
                          have hfz21_1 := blk_frozen BK355.out 1
                          have hfz21_2 := blk_frozen BK355.out 2
                          have hfz21_3 := blk_frozen BK355.out 3
                          go_wp2
                          repeat (go_quiet (fail); try go_wp2)
                          go_ret
                          exact ⟨by first | rfl | (simp [errW_none, errW_some] <;> rfl) | (simp [*, errW_none, errW_some] <;> rfl), by repeat (first | (with_reducible first | exact HB.out | apply below_alloc | apply pw_below_drewN | apply below_drew1 | refine below_set ?_ GE355.out) | exact HB.out)⟩
                        · rw [if_neg c20] at H
                          have c20b0 : decide ((l1.length : Int) ≤ x9_1) = false := decide_eq_false c20
                          clear c20
                          by_cases c22 : 0 ≤ x9_1
                          · rw [if_pos c22] at H
                            have c22b0 : decide (0 ≤ x9_1) = true := decide_eq_true c22
                            clear c22
                            by_cases c23 : x9_1 < (l1.length : Int)
                            · rw [if_pos c23] at H
                              have c23b0 : decide (x9_1 < (l1.length : Int)) = true := decide_eq_true c23
                              clear c23
                              by_cases c24 : (!(((rd_T53 l1 x9_1).f0) == ((rd_T53 l0 x14_1).f0)) || (!(((rd_T53 l1 x9_1).f1) == ((rd_T53 l0 x14_1).f1)) || (!(((rd_T53 l1 x9_1).f2) == a3) || (!(((rd_T53 l1 x9_1).f3) == ((rd_T53 l0 x14_1).f3)))))) = true
                              · rw [if_pos c24] at H
                                have c24b0 : (!(((rd_T53 l1 x9_1).f0) == ((rd_T53 l0 x14_1).f0)) || (!(((rd_T53 l1 x9_1).f1) == ((rd_T53 l0 x14_1).f1)) || (!(((rd_T53 l1 x9_1).f2) == a3) || (!(((rd_T53 l1 x9_1).f3) == ((rd_T53 l0 x14_1).f3)))))) = true := c24
                                clear c24
                                obtain rfl := Option.some.inj H
                                have hcz25_0 : wc.cell? ⟨gb355, 0, none⟩ = some (.int .i64 ((rd_T53 l0 x14_1).f0)) := (blk_cell BK355.out 0).trans rfl
                                have hcz25_1 : wc.cell? ⟨gb355, 1, none⟩ = some (.int .i64 ((rd_T53 l0 x14_1).f1)) := (blk_cell BK355.out 1).trans rfl
                                have hcz25_2 : wc.cell? ⟨gb355, 2, none⟩ = some (.int .i64 ((rd_T53 l0 x14_1).f2)) := (blk_cell BK355.out 2).trans rfl
                                have hcz25_3 : wc.cell? ⟨gb355, 3, none⟩ = some (.int .i64 ((rd_T53 l0 x14_1).f3)) := (blk_cell BK355.out 3).trans rfl
                                have hfz25_0 := blk_frozen BK355.out 0
                                have hfz25_1 := blk_frozen BK355.out 1
                                have hfz25_2 := blk_frozen BK355.out 2
                                have hfz25_3 := blk_frozen BK355.out 3
                                have p356 : 0 ≤ (x9_1 : Int) := of_decide_eq_true (by first | (with_reducible assumption) | assumption)
                                have q356 : x9_1 < (l1.length : Int) := of_decide_eq_true (by first | (with_reducible assumption) | assumption)
                                obtain ⟨ad356, e356, hx356_0, hx356_1, hx356_2, hx356_3⟩ := at_T53 HR1.out x9_1 p356 q356
                                cases e356
                                have hn356_0 : ad356.block ≠ gb355 := Nat.ne_of_lt (Nat.lt_of_lt_of_le (by have := World.block_lt_of_cell? _ _ hx356_0; first | rwa [add_block] at this | exact this) GW355.out)
                                (first | replace hx356_0 := (HB.out.cell (World.block_lt_of_cell? w _ hx356_0)).trans hx356_0 | skip)
                                (first | replace hx356_1 := (HB.out.cell (World.block_lt_of_cell? w _ hx356_1)).trans hx356_1 | skip)
                                (first | replace hx356_2 := (HB.out.cell (World.block_lt_of_cell? w _ hx356_2)).trans hx356_2 | skip)
                                (first | replace hx356_3 := (HB.out.cell (World.block_lt_of_cell? w _ hx356_3)).trans hx356_3 | skip)
                                replace hx356_0 := (cell_far (p := ⟨gb355, 2, none⟩) (by first | (rw [add_block]; exact hn356_0) | (show (Addr.add _ _).block ≠ _; rw [add_block]; exact hn356_0) | exact hn356_0) (.int .i64 a3)).trans hx356_0
                                replace hx356_1 := (cell_far (p := ⟨gb355, 2, none⟩) (by first | (rw [add_block]; exact hn356_0) | (show (Addr.add _ _).block ≠ _; rw [add_block]; exact hn356_0) | exact hn356_0) (.int .i64 a3)).trans hx356_1
                                replace hx356_2 := (cell_far (p := ⟨gb355, 2, none⟩) (by first | (rw [add_block]; exact hn356_0) | (show (Addr.add _ _).block ≠ _; rw [add_block]; exact hn356_0) | exact hn356_0) (.int .i64 a3)).trans hx356_2
                                replace hx356_3 := (cell_far (p := ⟨gb355, 2, none⟩) (by first | (rw [add_block]; exact hn356_0) | (show (Addr.add _ _).block ≠ _; rw [add_block]; exact hn356_0) | exact hn356_0) (.int .i64 a3)).trans hx356_3
                                (try have hy356_0 := fun (n_ : Nat) => (show (((wc.drewN n_).setCell ⟨gb355, 2, none⟩ (.int .i64 a3))).cell? _ = some _ from hx356_0))
                                (try have hy356_1 := fun (n_ : Nat) => (show (((wc.drewN n_).setCell ⟨gb355, 2, none⟩ (.int .i64 a3))).cell? _ = some _ from hx356_1))
                                (try have hy356_2 := fun (n_ : Nat) => (show (((wc.drewN n_).setCell ⟨gb355, 2, none⟩ (.int .i64 a3))).cell? _ = some _ from hx356_2))
                                (try have hy356_3 := fun (n_ : Nat) => (show (((wc.drewN n_).setCell ⟨gb355, 2, none⟩ (.int .i64 a3))).cell? _ = some _ from hx356_3))
                                clear hn356_0
                                replace p356 := eq_true p356
                                replace q356 := eq_true q356
                                go_wp2
                                repeat (go_quiet (fail); try go_wp2)
                                go_ret
                                exact ⟨by first | rfl | (simp [errW_none, errW_some] <;> rfl) | (simp [*, errW_none, errW_some] <;> rfl), by repeat (first | (with_reducible first | exact HB.out | apply below_alloc | apply pw_below_drewN | apply below_drew1 | refine below_set ?_ GE355.out) | exact HB.out)⟩
                              · rw [if_neg c24] at H
                                have c24b0 : (!(((rd_T53 l1 x9_1).f0) == ((rd_T53 l0 x14_1).f0)) || (!(((rd_T53 l1 x9_1).f1) == ((rd_T53 l0 x14_1).f1)) || (!(((rd_T53 l1 x9_1).f2) == a3) || (!(((rd_T53 l1 x9_1).f3) == ((rd_T53 l0 x14_1).f3)))))) = false := by simpa using c24
                                clear c24
                                have H' := Aside0.mk H
                                clear H
                                have hcz26_0 : wc.cell? ⟨gb355, 0, none⟩ = some (.int .i64 ((rd_T53 l0 x14_1).f0)) := (blk_cell BK355.out 0).trans rfl
                                have hcz26_1 : wc.cell? ⟨gb355, 1, none⟩ = some (.int .i64 ((rd_T53 l0 x14_1).f1)) := (blk_cell BK355.out 1).trans rfl
                                have hcz26_2 : wc.cell? ⟨gb355, 2, none⟩ = some (.int .i64 ((rd_T53 l0 x14_1).f2)) := (blk_cell BK355.out 2).trans rfl
                                have hcz26_3 : wc.cell? ⟨gb355, 3, none⟩ = some (.int .i64 ((rd_T53 l0 x14_1).f3)) := (blk_cell BK355.out 3).trans rfl
                                have hfz26_0 := blk_frozen BK355.out 0
                                have hfz26_1 := blk_frozen BK355.out 1
                                have hfz26_2 := blk_frozen BK355.out 2
                                have hfz26_3 := blk_frozen BK355.out 3
                                have p356 : 0 ≤ (x9_1 : Int) := of_decide_eq_true (by first | (with_reducible assumption) | assumption)
                                have q356 : x9_1 < (l1.length : Int) := of_decide_eq_true (by first | (with_reducible assumption) | assumption)
                                obtain ⟨ad356, e356, hx356_0, hx356_1, hx356_2, hx356_3⟩ := at_T53 HR1.out x9_1 p356 q356
                                cases e356
                                have hn356_0 : ad356.block ≠ gb355 := Nat.ne_of_lt (Nat.lt_of_lt_of_le (by have := World.block_lt_of_cell? _ _ hx356_0; first | rwa [add_block] at this | exact this) GW355.out)
                                (first | replace hx356_0 := (HB.out.cell (World.block_lt_of_cell? w _ hx356_0)).trans hx356_0 | skip)
                                (first | replace hx356_1 := (HB.out.cell (World.block_lt_of_cell? w _ hx356_1)).trans hx356_1 | skip)
                                (first | replace hx356_2 := (HB.out.cell (World.block_lt_of_cell? w _ hx356_2)).trans hx356_2 | skip)
                                (first | replace hx356_3 := (HB.out.cell (World.block_lt_of_cell? w _ hx356_3)).trans hx356_3 | skip)
                                replace hx356_0 := (cell_far (p := ⟨gb355, 2, none⟩) (by first | (rw [add_block]; exact hn356_0) | (show (Addr.add _ _).block ≠ _; rw [add_block]; exact hn356_0) | exact hn356_0) (.int .i64 a3)).trans hx356_0
                                replace hx356_1 := (cell_far (p := ⟨gb355, 2, none⟩) (by first | (rw [add_block]; exact hn356_0) | (show (Addr.add _ _).block ≠ _; rw [add_block]; exact hn356_0) | exact hn356_0) (.int .i64 a3)).trans hx356_1
                                replace hx356_2 := (cell_far (p := ⟨gb355, 2, none⟩) (by first | (rw [add_block]; exact hn356_0) | (show (Addr.add _ _).block ≠ _; rw [add_block]; exact hn356_0) | exact hn356_0) (.int .i64 a3)).trans hx356_2
                                replace hx356_3 := (cell_far (p := ⟨gb355, 2, none⟩) (by first | (rw [add_block]; exact hn356_0) | (show (Addr.add _ _).block ≠ _; rw [add_block]; exact hn356_0) | exact hn356_0) (.int .i64 a3)).trans hx356_3
                                (try have hy356_0 := fun (n_ : Nat) => (show (((wc.drewN n_).setCell ⟨gb355, 2, none⟩ (.int .i64 a3))).cell? _ = some _ from hx356_0))
                                (try have hy356_1 := fun (n_ : Nat) => (show (((wc.drewN n_).setCell ⟨gb355, 2, none⟩ (.int .i64 a3))).cell? _ = some _ from hx356_1))
                                (try have hy356_2 := fun (n_ : Nat) => (show (((wc.drewN n_).setCell ⟨gb355, 2, none⟩ (.int .i64 a3))).cell? _ = some _ from hx356_2))
                                (try have hy356_3 := fun (n_ : Nat) => (show (((wc.drewN n_).setCell ⟨gb355, 2, none⟩ (.int .i64 a3))).cell? _ = some _ from hx356_3))
                                clear hn356_0
                                replace p356 := eq_true p356
                                replace q356 := eq_true q356
                                go_wp2
                                repeat (go_quiet (fail); try go_wp2)
                                go_roundg kj14
                                case measure => have := HK1.out; have := HJ7.out; have := HJ14.out; omega
                                case rel => exact ⟨(wrap64 (x9_1 + 1)), (wrap64 (x14_1 + 1)), (by first | rfl | (simp; done) | (simp [*]; done)), (by first | rfl | (simp; done) | (simp [*]; done)), H', ⟨by have := HK1.out; have := HJ7.out; have := HJ14.out; omega⟩, ⟨by repeat (first | (with_reducible first | exact HB.out | apply below_alloc | apply pw_below_drewN | apply below_drew1 | refine below_set ?_ GE355.out) | exact HB.out)⟩⟩
                            · rw [if_neg c23] at H
                              exact absurd H (by simp)
                          · rw [if_neg c22] at H
                            exact absurd H (by simp)
                      · replace c19 := Bool.eq_false_iff.mpr c19
                        subst c19
                        have H1 : (if x9_1 ≥ (l1.length : Int) then (some false) else (if 0 ≤ x9_1 then (if x9_1 < (l1.length : Int) then (if (!(((rd_T53 l1 x9_1).f0) == ((rd_T53 l0 x14_1).f0)) || (!(((rd_T53 l1 x9_1).f1) == ((rd_T53 l0 x14_1).f1)) || (!(((rd_T53 l1 x9_1).f2) == ((rd_T53 l0 x14_1).f2)) || (!(((rd_T53 l1 x9_1).f3) == ((rd_T53 l0 x14_1).f3)))))) = true then (some false) else (spec_FreedFine.l0 kj14 l1 a2 a3 (wrap64 (x9_1 + 1)) l0 (l0.length : Int) (wrap64 (x14_1 + 1)))) else (none)) else (none))) = some r := by rw [if_neg (show ¬ (false = true) by decide)] at H; exact H
                        clear H
                        have H := H1
                        clear H1
                        by_cases c27 : x9_1 ≥ (l1.length : Int)
                        · rw [if_pos c27] at H
                          have c27b0 : decide ((l1.length : Int) ≤ x9_1) = true := decide_eq_true c27
                          clear c27
                          obtain rfl := Option.some.inj H
                          go_wp2
                          repeat (go_quiet (fail); try go_wp2)
                          go_ret
                          exact ⟨by first | rfl | (simp [errW_none, errW_some] <;> rfl) | (simp [*, errW_none, errW_some] <;> rfl), by repeat (first | (with_reducible first | exact HB.out | apply below_alloc | apply pw_below_drewN | apply below_drew1 | refine below_set ?_ GE355.out) | exact HB.out)⟩
                        · rw [if_neg c27] at H
                          have c27b0 : decide ((l1.length : Int) ≤ x9_1) = false := decide_eq_false c27
                          clear c27
                          by_cases c28 : 0 ≤ x9_1
                          · rw [if_pos c28] at H
                            have c28b0 : decide (0 ≤ x9_1) = true := decide_eq_true c28
                            clear c28
                            by_cases c29 : x9_1 < (l1.length : Int)
                            · rw [if_pos c29] at H
                              have c29b0 : decide (x9_1 < (l1.length : Int)) = true := decide_eq_true c29
                              clear c29
                              by_cases c30 : (!(((rd_T53 l1 x9_1).f0) == ((rd_T53 l0 x14_1).f0)) || (!(((rd_T53 l1 x9_1).f1) == ((rd_T53 l0 x14_1).f1)) || (!(((rd_T53 l1 x9_1).f2) == ((rd_T53 l0 x14_1).f2)) || (!(((rd_T53 l1 x9_1).f3) == ((rd_T53 l0 x14_1).f3)))))) = true
                              · rw [if_pos c30] at H
                                have c30b0 : (!(((rd_T53 l1 x9_1).f0) == ((rd_T53 l0 x14_1).f0)) || (!(((rd_T53 l1 x9_1).f1) == ((rd_T53 l0 x14_1).f1)) || (!(((rd_T53 l1 x9_1).f2) == ((rd_T53 l0 x14_1).f2)) || (!(((rd_T53 l1 x9_1).f3) == ((rd_T53 l0 x14_1).f3)))))) = true := c30
                                clear c30
                                obtain rfl := Option.some.inj H
                                have p357 : 0 ≤ (x9_1 : Int) := of_decide_eq_true (by first | (with_reducible assumption) | assumption)
                                have q357 : x9_1 < (l1.length : Int) := of_decide_eq_true (by first | (with_reducible assumption) | assumption)
                                obtain ⟨ad357, e357, hx357_0, hx357_1, hx357_2, hx357_3⟩ := at_T53 HR1.out x9_1 p357 q357
                                cases e357
                                (first | replace hx357_0 := (HB.out.cell (World.block_lt_of_cell? w _ hx357_0)).trans hx357_0 | skip)
                                (first | replace hx357_1 := (HB.out.cell (World.block_lt_of_cell? w _ hx357_1)).trans hx357_1 | skip)
                                (first | replace hx357_2 := (HB.out.cell (World.block_lt_of_cell? w _ hx357_2)).trans hx357_2 | skip)
                                (first | replace hx357_3 := (HB.out.cell (World.block_lt_of_cell? w _ hx357_3)).trans hx357_3 | skip)
                                replace p357 := eq_true p357
                                replace q357 := eq_true q357
                                have hcz31_0 : wc.cell? ⟨gb355, 0, none⟩ = some (.int .i64 ((rd_T53 l0 x14_1).f0)) := (blk_cell BK355.out 0).trans rfl
                                have hcz31_1 : wc.cell? ⟨gb355, 1, none⟩ = some (.int .i64 ((rd_T53 l0 x14_1).f1)) := (blk_cell BK355.out 1).trans rfl
                                have hcz31_2 : wc.cell? ⟨gb355, 2, none⟩ = some (.int .i64 ((rd_T53 l0 x14_1).f2)) := (blk_cell BK355.out 2).trans rfl
                                have hcz31_3 : wc.cell? ⟨gb355, 3, none⟩ = some (.int .i64 ((rd_T53 l0 x14_1).f3)) := (blk_cell BK355.out 3).trans rfl
                                have hfz31_0 := blk_frozen BK355.out 0
                                have hfz31_1 := blk_frozen BK355.out 1
                                have hfz31_2 := blk_frozen BK355.out 2
                                have hfz31_3 := blk_frozen BK355.out 3
                                go_wp2
                                repeat (go_quiet (fail); try go_wp2)
                                go_ret
                                exact ⟨by first | rfl | (simp [errW_none, errW_some] <;> rfl) | (simp [*, errW_none, errW_some] <;> rfl), by repeat (first | (with_reducible first | exact HB.out | apply below_alloc | apply pw_below_drewN | apply below_drew1 | refine below_set ?_ GE355.out) | exact HB.out)⟩
                              · rw [if_neg c30] at H
                                have c30b0 : (!(((rd_T53 l1 x9_1).f0) == ((rd_T53 l0 x14_1).f0)) || (!(((rd_T53 l1 x9_1).f1) == ((rd_T53 l0 x14_1).f1)) || (!(((rd_T53 l1 x9_1).f2) == ((rd_T53 l0 x14_1).f2)) || (!(((rd_T53 l1 x9_1).f3) == ((rd_T53 l0 x14_1).f3)))))) = false := by simpa using c30
                                clear c30
                                have H' := Aside0.mk H
                                clear H
                                have p357 : 0 ≤ (x9_1 : Int) := of_decide_eq_true (by first | (with_reducible assumption) | assumption)
                                have q357 : x9_1 < (l1.length : Int) := of_decide_eq_true (by first | (with_reducible assumption) | assumption)
                                obtain ⟨ad357, e357, hx357_0, hx357_1, hx357_2, hx357_3⟩ := at_T53 HR1.out x9_1 p357 q357
                                cases e357
                                (first | replace hx357_0 := (HB.out.cell (World.block_lt_of_cell? w _ hx357_0)).trans hx357_0 | skip)
                                (first | replace hx357_1 := (HB.out.cell (World.block_lt_of_cell? w _ hx357_1)).trans hx357_1 | skip)
                                (first | replace hx357_2 := (HB.out.cell (World.block_lt_of_cell? w _ hx357_2)).trans hx357_2 | skip)
                                (first | replace hx357_3 := (HB.out.cell (World.block_lt_of_cell? w _ hx357_3)).trans hx357_3 | skip)
                                replace p357 := eq_true p357
                                replace q357 := eq_true q357
                                have hcz32_0 : wc.cell? ⟨gb355, 0, none⟩ = some (.int .i64 ((rd_T53 l0 x14_1).f0)) := (blk_cell BK355.out 0).trans rfl
                                have hcz32_1 : wc.cell? ⟨gb355, 1, none⟩ = some (.int .i64 ((rd_T53 l0 x14_1).f1)) := (blk_cell BK355.out 1).trans rfl
                                have hcz32_2 : wc.cell? ⟨gb355, 2, none⟩ = some (.int .i64 ((rd_T53 l0 x14_1).f2)) := (blk_cell BK355.out 2).trans rfl
                                have hcz32_3 : wc.cell? ⟨gb355, 3, none⟩ = some (.int .i64 ((rd_T53 l0 x14_1).f3)) := (blk_cell BK355.out 3).trans rfl
                                have hfz32_0 := blk_frozen BK355.out 0
                                have hfz32_1 := blk_frozen BK355.out 1
                                have hfz32_2 := blk_frozen BK355.out 2
                                have hfz32_3 := blk_frozen BK355.out 3
                                go_wp2
                                repeat (go_quiet (fail); try go_wp2)
                                go_roundg kj14
                                case measure => have := HK1.out; have := HJ7.out; have := HJ14.out; omega
                                case rel => exact ⟨(wrap64 (x9_1 + 1)), (wrap64 (x14_1 + 1)), (by first | rfl | (simp; done) | (simp [*]; done)), (by first | rfl | (simp; done) | (simp [*]; done)), H', ⟨by have := HK1.out; have := HJ7.out; have := HJ14.out; omega⟩, ⟨by repeat (first | (with_reducible first | exact HB.out | apply below_alloc | apply pw_below_drewN | apply below_drew1 | refine below_set ?_ GE355.out) | exact HB.out)⟩⟩
                            · rw [if_neg c29] at H
                              exact absurd H (by simp)
                          · rw [if_neg c28] at H
                            exact absurd H (by simp)
          · rw [if_neg c7] at H
            exact absurd H (by simp)
        · rw [if_neg c6] at H
          exact absurd H (by simp)
      · rw [if_neg c5] at H
        have c5b0 : decide (x14_1 < (l0.length : Int)) = false := decide_eq_false c5
        clear c5
        obtain rfl := Option.some.inj H
        go_wp2
        repeat (go_quiet (fail); try go_wp2)
        go_ret
        exact ⟨by first | rfl | (simp [errW_none, errW_some] <;> rfl) | (simp [*, errW_none, errW_some] <;> rfl), by repeat (first | (with_reducible first | exact HB.out | apply below_alloc | apply pw_below_drewN | apply below_drew1) | exact HB.out)⟩

end Go.Proofs.Ytlhncdbflldmeaa.PFnBooks
