-- Written by this session's own program for the law FnCharge; it began as the print's text.
import Derived.Test.YtlilbhngffibeaaQFnChargex0
import Derived.Test.YtlilbhngffibeaaQFnChargex1
namespace Go.Proofs.Ytlilbhngffibeaa.PFnCharge
open Go.RowKit Go.Proofs.YtlilbhngffibeaaW.PrintWords Go.Proofs.YtlilbhngffibeaaW.PrintLast Go.Proofs.YtlilbhngffibeaaW.PrintMore
attribute [local go_sem] max2_int min2_int max_two min_two max_three min_three max_four min_four   -- for this text's walks alone
set_option linter.unusedVariables false
set_option linter.unusedSimpArgs false

/-! ### spec_ChargeFine: function 38 -/
mutual
def spec_ChargeFine.l0 : Nat → List Bool → Int → List Bool → Int → Int → Int → Int → Int → Int → Option (Bool)
  | 0, _, _, _, _, _, _, _, _, _ => none
  | k + 1, x1, x5, x10, x11, x12, x196000, x196001, x196002, x196003 => if x12 < x11 then (if 0 ≤ x12 then (if x12 < (x10.length : Int) then (if rdOf false x10 x12 = true then (if x5 < x196001 then (spec_ChargeFine.j1 k x1 x5 x12 (rdOf false x10 x12) x10 x11 x12 true x196000 x196001 x196002 x196003) else (spec_ChargeFine.j1 k x1 x5 x12 (rdOf false x10 x12) x10 x11 x12 false x196000 x196001 x196002 x196003)) else (if x5 ≥ x196001 then (if x12 = 0 then (spec_ChargeFine.j1 k x1 x5 x12 (rdOf false x10 x12) x10 x11 x12 true x196000 x196001 x196002 x196003) else (if 0 ≤ (wrap64 (x12 - 1)) then (if (wrap64 (x12 - 1)) < (x1.length : Int) then (spec_ChargeFine.j1 k x1 x5 x12 (rdOf false x10 x12) x10 x11 x12 (rdOf false x1 (wrap64 (x12 - 1))) x196000 x196001 x196002 x196003) else (none)) else (none))) else (spec_ChargeFine.j1 k x1 x5 x12 (rdOf false x10 x12) x10 x11 x12 false x196000 x196001 x196002 x196003))) else (none)) else (none)) else (some true)
def spec_ChargeFine.j1 : Nat → List Bool → Int → Int → Bool → List Bool → Int → Int → Bool → Int → Int → Int → Int → Option (Bool)
  | 0, _, _, _, _, _, _, _, _, _, _, _, _ => none
  | k + 1, x1, x5, x6, x7, x10, x11, x12, x44, x196000, x196001, x196002, x196003 => if x44 = true then (some false) else (if x6 > 0 then (if 0 ≤ (wrap64 (x6 - 1)) then (if (wrap64 (x6 - 1)) < (x1.length : Int) then (if (rdOf false x1 (wrap64 (x6 - 1)) = true) then (spec_ChargeFine.j2 k x1 x5 x7 x10 x11 x12 false x196000 x196001 x196002 x196003) else (if x5 ≥ x196001 then (spec_ChargeFine.j2 k x1 x5 x7 x10 x11 x12 (x7 != (decide ((wrap64 (x5 + x196002)) > x196003))) x196000 x196001 x196002 x196003) else (spec_ChargeFine.j2 k x1 x5 x7 x10 x11 x12 (x7 != false) x196000 x196001 x196002 x196003))) else (none)) else (none)) else (spec_ChargeFine.j2 k x1 x5 x7 x10 x11 x12 false x196000 x196001 x196002 x196003))
def spec_ChargeFine.j2 : Nat → List Bool → Int → Bool → List Bool → Int → Int → Bool → Int → Int → Int → Int → Option (Bool)
  | 0, _, _, _, _, _, _, _, _, _, _, _ => none
  | k + 1, x1, x5, x7, x10, x11, x12, x71, x196000, x196001, x196002, x196003 => if x71 = true then (some false) else (if x7 = true then (if (wrap64 (x5 - x196001)) < 0 then (some false) else (if (wrap64 (x5 - x196001)) > x196003 then (some false) else (spec_ChargeFine.l0 k x1 (wrap64 (x5 - x196001)) x10 x11 (wrap64 (x12 + 1)) x196000 x196001 x196002 x196003))) else ((spec_l13Cut.f (wrap64 (x5 + x196002)) 0 x196003).bind fun t199 => (if t199 < 0 then (some false) else (if t199 > x196003 then (some false) else (spec_ChargeFine.l0 k x1 t199 x10 x11 (wrap64 (x12 + 1)) x196000 x196001 x196002 x196003)))))
end
def spec_ChargeFine.f (k : Nat) (a0_0 : Int) (a0_1 : Int) (a0_2 : Int) (a0_3 : Int) (l1 : List Bool) : Option (Bool) := spec_ChargeFine.l0 k l1 a0_0 l1 (l1.length : Int) 0 a0_0 a0_1 a0_2 a0_3
theorem spec_ChargeFine.mono_l : ∀ k, (∀ y0 y1 y2 y3 y4 y5 y6 y7 y8, LeO (spec_ChargeFine.l0 k y0 y1 y2 y3 y4 y5 y6 y7 y8) (spec_ChargeFine.l0 (k + 1) y0 y1 y2 y3 y4 y5 y6 y7 y8)) ∧ (∀ y0 y1 y2 y3 y4 y5 y6 y7 y8 y9 y10 y11, LeO (spec_ChargeFine.j1 k y0 y1 y2 y3 y4 y5 y6 y7 y8 y9 y10 y11) (spec_ChargeFine.j1 (k + 1) y0 y1 y2 y3 y4 y5 y6 y7 y8 y9 y10 y11)) ∧ (∀ y0 y1 y2 y3 y4 y5 y6 y7 y8 y9 y10, LeO (spec_ChargeFine.j2 k y0 y1 y2 y3 y4 y5 y6 y7 y8 y9 y10) (spec_ChargeFine.j2 (k + 1) y0 y1 y2 y3 y4 y5 y6 y7 y8 y9 y10))
  | 0 => ⟨fun _ _ _ _ _ _ _ _ _ r h => by simp [spec_ChargeFine.l0] at h, fun _ _ _ _ _ _ _ _ _ _ _ _ r h => by simp [spec_ChargeFine.j1] at h, fun _ _ _ _ _ _ _ _ _ _ _ r h => by simp [spec_ChargeFine.j2] at h⟩
  | k + 1 => by
    obtain ⟨ih0, ih1, ih2⟩ := spec_ChargeFine.mono_l k
    refine ⟨?_, ?_, ?_⟩
    · intro y0 y1 y2 y3 y4 y5 y6 y7 y8
      unfold spec_ChargeFine.l0
      repeat' first
      | (with_reducible exact ih0 _ _ _ _ _ _ _ _ _)
      | (with_reducible exact ih1 _ _ _ _ _ _ _ _ _ _ _ _)
      | (with_reducible exact ih2 _ _ _ _ _ _ _ _ _ _ _)
      | (with_reducible exact LeO.refl _)
      | (with_reducible exact LeO.none _)
      | (with_reducible refine LeO.ite ?_ ?_)
      | (with_reducible refine LeO.bind ?_ (fun _ => ?_))
      | exact ih0 _ _ _ _ _ _ _ _ _
      | exact ih1 _ _ _ _ _ _ _ _ _ _ _ _
      | exact ih2 _ _ _ _ _ _ _ _ _ _ _
      | exact LeO.none _
      | refine LeO.ite ?_ ?_
      | refine LeO.bind ?_ (fun _ => ?_)
    · intro y0 y1 y2 y3 y4 y5 y6 y7 y8 y9 y10 y11
      unfold spec_ChargeFine.j1
      repeat' first
      | (with_reducible exact ih0 _ _ _ _ _ _ _ _ _)
      | (with_reducible exact ih1 _ _ _ _ _ _ _ _ _ _ _ _)
      | (with_reducible exact ih2 _ _ _ _ _ _ _ _ _ _ _)
      | (with_reducible exact LeO.refl _)
      | (with_reducible exact LeO.none _)
      | (with_reducible refine LeO.ite ?_ ?_)
      | (with_reducible refine LeO.bind ?_ (fun _ => ?_))
      | exact ih0 _ _ _ _ _ _ _ _ _
      | exact ih1 _ _ _ _ _ _ _ _ _ _ _ _
      | exact ih2 _ _ _ _ _ _ _ _ _ _ _
      | exact LeO.none _
      | refine LeO.ite ?_ ?_
      | refine LeO.bind ?_ (fun _ => ?_)
    · intro y0 y1 y2 y3 y4 y5 y6 y7 y8 y9 y10
      unfold spec_ChargeFine.j2
      repeat' first
      | (with_reducible exact ih0 _ _ _ _ _ _ _ _ _)
      | (with_reducible exact ih1 _ _ _ _ _ _ _ _ _ _ _ _)
      | (with_reducible exact ih2 _ _ _ _ _ _ _ _ _ _ _)
      | (with_reducible exact LeO.refl _)
      | (with_reducible exact LeO.none _)
      | (with_reducible refine LeO.ite ?_ ?_)
      | (with_reducible refine LeO.bind ?_ (fun _ => ?_))
      | exact ih0 _ _ _ _ _ _ _ _ _
      | exact ih1 _ _ _ _ _ _ _ _ _ _ _ _
      | exact ih2 _ _ _ _ _ _ _ _ _ _ _
      | exact LeO.none _
      | refine LeO.ite ?_ ?_
      | refine LeO.bind ?_ (fun _ => ?_)
theorem spec_ChargeFine.mono : ∀ a0 a1 a2 a3 a4 k, LeO (spec_ChargeFine.f k a0 a1 a2 a3 a4) (spec_ChargeFine.f (k + 1) a0 a1 a2 a3 a4) := by
  intro a0 a1 a2 a3 a4 k
  obtain ⟨ih0, ih1, ih2⟩ := spec_ChargeFine.mono_l k
  unfold spec_ChargeFine.f
  repeat' first
      | (with_reducible exact ih0 _ _ _ _ _ _ _ _ _)
      | (with_reducible exact ih1 _ _ _ _ _ _ _ _ _ _ _ _)
      | (with_reducible exact ih2 _ _ _ _ _ _ _ _ _ _ _)
      | (with_reducible exact LeO.refl _)
      | (with_reducible exact LeO.none _)
      | (with_reducible refine LeO.ite ?_ ?_)
      | (with_reducible refine LeO.bind ?_ (fun _ => ?_))
      | exact ih0 _ _ _ _ _ _ _ _ _
      | exact ih1 _ _ _ _ _ _ _ _ _ _ _ _
      | exact ih2 _ _ _ _ _ _ _ _ _ _ _
      | exact LeO.none _
      | refine LeO.ite ?_ ?_
      | refine LeO.bind ?_ (fun _ => ?_)
set_option maxHeartbeats 8000000 in
set_option maxRecDepth 100000 in
theorem spec_ChargeFine.calls (k : Nat) (a0_0 : Int) (a0_1 : Int) (a0_2 : Int) (a0_3 : Int) (A1 : Option Addr) (c1 : Nat) (l1 : List Bool) (r : Bool) (w : World) (hr1 : Kd.C Kd.bool w A1 l1.length l1) (hc1 : l1.length ≤ c1) (h : spec_ChargeFine.f k a0_0 a0_1 a0_2 a0_3 l1 = some r) :
    Calls Try.prog 38 #[.agg #[.int .i64 a0_0, .int .i64 a0_1, .int .i64 a0_2, .int .i64 a0_3], .slice A1 l1.length c1] w fun e w' => e = .returned (.bool r) ∧ Below w.heap.size w w' := by
  have hu46 := Try.underlying46
  have HR1 := Aside0.mk hr1
  have HC1 := Aside0.mk hc1
  clear hr1 hc1
  have HB := Aside0.mk (Below.refl w.heap.size w)
  have H : (spec_ChargeFine.l0 k l1 a0_0 l1 (l1.length : Int) 0 a0_0 a0_1 a0_2 a0_3) = some r := h
  clear h
  have H' := Aside0.mk H
  clear H
  go_enter Try.func38, Try.ntmps38
  go_wp2_with (first | ((with_reducible refine gate_dst (N := 2) rfl ?_); refine box_event ?hg (N := 2) ?hd (cs := #[.int .i64 a0_0, .int .i64 a0_1, .int .i64 a0_2, .int .i64 a0_3]) (t := 46) ?hr ?_; (case hd => rfl); (case hg => rfl); (case hr => first | (go_simp; done) | (go_simp; rfl)); intro gb195 hg w3 hbox hb; have n0_ := Aside0.mk (below_step (by repeat (first | (with_reducible first | exact HB.out | apply below_alloc | apply pw_below_drewN | apply below_drew1) | exact HB.out)) hb); have n1_ := Aside0.mk (hbox); have n2_ := Aside0.mk ((by rw [hg]; exact (below_size (by repeat (first | (with_reducible first | exact HB.out | apply below_alloc | apply pw_below_drewN | apply below_drew1) | exact HB.out))) : w.heap.size ≤ gb195)); have n3_ := Aside0.mk ((by rw [hg]; exact (below_size (by repeat (first | (with_reducible first | exact HB.out | apply below_alloc | apply pw_below_drewN | apply below_drew1) | exact HB.out))) : w.heap.size ≤ gb195)); clear HB; have HB := n0_; have BK195 := n1_; have GW195 := n2_; have GE195 := n3_; clear n0_ n1_ n2_ n3_; clear hb hbox hg; have hcz4_0 : w3.cell? ⟨gb195, 0, none⟩ = some (.int .i64 a0_0) := (blk_cell BK195.out 0).trans rfl; have hcz4_1 : w3.cell? ⟨gb195, 1, none⟩ = some (.int .i64 a0_1) := (blk_cell BK195.out 1).trans rfl; have hcz4_2 : w3.cell? ⟨gb195, 2, none⟩ = some (.int .i64 a0_2) := (blk_cell BK195.out 2).trans rfl; have hcz4_3 : w3.cell? ⟨gb195, 3, none⟩ = some (.int .i64 a0_3) := (blk_cell BK195.out 3).trans rfl; have hfz4_0 := blk_frozen BK195.out 0; have hfz4_1 := blk_frozen BK195.out 1; have hfz4_2 := blk_frozen BK195.out 2; have hfz4_3 := blk_frozen BK195.out 3))
  go_loopg [5, 12] k (fun kq v5 v12 w' => ∃ (x5_1 : Int) (x12_1 : Int), v5 = .int .i64 x5_1 ∧ v12 = .int .i64 x12_1 ∧ Aside0 (spec_ChargeFine.l0 kq l1 x5_1 l1 (l1.length : Int) x12_1 a0_0 a0_1 a0_2 a0_3 = some r) ∧ Aside0 (kq ≤ k) ∧ Aside0 (w'.heap[gb195]? = some (.cells #[.int .i64 a0_0, .int .i64 a0_1, .int .i64 a0_2, .int .i64 a0_3] 46 (0, 0))) ∧ Aside0 (Below w.heap.size w w'))
  case atStart => exact ⟨(a0_0), (0), (by first | rfl | (simp; done) | (simp [*]; done)), (by first | rfl | (simp; done) | (simp [*]; done)), H', ⟨Nat.le_refl _⟩, ⟨by (with_reducible repeat (first | refine blk_drewN ?_ _ | refine blk_drew ?_ | refine blk_alloc ?_ _)); exact BK195.out⟩, ⟨by repeat (first | (with_reducible first | exact HB.out | apply below_alloc | apply pw_below_drewN | apply below_drew1 | refine below_set ?_ GE195.out) | exact HB.out)⟩⟩
  case round =>
    clear H'
    try clear c1
    try clear p2
    try clear c3
    try clear hcz4_0
    try clear hcz4_1
    try clear hcz4_2
    try clear hcz4_3
    try clear hfz4_0
    try clear hfz4_1
    try clear hfz4_2
    try clear hfz4_3
    obtain ⟨x5_1, x12_1, rfl, rfl, HA, HK1, BK195, HB⟩ := hrel
    cases gk with
    | zero => exact absurd HA.out (by simp [spec_ChargeFine.l0])
    | succ k1 =>
      have H := HA.out
      clear HA
      simp only [spec_ChargeFine.l0] at H
      by_cases c5 : x12_1 < (l1.length : Int)
      · rw [if_pos c5] at H
        have c5b0 : decide (x12_1 < (l1.length : Int)) = true := decide_eq_true c5
        clear c5
        by_cases c6 : 0 ≤ x12_1
        · rw [if_pos c6] at H
          have c6b0 : decide (0 ≤ x12_1) = true := decide_eq_true c6
          clear c6
          by_cases c7 : x12_1 < (l1.length : Int)
          · rw [if_pos c7] at H
            have c7b0 : decide (x12_1 < (l1.length : Int)) = true := decide_eq_true c7
            clear c7
            have HC8 := Aside0.mk H
            clear H
            have p196 : 0 ≤ (x12_1 : Int) := of_decide_eq_true (by first | (with_reducible assumption) | assumption)
            have q196 : x12_1 < (l1.length : Int) := of_decide_eq_true (by first | (with_reducible assumption) | assumption)
            obtain ⟨ad196, e196, hx196_0⟩ := Kd.at_bool HR1.out x12_1 p196 q196
            cases e196
            (first | replace hx196_0 := (HB.out.cell (World.block_lt_of_cell? w _ hx196_0)).trans hx196_0 | skip)
            replace p196 := eq_true p196
            replace q196 := eq_true q196
            go_upto_region 5 with (fail)
            obtain ⟨bz9_, hbz9_⟩ : ∃ b_ : Bool, b_ = (rdOf false l1 x12_1) := ⟨_, rfl⟩
            have Nbz9_ := Aside0.mk hbz9_
            rw [← hbz9_]
            clear hbz9_
            go_cut [44] (fun v44 wc => ∃ (kq : Nat) (x44_7 : Bool), v44 = .bool x44_7 ∧ Aside0 (spec_ChargeFine.j1 kq l1 x5_1 x12_1 bz9_ l1 (l1.length : Int) x12_1 x44_7 a0_0 a0_1 a0_2 a0_3 = some r) ∧ Aside0 (kq ≤ k1) ∧ Aside0 (wc.heap[gb195]? = some (.cells #[.int .i64 a0_0, .int .i64 a0_1, .int .i64 a0_2, .int .i64 a0_3] 46 (0, 0))) ∧ Aside0 (Below w.heap.size w wc))
            case first =>
              have H := HC8.out
              clear HC8
              obtain ⟨bq9, hbq9⟩ : ∃ b_ : Bool, b_ = (rdOf false l1 x12_1) := ⟨_, rfl⟩
              replace H : (if bq9 = true then (if x5_1 < a0_1 then (spec_ChargeFine.j1 k1 l1 x5_1 x12_1 bq9 l1 (l1.length : Int) x12_1 true a0_0 a0_1 a0_2 a0_3) else (spec_ChargeFine.j1 k1 l1 x5_1 x12_1 bq9 l1 (l1.length : Int) x12_1 false a0_0 a0_1 a0_2 a0_3)) else (if x5_1 ≥ a0_1 then (if x12_1 = 0 then (spec_ChargeFine.j1 k1 l1 x5_1 x12_1 bq9 l1 (l1.length : Int) x12_1 true a0_0 a0_1 a0_2 a0_3) else (if 0 ≤ (wrap64 (x12_1 - 1)) then (if (wrap64 (x12_1 - 1)) < (l1.length : Int) then (spec_ChargeFine.j1 k1 l1 x5_1 x12_1 bq9 l1 (l1.length : Int) x12_1 (rdOf false l1 (wrap64 (x12_1 - 1))) a0_0 a0_1 a0_2 a0_3) else (none)) else (none))) else (spec_ChargeFine.j1 k1 l1 x5_1 x12_1 bq9 l1 (l1.length : Int) x12_1 false a0_0 a0_1 a0_2 a0_3))) = some r := by rw [← hbq9] at H; exact H
              have Nbq9 := Aside0.mk hbq9
              clear hbq9
              obtain rfl : bq9 = bz9_ := Nbq9.out.trans Nbz9_.out.symm
              by_cases c10 : bq9 = true
              · subst c10
                have H1 : (if x5_1 < a0_1 then (spec_ChargeFine.j1 k1 l1 x5_1 x12_1 true l1 (l1.length : Int) x12_1 true a0_0 a0_1 a0_2 a0_3) else (spec_ChargeFine.j1 k1 l1 x5_1 x12_1 true l1 (l1.length : Int) x12_1 false a0_0 a0_1 a0_2 a0_3)) = some r := by rw [if_pos rfl] at H; exact H
                clear H
                have H := H1
                clear H1
                by_cases c11 : x5_1 < a0_1
                · rw [if_pos c11] at H
                  have c11b0 : decide (x5_1 < a0_1) = true := decide_eq_true c11
                  clear c11
                  have H' := Aside0.mk H
                  clear H
                  have hcz12_0 : wr.cell? ⟨gb195, 0, none⟩ = some (.int .i64 a0_0) := (blk_cell BK195.out 0).trans rfl
                  have hcz12_1 : wr.cell? ⟨gb195, 1, none⟩ = some (.int .i64 a0_1) := (blk_cell BK195.out 1).trans rfl
                  have hcz12_2 : wr.cell? ⟨gb195, 2, none⟩ = some (.int .i64 a0_2) := (blk_cell BK195.out 2).trans rfl
                  have hcz12_3 : wr.cell? ⟨gb195, 3, none⟩ = some (.int .i64 a0_3) := (blk_cell BK195.out 3).trans rfl
                  have hfz12_0 := blk_frozen BK195.out 0
                  have hfz12_1 := blk_frozen BK195.out 1
                  have hfz12_2 := blk_frozen BK195.out 2
                  have hfz12_3 := blk_frozen BK195.out 3
                  go_wp2
                  go_meet
                  case rel => exact ⟨_, (true), (by first | rfl | (simp; done) | (simp [*]; done)), H', ⟨by have := HK1.out; first | omega | exact Nat.le_refl _⟩, ⟨by (with_reducible repeat (first | refine blk_drewN ?_ _ | refine blk_drew ?_ | refine blk_alloc ?_ _)); exact BK195.out⟩, ⟨by repeat (first | (with_reducible first | exact HB.out | apply below_alloc | apply pw_below_drewN | apply below_drew1 | refine below_set ?_ GE195.out) | exact HB.out)⟩⟩
                · rw [if_neg c11] at H
                  have c11b0 : decide (x5_1 < a0_1) = false := decide_eq_false c11
                  clear c11
                  have H' := Aside0.mk H
                  clear H
                  have hcz13_0 : wr.cell? ⟨gb195, 0, none⟩ = some (.int .i64 a0_0) := (blk_cell BK195.out 0).trans rfl
                  have hcz13_1 : wr.cell? ⟨gb195, 1, none⟩ = some (.int .i64 a0_1) := (blk_cell BK195.out 1).trans rfl
                  have hcz13_2 : wr.cell? ⟨gb195, 2, none⟩ = some (.int .i64 a0_2) := (blk_cell BK195.out 2).trans rfl
                  have hcz13_3 : wr.cell? ⟨gb195, 3, none⟩ = some (.int .i64 a0_3) := (blk_cell BK195.out 3).trans rfl
                  have hfz13_0 := blk_frozen BK195.out 0
                  have hfz13_1 := blk_frozen BK195.out 1
                  have hfz13_2 := blk_frozen BK195.out 2
                  have hfz13_3 := blk_frozen BK195.out 3
                  go_wp2
                  go_meet
                  case rel => exact ⟨_, (false), (by first | rfl | (simp; done) | (simp [*]; done)), H', ⟨by have := HK1.out; first | omega | exact Nat.le_refl _⟩, ⟨by (with_reducible repeat (first | refine blk_drewN ?_ _ | refine blk_drew ?_ | refine blk_alloc ?_ _)); exact BK195.out⟩, ⟨by repeat (first | (with_reducible first | exact HB.out | apply below_alloc | apply pw_below_drewN | apply below_drew1 | refine below_set ?_ GE195.out) | exact HB.out)⟩⟩
              · replace c10 := Bool.eq_false_iff.mpr c10
                subst c10
                have H1 : (if x5_1 ≥ a0_1 then (if x12_1 = 0 then (spec_ChargeFine.j1 k1 l1 x5_1 x12_1 false l1 (l1.length : Int) x12_1 true a0_0 a0_1 a0_2 a0_3) else (if 0 ≤ (wrap64 (x12_1 - 1)) then (if (wrap64 (x12_1 - 1)) < (l1.length : Int) then (spec_ChargeFine.j1 k1 l1 x5_1 x12_1 false l1 (l1.length : Int) x12_1 (rdOf false l1 (wrap64 (x12_1 - 1))) a0_0 a0_1 a0_2 a0_3) else (none)) else (none))) else (spec_ChargeFine.j1 k1 l1 x5_1 x12_1 false l1 (l1.length : Int) x12_1 false a0_0 a0_1 a0_2 a0_3)) = some r := by rw [if_neg (show ¬ (false = true) by decide)] at H; exact H
                clear H
                have H := H1
                clear H1
                by_cases c14 : x5_1 ≥ a0_1
                · rw [if_pos c14] at H
                  have c14b0 : decide (a0_1 ≤ x5_1) = true := decide_eq_true c14
                  clear c14
                  by_cases c15 : x12_1 = 0
                  · rw [if_pos c15] at H
                    have c15b0 : (x12_1 == 0) = true := beq_iff_eq.mpr c15
                    have c15b1 : (x12_1 != 0) = false := bne_eq_false_iff_eq.mpr c15
                    clear c15
                    have H' := Aside0.mk H
                    clear H
                    have hcz16_0 : wr.cell? ⟨gb195, 0, none⟩ = some (.int .i64 a0_0) := (blk_cell BK195.out 0).trans rfl
                    have hcz16_1 : wr.cell? ⟨gb195, 1, none⟩ = some (.int .i64 a0_1) := (blk_cell BK195.out 1).trans rfl
                    have hcz16_2 : wr.cell? ⟨gb195, 2, none⟩ = some (.int .i64 a0_2) := (blk_cell BK195.out 2).trans rfl
                    have hcz16_3 : wr.cell? ⟨gb195, 3, none⟩ = some (.int .i64 a0_3) := (blk_cell BK195.out 3).trans rfl
                    have hfz16_0 := blk_frozen BK195.out 0
                    have hfz16_1 := blk_frozen BK195.out 1
                    have hfz16_2 := blk_frozen BK195.out 2
                    have hfz16_3 := blk_frozen BK195.out 3
                    go_wp2
                    go_meet
                    case rel => exact ⟨_, (true), (by first | rfl | (simp; done) | (simp [*]; done)), H', ⟨by have := HK1.out; first | omega | exact Nat.le_refl _⟩, ⟨by (with_reducible repeat (first | refine blk_drewN ?_ _ | refine blk_drew ?_ | refine blk_alloc ?_ _)); exact BK195.out⟩, ⟨by repeat (first | (with_reducible first | exact HB.out | apply below_alloc | apply pw_below_drewN | apply below_drew1 | refine below_set ?_ GE195.out) | exact HB.out)⟩⟩
                  · rw [if_neg c15] at H
                    have c15b0 : (x12_1 == 0) = false := beq_eq_false_iff_ne.mpr c15
                    have c15b1 : (x12_1 != 0) = true := bne_iff_ne.mpr c15
                    obtain ⟨ji17, hji17⟩ : ∃ j_ : Int, (wrap64 (x12_1 - 1)) = j_ := ⟨_, rfl⟩
                    replace H : (if 0 ≤ (ji17) then (if (ji17) < (l1.length : Int) then (spec_ChargeFine.j1 k1 l1 x5_1 x12_1 false l1 (l1.length : Int) x12_1 (rdOf false l1 (ji17)) a0_0 a0_1 a0_2 a0_3) else (none)) else (none)) = some r := by first | (rw [hji17] at H; exact H) | (simp only [hji17] at H ⊢; exact H)
                    have hji17w : (IntKind.i64.wrap (x12_1 - 1)) = ji17 := (i64_w _).trans hji17
                    by_cases c18 : 0 ≤ (ji17)
                    · rw [if_pos c18] at H
                      have c18b0 : decide (0 ≤ (ji17)) = true := decide_eq_true c18
                      clear c18
                      by_cases c19 : (ji17) < (l1.length : Int)
                      · rw [if_pos c19] at H
                        have c19b0 : decide ((ji17) < (l1.length : Int)) = true := decide_eq_true c19
                        clear c19
                        have H' := Aside0.mk H
                        clear H
                        have hcz20_0 : wr.cell? ⟨gb195, 0, none⟩ = some (.int .i64 a0_0) := (blk_cell BK195.out 0).trans rfl
                        have hcz20_1 : wr.cell? ⟨gb195, 1, none⟩ = some (.int .i64 a0_1) := (blk_cell BK195.out 1).trans rfl
                        have hcz20_2 : wr.cell? ⟨gb195, 2, none⟩ = some (.int .i64 a0_2) := (blk_cell BK195.out 2).trans rfl
                        have hcz20_3 : wr.cell? ⟨gb195, 3, none⟩ = some (.int .i64 a0_3) := (blk_cell BK195.out 3).trans rfl
                        have hfz20_0 := blk_frozen BK195.out 0
                        have hfz20_1 := blk_frozen BK195.out 1
                        have hfz20_2 := blk_frozen BK195.out 2
                        have hfz20_3 := blk_frozen BK195.out 3
                        have p197 : 0 ≤ ((ji17) : Int) := of_decide_eq_true (by first | (with_reducible assumption) | assumption)
                        have q197 : (ji17) < (l1.length : Int) := of_decide_eq_true (by first | (with_reducible assumption) | assumption)
                        obtain ⟨ad197, e197, hx197_0⟩ := Kd.at_bool HR1.out (ji17) p197 q197
                        (try rw [← Nbq9.out] at hx197_0)
                        obtain rfl : ad196 = ad197 := (by injection e197)
                        (first | replace hx197_0 := (HB.out.cell (World.block_lt_of_cell? w _ hx197_0)).trans hx197_0 | skip)
                        replace p197 := eq_true p197
                        replace q197 := eq_true q197
                        go_wp2
                        go_meet
                        case rel => exact ⟨_, (rdOf false l1 (ji17)), (by first | rfl | (simp; done) | (simp only [← hji17] <;> (first | rfl | simp)) | (simp [*]; done)), H', ⟨by have := HK1.out; first | omega | exact Nat.le_refl _⟩, ⟨by (with_reducible repeat (first | refine blk_drewN ?_ _ | refine blk_drew ?_ | refine blk_alloc ?_ _)); exact BK195.out⟩, ⟨by repeat (first | (with_reducible first | exact HB.out | apply below_alloc | apply pw_below_drewN | apply below_drew1 | refine below_set ?_ GE195.out) | exact HB.out)⟩⟩
                      · rw [if_neg c19] at H
                        exact absurd H (by simp)
                    · rw [if_neg c18] at H
                      exact absurd H (by simp)
                · rw [if_neg c14] at H
                  have c14b0 : decide (a0_1 ≤ x5_1) = false := decide_eq_false c14
                  clear c14
                  have H' := Aside0.mk H
                  clear H
                  have hcz21_0 : wr.cell? ⟨gb195, 0, none⟩ = some (.int .i64 a0_0) := (blk_cell BK195.out 0).trans rfl
                  have hcz21_1 : wr.cell? ⟨gb195, 1, none⟩ = some (.int .i64 a0_1) := (blk_cell BK195.out 1).trans rfl
                  have hcz21_2 : wr.cell? ⟨gb195, 2, none⟩ = some (.int .i64 a0_2) := (blk_cell BK195.out 2).trans rfl
                  have hcz21_3 : wr.cell? ⟨gb195, 3, none⟩ = some (.int .i64 a0_3) := (blk_cell BK195.out 3).trans rfl
                  have hfz21_0 := blk_frozen BK195.out 0
                  have hfz21_1 := blk_frozen BK195.out 1
                  have hfz21_2 := blk_frozen BK195.out 2
                  have hfz21_3 := blk_frozen BK195.out 3
                  go_wp2
                  go_meet
                  case rel => exact ⟨_, (false), (by first | rfl | (simp; done) | (simp [*]; done)), H', ⟨by have := HK1.out; first | omega | exact Nat.le_refl _⟩, ⟨by (with_reducible repeat (first | refine blk_drewN ?_ _ | refine blk_drew ?_ | refine blk_alloc ?_ _)); exact BK195.out⟩, ⟨by repeat (first | (with_reducible first | exact HB.out | apply below_alloc | apply pw_below_drewN | apply below_drew1 | refine below_set ?_ GE195.out) | exact HB.out)⟩⟩
            case rest =>
              have hz_ := Nbz9_.out
              subst hz_
              clear HC8
              try clear c1
              try clear p1
              try clear q1
              try clear hx1
              try clear p2
              try clear c3
              try clear c5
              try clear c5b0
              try clear c6
              try clear c6b0
              try clear p6
              try clear c7
              try clear c7b0
              try clear q9
              try clear c10
              try clear c11
              try clear c11b0
              try clear c14
              try clear c14b0
              try clear c15
              try clear c15b0
              try clear c15b1
              try clear c18
              try clear c18b0
              try clear c19
              try clear c19b0
              try clear p19
              try clear q19
              try clear hx19
              try clear hcz12_0
              try clear hcz12_1
              try clear hcz12_2
              try clear hcz12_3
              try clear hcz13_0
              try clear hcz13_1
              try clear hcz13_2
              try clear hcz13_3
              try clear hcz16_0
              try clear hcz16_1
              try clear hcz16_2
              try clear hcz16_3
              try clear hcz20_0
              try clear hcz20_1
              try clear hcz20_2
              try clear hcz20_3
              try clear hcz21_0
              try clear hcz21_1
              try clear hcz21_2
              try clear hcz21_3
              try clear hcz4_0
              try clear hcz4_1
              try clear hcz4_2
              try clear hcz4_3
              try clear hfz12_0
              try clear hfz12_1
              try clear hfz12_2
              try clear hfz12_3
              try clear hfz13_0
              try clear hfz13_1
              try clear hfz13_2
              try clear hfz13_3
              try clear hfz16_0
              try clear hfz16_1
              try clear hfz16_2
              try clear hfz16_3
              try clear hfz20_0
              try clear hfz20_1
              try clear hfz20_2
              try clear hfz20_3
              try clear hfz21_0
              try clear hfz21_1
              try clear hfz21_2
              try clear hfz21_3
              try clear hfz4_0
              try clear hfz4_1
              try clear hfz4_2
              try clear hfz4_3
              try clear hx196_0
              try clear hx197_0
              try clear p196
              try clear p197
              try clear p2
              try clear q196
              try clear q197
              obtain ⟨kq, x44_7, rfl, HA, HJ7, BK195, HB⟩ := hcut
              cases kq with
              | zero => exact absurd HA.out (by simp [spec_ChargeFine.j1])
              | succ kj7 =>
                have H := HA.out
                clear HA
                simp only [spec_ChargeFine.j1] at H
                by_cases c22 : x44_7 = true
                · subst c22
                  have H1 : (some false) = some r := by rw [if_pos rfl] at H; exact H
                  clear H
                  have H := H1
                  clear H1
                  obtain rfl := Option.some.inj H
                  go_wp2
                  go_ret
                  exact ⟨by first | rfl | (simp [errW_none, errW_some] <;> rfl) | (simp [*, errW_none, errW_some] <;> rfl), by repeat (first | (with_reducible first | exact HB.out | apply below_alloc | apply pw_below_drewN | apply below_drew1 | refine below_set ?_ GE195.out) | exact HB.out)⟩
                · replace c22 := Bool.eq_false_iff.mpr c22
                  subst c22
                  have H1 : (if x12_1 > 0 then (if 0 ≤ (wrap64 (x12_1 - 1)) then (if (wrap64 (x12_1 - 1)) < (l1.length : Int) then (if (rdOf false l1 (wrap64 (x12_1 - 1)) = true) then (spec_ChargeFine.j2 kj7 l1 x5_1 (rdOf false l1 x12_1) l1 (l1.length : Int) x12_1 false a0_0 a0_1 a0_2 a0_3) else (if x5_1 ≥ a0_1 then (spec_ChargeFine.j2 kj7 l1 x5_1 (rdOf false l1 x12_1) l1 (l1.length : Int) x12_1 ((rdOf false l1 x12_1) != (decide ((wrap64 (x5_1 + a0_2)) > a0_3))) a0_0 a0_1 a0_2 a0_3) else (spec_ChargeFine.j2 kj7 l1 x5_1 (rdOf false l1 x12_1) l1 (l1.length : Int) x12_1 ((rdOf false l1 x12_1) != false) a0_0 a0_1 a0_2 a0_3))) else (none)) else (none)) else (spec_ChargeFine.j2 kj7 l1 x5_1 (rdOf false l1 x12_1) l1 (l1.length : Int) x12_1 false a0_0 a0_1 a0_2 a0_3)) = some r := by rw [if_neg (show ¬ (false = true) by decide)] at H; exact H
                  clear H
                  have H := H1
                  clear H1
                  have HC23 := Aside0.mk H
                  clear H
                  go_upto_region 7 with (fail)
                  go_cut [71] (fun v71 wc => ∃ (kq : Nat) (x71_22 : Bool), v71 = .bool x71_22 ∧ Aside0 (spec_ChargeFine.j2 kq l1 x5_1 (rdOf false l1 x12_1) l1 (l1.length : Int) x12_1 x71_22 a0_0 a0_1 a0_2 a0_3 = some r) ∧ Aside0 (kq ≤ kj7) ∧ Aside0 (wc.heap[gb195]? = some (.cells #[.int .i64 a0_0, .int .i64 a0_1, .int .i64 a0_2, .int .i64 a0_3] 46 (0, 0))) ∧ Aside0 (Below w.heap.size w wc))
                  case first =>
                    have H := HC23.out
                    clear HC23
                    by_cases c24 : x12_1 > 0
                    · rw [if_pos c24] at H
                      have c24b0 : decide (0 < x12_1) = true := decide_eq_true c24
                      clear c24
                      (first | rw [c24b0] | (simp only [i64_w, i32_w]; rw [c24b0]) | skip)
                      obtain ⟨ji25, hji25⟩ : ∃ j_ : Int, (wrap64 (x12_1 - 1)) = j_ := ⟨_, rfl⟩
                      replace H : (if 0 ≤ (ji25) then (if (ji25) < (l1.length : Int) then (if (rdOf false l1 (ji25) = true) then (spec_ChargeFine.j2 kj7 l1 x5_1 (rdOf false l1 x12_1) l1 (l1.length : Int) x12_1 false a0_0 a0_1 a0_2 a0_3) else (if x5_1 ≥ a0_1 then (spec_ChargeFine.j2 kj7 l1 x5_1 (rdOf false l1 x12_1) l1 (l1.length : Int) x12_1 ((rdOf false l1 x12_1) != (decide ((wrap64 (x5_1 + a0_2)) > a0_3))) a0_0 a0_1 a0_2 a0_3) else (spec_ChargeFine.j2 kj7 l1 x5_1 (rdOf false l1 x12_1) l1 (l1.length : Int) x12_1 ((rdOf false l1 x12_1) != false) a0_0 a0_1 a0_2 a0_3))) else (none)) else (none)) = some r := by first | (rw [hji25] at H; exact H) | (simp only [hji25] at H ⊢; exact H)
                      have hji25w : (IntKind.i64.wrap (x12_1 - 1)) = ji25 := (i64_w _).trans hji25
                      by_cases c26 : 0 ≤ (ji25)
                      · rw [if_pos c26] at H
                        have c26b0 : decide (0 ≤ (ji25)) = true := decide_eq_true c26
                        clear c26
                        by_cases c27 : (ji25) < (l1.length : Int)
                        · rw [if_pos c27] at H
                          have c27b0 : decide ((ji25) < (l1.length : Int)) = true := decide_eq_true c27
                          clear c27
                          obtain ⟨bq28, hbq28⟩ : ∃ b_ : Bool, b_ = (rdOf false l1 (ji25)) := ⟨_, rfl⟩
                          replace H : (if (bq28 = true) then (spec_ChargeFine.j2 kj7 l1 x5_1 (rdOf false l1 x12_1) l1 (l1.length : Int) x12_1 false a0_0 a0_1 a0_2 a0_3) else (if x5_1 ≥ a0_1 then (spec_ChargeFine.j2 kj7 l1 x5_1 (rdOf false l1 x12_1) l1 (l1.length : Int) x12_1 ((rdOf false l1 x12_1) != (decide ((wrap64 (x5_1 + a0_2)) > a0_3))) a0_0 a0_1 a0_2 a0_3) else (spec_ChargeFine.j2 kj7 l1 x5_1 (rdOf false l1 x12_1) l1 (l1.length : Int) x12_1 ((rdOf false l1 x12_1) != false) a0_0 a0_1 a0_2 a0_3))) = some r := by rw [← hbq28] at H; exact H
                          have Nbq28 := Aside0.mk hbq28
                          clear hbq28
                          by_cases c29 : (bq28 = true)
                          · subst c29
                            have H1 : (spec_ChargeFine.j2 kj7 l1 x5_1 (rdOf false l1 x12_1) l1 (l1.length : Int) x12_1 false a0_0 a0_1 a0_2 a0_3) = some r := by rw [if_pos rfl] at H; exact H
                            clear H
                            have H := H1
                            clear H1
                            have H' := Aside0.mk H
                            clear H
                            have p198 : 0 ≤ ((ji25) : Int) := of_decide_eq_true (by first | (with_reducible assumption) | assumption)
                            have q198 : (ji25) < (l1.length : Int) := of_decide_eq_true (by first | (with_reducible assumption) | assumption)
                            obtain ⟨ad198, e198, hx198_0⟩ := Kd.at_bool HR1.out (ji25) p198 q198
                            (try rw [← Nbq28.out] at hx198_0)
                            obtain rfl : ad196 = ad198 := (by injection e198)
                            (first | replace hx198_0 := (HB.out.cell (World.block_lt_of_cell? w _ hx198_0)).trans hx198_0 | skip)
                            replace p198 := eq_true p198
                            replace q198 := eq_true q198
                            go_wp2
                            go_meet
                            case rel => exact ⟨_, (false), (by first | rfl | (simp; done) | (simp [*]; done)), H', ⟨by have := HK1.out; have := HJ7.out; first | omega | exact Nat.le_refl _⟩, ⟨by (with_reducible repeat (first | refine blk_drewN ?_ _ | refine blk_drew ?_ | refine blk_alloc ?_ _)); exact BK195.out⟩, ⟨by repeat (first | (with_reducible first | exact HB.out | apply below_alloc | apply pw_below_drewN | apply below_drew1 | refine below_set ?_ GE195.out) | exact HB.out)⟩⟩
                          · replace c29 := Bool.eq_false_iff.mpr c29
                            subst c29
                            have H1 : (if x5_1 ≥ a0_1 then (spec_ChargeFine.j2 kj7 l1 x5_1 (rdOf false l1 x12_1) l1 (l1.length : Int) x12_1 ((rdOf false l1 x12_1) != (decide ((wrap64 (x5_1 + a0_2)) > a0_3))) a0_0 a0_1 a0_2 a0_3) else (spec_ChargeFine.j2 kj7 l1 x5_1 (rdOf false l1 x12_1) l1 (l1.length : Int) x12_1 ((rdOf false l1 x12_1) != false) a0_0 a0_1 a0_2 a0_3)) = some r := by rw [if_neg (show ¬ (false = true) by decide)] at H; exact H
                            clear H
                            have H := H1
                            clear H1
                            by_cases c30 : x5_1 ≥ a0_1
                            · rw [if_pos c30] at H
                              have c30b0 : decide (a0_1 ≤ x5_1) = true := decide_eq_true c30
                              clear c30
                              have H' := Aside0.mk H
                              clear H
                              have p198 : 0 ≤ ((ji25) : Int) := of_decide_eq_true (by first | (with_reducible assumption) | assumption)
                              have q198 : (ji25) < (l1.length : Int) := of_decide_eq_true (by first | (with_reducible assumption) | assumption)
                              obtain ⟨ad198, e198, hx198_0⟩ := Kd.at_bool HR1.out (ji25) p198 q198
                              (try rw [← Nbq28.out] at hx198_0)
                              obtain rfl : ad196 = ad198 := (by injection e198)
                              (first | replace hx198_0 := (HB.out.cell (World.block_lt_of_cell? w _ hx198_0)).trans hx198_0 | skip)
                              replace p198 := eq_true p198
                              replace q198 := eq_true q198
                              have hcz31_0 : wc.cell? ⟨gb195, 0, none⟩ = some (.int .i64 a0_0) := (blk_cell BK195.out 0).trans rfl
                              have hcz31_1 : wc.cell? ⟨gb195, 1, none⟩ = some (.int .i64 a0_1) := (blk_cell BK195.out 1).trans rfl
                              have hcz31_2 : wc.cell? ⟨gb195, 2, none⟩ = some (.int .i64 a0_2) := (blk_cell BK195.out 2).trans rfl
                              have hcz31_3 : wc.cell? ⟨gb195, 3, none⟩ = some (.int .i64 a0_3) := (blk_cell BK195.out 3).trans rfl
                              have hfz31_0 := blk_frozen BK195.out 0
                              have hfz31_1 := blk_frozen BK195.out 1
                              have hfz31_2 := blk_frozen BK195.out 2
                              have hfz31_3 := blk_frozen BK195.out 3
                              go_wp2
                              go_meet
                              case rel => exact ⟨_, (((rdOf false l1 x12_1) != (decide ((wrap64 (x5_1 + a0_2)) > a0_3)))), (by first | rfl | (simp; done) | (simp [*]; done)), H', ⟨by have := HK1.out; have := HJ7.out; first | omega | exact Nat.le_refl _⟩, ⟨by (with_reducible repeat (first | refine blk_drewN ?_ _ | refine blk_drew ?_ | refine blk_alloc ?_ _)); exact BK195.out⟩, ⟨by repeat (first | (with_reducible first | exact HB.out | apply below_alloc | apply pw_below_drewN | apply below_drew1 | refine below_set ?_ GE195.out) | exact HB.out)⟩⟩
                            · rw [if_neg c30] at H
                              have c30b0 : decide (a0_1 ≤ x5_1) = false := decide_eq_false c30
                              clear c30
                              have H' := Aside0.mk H
                              clear H
                              have p198 : 0 ≤ ((ji25) : Int) := of_decide_eq_true (by first | (with_reducible assumption) | assumption)
                              have q198 : (ji25) < (l1.length : Int) := of_decide_eq_true (by first | (with_reducible assumption) | assumption)
                              obtain ⟨ad198, e198, hx198_0⟩ := Kd.at_bool HR1.out (ji25) p198 q198
                              (try rw [← Nbq28.out] at hx198_0)
                              obtain rfl : ad196 = ad198 := (by injection e198)
                              (first | replace hx198_0 := (HB.out.cell (World.block_lt_of_cell? w _ hx198_0)).trans hx198_0 | skip)
                              replace p198 := eq_true p198
                              replace q198 := eq_true q198
                              have hcz32_0 : wc.cell? ⟨gb195, 0, none⟩ = some (.int .i64 a0_0) := (blk_cell BK195.out 0).trans rfl
                              have hcz32_1 : wc.cell? ⟨gb195, 1, none⟩ = some (.int .i64 a0_1) := (blk_cell BK195.out 1).trans rfl
                              have hcz32_2 : wc.cell? ⟨gb195, 2, none⟩ = some (.int .i64 a0_2) := (blk_cell BK195.out 2).trans rfl
                              have hcz32_3 : wc.cell? ⟨gb195, 3, none⟩ = some (.int .i64 a0_3) := (blk_cell BK195.out 3).trans rfl
                              have hfz32_0 := blk_frozen BK195.out 0
                              have hfz32_1 := blk_frozen BK195.out 1
                              have hfz32_2 := blk_frozen BK195.out 2
                              have hfz32_3 := blk_frozen BK195.out 3
                              go_wp2
                              go_meet
                              case rel => exact ⟨_, (((rdOf false l1 x12_1) != false)), (by first | rfl | (simp; done) | (simp [*]; done)), H', ⟨by have := HK1.out; have := HJ7.out; first | omega | exact Nat.le_refl _⟩, ⟨by (with_reducible repeat (first | refine blk_drewN ?_ _ | refine blk_drew ?_ | refine blk_alloc ?_ _)); exact BK195.out⟩, ⟨by repeat (first | (with_reducible first | exact HB.out | apply below_alloc | apply pw_below_drewN | apply below_drew1 | refine below_set ?_ GE195.out) | exact HB.out)⟩⟩
                        · rw [if_neg c27] at H
                          exact absurd H (by simp)
                      · rw [if_neg c26] at H
                        exact absurd H (by simp)
                    · rw [if_neg c24] at H
                      have c24b0 : decide (0 < x12_1) = false := decide_eq_false c24
                      clear c24
                      (first | rw [c24b0] | (simp only [i64_w, i32_w]; rw [c24b0]) | skip)
                      have H' := Aside0.mk H
                      clear H
                      go_wp2
                      go_meet
                      case rel => exact ⟨_, (false), (by first | rfl | (simp; done) | (simp [*]; done)), H', ⟨by have := HK1.out; have := HJ7.out; first | omega | exact Nat.le_refl _⟩, ⟨by (with_reducible repeat (first | refine blk_drewN ?_ _ | refine blk_drew ?_ | refine blk_alloc ?_ _)); exact BK195.out⟩, ⟨by repeat (first | (with_reducible first | exact HB.out | apply below_alloc | apply pw_below_drewN | apply below_drew1 | refine below_set ?_ GE195.out) | exact HB.out)⟩⟩
                  case rest =>
                    clear HC23
                    try clear c1
                    try clear p1
                    try clear q1
                    try clear hx1
                    try clear c2
                    try clear p2
                    try clear q2
                    try clear c3
                    try clear c5
                    try clear c5b0
                    try clear c6
                    try clear c6b0
                    try clear p6
                    try clear c7
                    try clear c7b0
                    try clear q9
                    try clear c10
                    try clear c11
                    try clear c11b0
                    try clear c14
                    try clear c14b0
                    try clear c15
                    try clear c15b0
                    try clear c15b1
                    try clear c18
                    try clear c18b0
                    try clear c19
                    try clear c19b0
                    try clear p19
                    try clear q19
                    try clear hx19
                    try clear c22
                    try clear c24
                    try clear c24b0
                    try clear c26
                    try clear c26b0
                    try clear c27
                    try clear c27b0
                    try clear q28
                    try clear c29
                    try clear c30
                    try clear c30b0
                    try clear hcz12_0
                    try clear hcz12_1
                    try clear hcz12_2
                    try clear hcz12_3
                    try clear hcz13_0
                    try clear hcz13_1
                    try clear hcz13_2
                    try clear hcz13_3
                    try clear hcz16_0
                    try clear hcz16_1
                    try clear hcz16_2
                    try clear hcz16_3
                    try clear hcz20_0
                    try clear hcz20_1
                    try clear hcz20_2
                    try clear hcz20_3
                    try clear hcz21_0
                    try clear hcz21_1
                    try clear hcz21_2
                    try clear hcz21_3
                    try clear hcz31_0
                    try clear hcz31_1
                    try clear hcz31_2
                    try clear hcz31_3
                    try clear hcz32_0
                    try clear hcz32_1
                    try clear hcz32_2
                    try clear hcz32_3
                    try clear hcz4_0
                    try clear hcz4_1
                    try clear hcz4_2
                    try clear hcz4_3
                    try clear hfz12_0
                    try clear hfz12_1
                    try clear hfz12_2
                    try clear hfz12_3
                    try clear hfz13_0
                    try clear hfz13_1
                    try clear hfz13_2
                    try clear hfz13_3
                    try clear hfz16_0
                    try clear hfz16_1
                    try clear hfz16_2
                    try clear hfz16_3
                    try clear hfz20_0
                    try clear hfz20_1
                    try clear hfz20_2
                    try clear hfz20_3
                    try clear hfz21_0
                    try clear hfz21_1
                    try clear hfz21_2
                    try clear hfz21_3
                    try clear hfz31_0
                    try clear hfz31_1
                    try clear hfz31_2
                    try clear hfz31_3
                    try clear hfz32_0
                    try clear hfz32_1
                    try clear hfz32_2
                    try clear hfz32_3
                    try clear hfz4_0
                    try clear hfz4_1
                    try clear hfz4_2
                    try clear hfz4_3
                    try clear hx196_0
                    try clear hx197_0
                    try clear hx198_0
                    try clear p1
                    try clear p19
                    try clear p196
                    try clear p197
                    try clear p198
                    try clear p2
                    try clear p6
                    try clear q1
                    try clear q19
                    try clear q196
                    try clear q197
                    try clear q198
                    try clear q9
                    obtain ⟨kq, x71_22, rfl, HA, HJ22, BK195, HB⟩ := hcut
                    cases kq with
                    | zero => exact absurd HA.out (by simp [spec_ChargeFine.j2])
                    | succ kj22 =>
                      have H := HA.out
                      clear HA
                      simp only [spec_ChargeFine.j2] at H
                      by_cases c33 : x71_22 = true
                      · subst c33
                        have H1 : (some false) = some r := by rw [if_pos rfl] at H; exact H
                        clear H
                        have H := H1
                        clear H1
                        obtain rfl := Option.some.inj H
                        go_wp2
                        go_ret
                        exact ⟨by first | rfl | (simp [errW_none, errW_some] <;> rfl) | (simp [*, errW_none, errW_some] <;> rfl), by repeat (first | (with_reducible first | exact HB.out | apply below_alloc | apply pw_below_drewN | apply below_drew1 | refine below_set ?_ GE195.out) | exact HB.out)⟩
                      · replace c33 := Bool.eq_false_iff.mpr c33
                        subst c33
                        have H1 : (if (rdOf false l1 x12_1) = true then (if (wrap64 (x5_1 - a0_1)) < 0 then (some false) else (if (wrap64 (x5_1 - a0_1)) > a0_3 then (some false) else (spec_ChargeFine.l0 kj22 l1 (wrap64 (x5_1 - a0_1)) l1 (l1.length : Int) (wrap64 (x12_1 + 1)) a0_0 a0_1 a0_2 a0_3))) else ((spec_l13Cut.f (wrap64 (x5_1 + a0_2)) 0 a0_3).bind fun t199 => (if t199 < 0 then (some false) else (if t199 > a0_3 then (some false) else (spec_ChargeFine.l0 kj22 l1 t199 l1 (l1.length : Int) (wrap64 (x12_1 + 1)) a0_0 a0_1 a0_2 a0_3))))) = some r := by rw [if_neg (show ¬ (false = true) by decide)] at H; exact H
                        clear H
                        have H := H1
                        clear H1
                        obtain ⟨bq34, hbq34⟩ : ∃ b_ : Bool, b_ = (rdOf false l1 x12_1) := ⟨_, rfl⟩
                        replace H : (if (bq34) = true then (if (wrap64 (x5_1 - a0_1)) < 0 then (some false) else (if (wrap64 (x5_1 - a0_1)) > a0_3 then (some false) else (spec_ChargeFine.l0 kj22 l1 (wrap64 (x5_1 - a0_1)) l1 (l1.length : Int) (wrap64 (x12_1 + 1)) a0_0 a0_1 a0_2 a0_3))) else ((spec_l13Cut.f (wrap64 (x5_1 + a0_2)) 0 a0_3).bind fun t199 => (if t199 < 0 then (some false) else (if t199 > a0_3 then (some false) else (spec_ChargeFine.l0 kj22 l1 t199 l1 (l1.length : Int) (wrap64 (x12_1 + 1)) a0_0 a0_1 a0_2 a0_3))))) = some r := by rw [← hbq34] at H; exact H
                        have Nbq34 := Aside0.mk hbq34
                        clear hbq34
                        (try rw [← Nbq34.out])
                        by_cases c35 : (bq34) = true
                        · rw [if_pos c35] at H
                          have c35b0 : (bq34) = true := c35
                          have c35z_ := c35b0
                          subst c35z_
                          clear c35
                          by_cases c36 : (wrap64 (x5_1 - a0_1)) < 0
                          · rw [if_pos c36] at H
                            have c36b0 : decide ((wrap64 (x5_1 - a0_1)) < 0) = true := decide_eq_true c36
                            clear c36
                            obtain rfl := Option.some.inj H
                            have hcz37_0 : wc.cell? ⟨gb195, 0, none⟩ = some (.int .i64 a0_0) := (blk_cell BK195.out 0).trans rfl
                            have hcz37_1 : wc.cell? ⟨gb195, 1, none⟩ = some (.int .i64 a0_1) := (blk_cell BK195.out 1).trans rfl
                            have hcz37_2 : wc.cell? ⟨gb195, 2, none⟩ = some (.int .i64 a0_2) := (blk_cell BK195.out 2).trans rfl
                            have hcz37_3 : wc.cell? ⟨gb195, 3, none⟩ = some (.int .i64 a0_3) := (blk_cell BK195.out 3).trans rfl
                            have hfz37_0 := blk_frozen BK195.out 0
                            have hfz37_1 := blk_frozen BK195.out 1
                            have hfz37_2 := blk_frozen BK195.out 2
                            have hfz37_3 := blk_frozen BK195.out 3
                            go_wp2
                            go_ret
                            exact ⟨by first | rfl | (simp [errW_none, errW_some] <;> rfl) | (simp [*, errW_none, errW_some] <;> rfl), by repeat (first | (with_reducible first | exact HB.out | apply below_alloc | apply pw_below_drewN | apply below_drew1 | refine below_set ?_ GE195.out) | exact HB.out)⟩
                          · rw [if_neg c36] at H
                            have c36b0 : decide ((wrap64 (x5_1 - a0_1)) < 0) = false := decide_eq_false c36
                            clear c36
                            by_cases c38 : (wrap64 (x5_1 - a0_1)) > a0_3
                            · rw [if_pos c38] at H
                              have c38b0 : decide (a0_3 < (wrap64 (x5_1 - a0_1))) = true := decide_eq_true c38
                              clear c38
                              obtain rfl := Option.some.inj H
                              have hcz39_0 : wc.cell? ⟨gb195, 0, none⟩ = some (.int .i64 a0_0) := (blk_cell BK195.out 0).trans rfl
                              have hcz39_1 : wc.cell? ⟨gb195, 1, none⟩ = some (.int .i64 a0_1) := (blk_cell BK195.out 1).trans rfl
                              have hcz39_2 : wc.cell? ⟨gb195, 2, none⟩ = some (.int .i64 a0_2) := (blk_cell BK195.out 2).trans rfl
                              have hcz39_3 : wc.cell? ⟨gb195, 3, none⟩ = some (.int .i64 a0_3) := (blk_cell BK195.out 3).trans rfl
                              have hfz39_0 := blk_frozen BK195.out 0
                              have hfz39_1 := blk_frozen BK195.out 1
                              have hfz39_2 := blk_frozen BK195.out 2
                              have hfz39_3 := blk_frozen BK195.out 3
                              go_wp2
                              go_ret
                              exact ⟨by first | rfl | (simp [errW_none, errW_some] <;> rfl) | (simp [*, errW_none, errW_some] <;> rfl), by repeat (first | (with_reducible first | exact HB.out | apply below_alloc | apply pw_below_drewN | apply below_drew1 | refine below_set ?_ GE195.out) | exact HB.out)⟩
                            · rw [if_neg c38] at H
                              have c38b0 : decide (a0_3 < (wrap64 (x5_1 - a0_1))) = false := decide_eq_false c38
                              clear c38
                              have H' := Aside0.mk H
                              clear H
                              have hcz40_0 : wc.cell? ⟨gb195, 0, none⟩ = some (.int .i64 a0_0) := (blk_cell BK195.out 0).trans rfl
                              have hcz40_1 : wc.cell? ⟨gb195, 1, none⟩ = some (.int .i64 a0_1) := (blk_cell BK195.out 1).trans rfl
                              have hcz40_2 : wc.cell? ⟨gb195, 2, none⟩ = some (.int .i64 a0_2) := (blk_cell BK195.out 2).trans rfl
                              have hcz40_3 : wc.cell? ⟨gb195, 3, none⟩ = some (.int .i64 a0_3) := (blk_cell BK195.out 3).trans rfl
                              have hfz40_0 := blk_frozen BK195.out 0
                              have hfz40_1 := blk_frozen BK195.out 1
                              have hfz40_2 := blk_frozen BK195.out 2
                              have hfz40_3 := blk_frozen BK195.out 3
                              go_wp2
                              go_roundg kj22
                              case measure => have := HK1.out; have := HJ7.out; have := HJ22.out; omega
                              case rel => exact ⟨(wrap64 (x5_1 - a0_1)), (wrap64 (x12_1 + 1)), (by first | rfl | (simp; done) | (simp [*]; done)), (by first | rfl | (simp; done) | (simp [*]; done)), H', ⟨by have := HK1.out; have := HJ7.out; have := HJ22.out; omega⟩, ⟨by (with_reducible repeat (first | refine blk_drewN ?_ _ | refine blk_drew ?_ | refine blk_alloc ?_ _)); exact BK195.out⟩, ⟨by repeat (first | (with_reducible first | exact HB.out | apply below_alloc | apply pw_below_drewN | apply below_drew1 | refine below_set ?_ GE195.out) | exact HB.out)⟩⟩
                        · rw [if_neg c35] at H
                          have c35b0 : (bq34) = false := by simpa using c35
                          have c35z_ := c35b0
                          subst c35z_
                          clear c35
                          replace H := Option.bind_eq_some_iff.mp H
                          obtain ⟨t199, A410, H⟩ := H
                          replace H : (if t199 < 0 then (some false) else (if t199 > a0_3 then (some false) else (spec_ChargeFine.l0 kj22 l1 t199 l1 (l1.length : Int) (wrap64 (x12_1 + 1)) a0_0 a0_1 a0_2 a0_3))) = some r := H
                          have A41 := Aside0.mk A410
                          clear A410
                          by_cases c42 : t199 < 0
                          · rw [if_pos c42] at H
                            have c42b0 : decide (t199 < 0) = true := decide_eq_true c42
                            clear c42
                            obtain rfl := Option.some.inj H
                            have hcz43_0 : wc.cell? ⟨gb195, 0, none⟩ = some (.int .i64 a0_0) := (blk_cell BK195.out 0).trans rfl
                            have hcz43_1 : wc.cell? ⟨gb195, 1, none⟩ = some (.int .i64 a0_1) := (blk_cell BK195.out 1).trans rfl
                            have hcz43_2 : wc.cell? ⟨gb195, 2, none⟩ = some (.int .i64 a0_2) := (blk_cell BK195.out 2).trans rfl
                            have hcz43_3 : wc.cell? ⟨gb195, 3, none⟩ = some (.int .i64 a0_3) := (blk_cell BK195.out 3).trans rfl
                            have hfz43_0 := blk_frozen BK195.out 0
                            have hfz43_1 := blk_frozen BK195.out 1
                            have hfz43_2 := blk_frozen BK195.out 2
                            have hfz43_3 := blk_frozen BK195.out 3
                            go_wp2_with (first | ((with_reducible refine gate_callee (f := 60) rfl ?_); refine goesL_ (some 83) rfl rfl Try.func60 (by kernel_rfl) rfl #[.int .i64 (wrap64 (x5_1 + a0_2)), .int .i64 0, .int .i64 a0_3] rfl (by (try simp only [List.map_toArray, List.map_cons, List.map_nil]); first | done | rfl | (simp only [List.length_drop, List.length_take]; rfl)) ?_; (with_reducible refine (spec_l13Cut.calls (wrap64 (x5_1 + a0_2)) 0 a0_3 t199 _ A41.out).mono ?_); rintro e w' ⟨rfl, ⟨nd, rfl⟩⟩; refine ⟨_, rfl, ?_⟩))
                            go_ret
                            exact ⟨by first | rfl | (simp [errW_none, errW_some] <;> rfl) | (simp [*, errW_none, errW_some] <;> rfl), by repeat (first | (with_reducible first | exact HB.out | apply below_alloc | apply pw_below_drewN | apply below_drew1 | refine below_set ?_ GE195.out) | exact HB.out)⟩
                          · rw [if_neg c42] at H
                            have c42b0 : decide (t199 < 0) = false := decide_eq_false c42
                            clear c42
                            by_cases c44 : t199 > a0_3
                            · rw [if_pos c44] at H
                              have c44b0 : decide (a0_3 < t199) = true := decide_eq_true c44
                              clear c44
                              obtain rfl := Option.some.inj H
                              have hcz45_0 : wc.cell? ⟨gb195, 0, none⟩ = some (.int .i64 a0_0) := (blk_cell BK195.out 0).trans rfl
                              have hcz45_1 : wc.cell? ⟨gb195, 1, none⟩ = some (.int .i64 a0_1) := (blk_cell BK195.out 1).trans rfl
                              have hcz45_2 : wc.cell? ⟨gb195, 2, none⟩ = some (.int .i64 a0_2) := (blk_cell BK195.out 2).trans rfl
                              have hcz45_3 : wc.cell? ⟨gb195, 3, none⟩ = some (.int .i64 a0_3) := (blk_cell BK195.out 3).trans rfl
                              have hfz45_0 := blk_frozen BK195.out 0
                              have hfz45_1 := blk_frozen BK195.out 1
                              have hfz45_2 := blk_frozen BK195.out 2
                              have hfz45_3 := blk_frozen BK195.out 3
                              go_wp2_with (first | ((with_reducible refine gate_callee (f := 60) rfl ?_); refine goesL_ (some 83) rfl rfl Try.func60 (by kernel_rfl) rfl #[.int .i64 (wrap64 (x5_1 + a0_2)), .int .i64 0, .int .i64 a0_3] rfl (by (try simp only [List.map_toArray, List.map_cons, List.map_nil]); first | done | rfl | (simp only [List.length_drop, List.length_take]; rfl)) ?_; (with_reducible refine (spec_l13Cut.calls (wrap64 (x5_1 + a0_2)) 0 a0_3 t199 _ A41.out).mono ?_); rintro e w' ⟨rfl, ⟨nd, rfl⟩⟩; refine ⟨_, rfl, ?_⟩))
                              go_ret
                              exact ⟨by first | rfl | (simp [errW_none, errW_some] <;> rfl) | (simp [*, errW_none, errW_some] <;> rfl), by repeat (first | (with_reducible first | exact HB.out | apply below_alloc | apply pw_below_drewN | apply below_drew1 | refine below_set ?_ GE195.out) | exact HB.out)⟩
                            · rw [if_neg c44] at H
                              have c44b0 : decide (a0_3 < t199) = false := decide_eq_false c44
                              clear c44
                              have H' := Aside0.mk H
                              clear H
                              have hcz46_0 : wc.cell? ⟨gb195, 0, none⟩ = some (.int .i64 a0_0) := (blk_cell BK195.out 0).trans rfl
                              have hcz46_1 : wc.cell? ⟨gb195, 1, none⟩ = some (.int .i64 a0_1) := (blk_cell BK195.out 1).trans rfl
                              have hcz46_2 : wc.cell? ⟨gb195, 2, none⟩ = some (.int .i64 a0_2) := (blk_cell BK195.out 2).trans rfl
                              have hcz46_3 : wc.cell? ⟨gb195, 3, none⟩ = some (.int .i64 a0_3) := (blk_cell BK195.out 3).trans rfl
                              have hfz46_0 := blk_frozen BK195.out 0
                              have hfz46_1 := blk_frozen BK195.out 1
                              have hfz46_2 := blk_frozen BK195.out 2
                              have hfz46_3 := blk_frozen BK195.out 3
                              go_wp2_with (first | ((with_reducible refine gate_callee (f := 60) rfl ?_); refine goesL_ (some 83) rfl rfl Try.func60 (by kernel_rfl) rfl #[.int .i64 (wrap64 (x5_1 + a0_2)), .int .i64 0, .int .i64 a0_3] rfl (by (try simp only [List.map_toArray, List.map_cons, List.map_nil]); first | done | rfl | (simp only [List.length_drop, List.length_take]; rfl)) ?_; (with_reducible refine (spec_l13Cut.calls (wrap64 (x5_1 + a0_2)) 0 a0_3 t199 _ A41.out).mono ?_); rintro e w' ⟨rfl, ⟨nd, rfl⟩⟩; refine ⟨_, rfl, ?_⟩))
                              go_roundg kj22
                              case measure => have := HK1.out; have := HJ7.out; have := HJ22.out; omega
                              case rel => exact ⟨(t199), (wrap64 (x12_1 + 1)), (by first | rfl | (simp; done) | (simp [*]; done)), (by first | rfl | (simp; done) | (simp [*]; done)), H', ⟨by have := HK1.out; have := HJ7.out; have := HJ22.out; omega⟩, ⟨by (with_reducible repeat (first | refine blk_drewN ?_ _ | refine blk_drew ?_ | refine blk_alloc ?_ _)); exact BK195.out⟩, ⟨by repeat (first | (with_reducible first | exact HB.out | apply below_alloc | apply pw_below_drewN | apply below_drew1 | refine below_set ?_ GE195.out) | exact HB.out)⟩⟩
          · rw [if_neg c7] at H
            exact absurd H (by simp)
        · rw [if_neg c6] at H
          exact absurd H (by simp)
      · rw [if_neg c5] at H
        have c5b0 : decide (x12_1 < (l1.length : Int)) = false := decide_eq_false c5
        clear c5
        obtain rfl := Option.some.inj H
        go_wp2
        go_ret
        exact ⟨by first | rfl | (simp [errW_none, errW_some] <;> rfl) | (simp [*, errW_none, errW_some] <;> rfl), by repeat (first | (with_reducible first | exact HB.out | apply below_alloc | apply pw_below_drewN | apply below_drew1 | refine below_set ?_ GE195.out) | exact HB.out)⟩

end Go.Proofs.Ytlilbhngffibeaa.PFnCharge
