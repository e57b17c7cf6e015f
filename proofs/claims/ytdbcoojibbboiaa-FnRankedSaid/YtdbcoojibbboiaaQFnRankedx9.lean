-- Written by this session's own program for the law FnRanked; it began as the print's text.
import Derived.Test.YtdbcoojibbboiaaQFnRankedx0
import Derived.Test.YtdbcoojibbboiaaQFnRankedx3
namespace Go.Proofs.Ytdbcoojibbboiaa.PFnRanked
open Go.RowKit Go.Proofs.YtdbcoojibbboiaaW.PrintWords Go.Proofs.YtdbcoojibbboiaaW.PrintLast Go.Proofs.YtdbcoojibbboiaaW.PrintMore
attribute [local go_sem] max2_int min2_int max_two min_two max_three min_three max_four min_four   -- for this text's walks alone
set_option linter.unusedVariables false
set_option linter.unusedSimpArgs false

/-! ### impl_AnswerTimes: function 10 -/
mutual
def impl_AnswerTimes.l0 : Nat → List (S62) → List Int → List (S62) → Int → Int → Option (List Int × Bool)
 | 0, _, _, _, _, _ => none
 | k + 1, x0, x4, x15, x16, x17 => if x17 < x16 then (if 0 ≤ x17 then (if x17 < (x15.length : Int) then (impl_AnswerTimes.l1 k x0 x4 x17 (-1) ((rd_T62 x15 x17).f1) x15 x16 x17 ((rd_T62 x15 x17).f0) ((rd_T62 x15 x17).f1) ((rd_T62 x15 x17).f2)) else (none)) else (none)) else (some (x4, true))
def impl_AnswerTimes.l1 : Nat → List (S62) → List Int → Int → Int → Int → List (S62) → Int → Int → Int → Int → Int → Option (List Int × Bool)
 | 0, _, _, _, _, _, _, _, _, _, _, _ => none
 | k + 1, x0, x4, x5, x7, x8, x15, x16, x17, x349000, x349001, x349002 => if x8 ≤ x349002 then (impl_AnswerTimes.j2 k x0 x4 x5 x7 x8 x15 x16 x17 (decide (x7 < 0)) x349000 x349001 x349002) else (impl_AnswerTimes.j2 k x0 x4 x5 x7 x8 x15 x16 x17 false x349000 x349001 x349002)
def impl_AnswerTimes.j2 : Nat → List (S62) → List Int → Int → Int → Int → List (S62) → Int → Int → Bool → Int → Int → Int → Option (List Int × Bool)
 | 0, _, _, _, _, _, _, _, _, _, _, _, _ => none
 | k + 1, x0, x4, x5, x7, x8, x15, x16, x17, x31, x349000, x349001, x349002 => if x31 = true then (if 0 ≤ x5 then (if x5 ≤ (x0.length : Int) then ((some (x0.take (x5 : Int).toNat : List (S62))).bind fun y352 => (impl_AnswerTimes.l2 k x0 x4 x5 x7 x8 x349001 x15 x16 x17 y352 (y352.length : Int) 0 x349000 x349001 x349002)) else (none)) else (none)) else (if x4.length < 17592186044416 then (impl_AnswerTimes.l0 k x0 (x4 ++ [x7]) x15 x16 (wrap64 (x17 + 1))) else (none))
def impl_AnswerTimes.l2 : Nat → List (S62) → List Int → Int → Int → Int → Int → List (S62) → Int → Int → List (S62) → Int → Int → Int → Int → Int → Option (List Int × Bool)
 | 0, _, _, _, _, _, _, _, _, _, _, _, _, _, _, _ => none
 | k + 1, x0, x4, x5, x7, x8, x9, x15, x16, x17, x38, x39, x40, x349000, x349001, x349002 => if x40 < x39 then (if 0 ≤ x40 then (if x40 < (x38.length : Int) then (if ((rd_T62 x38 x40).f0) = 0 then (none) else (impl_AnswerTimes.l2 k x0 x4 x5 x7 x8 (wrap64 (x9 + (wrap64 (((rd_T62 x38 x40).f1) * (wrap64 (Int.tdiv (wrap64 ((wrap64 (x8 + ((rd_T62 x38 x40).f0))) - 1)) ((rd_T62 x38 x40).f0))))))) x15 x16 x17 x38 x39 (wrap64 (x40 + 1)) x349000 x349001 x349002)) else (none)) else (none)) else (if x9 = x8 then (impl_AnswerTimes.l1 k x0 x4 x5 x8 (wrap64 (x8 + 1)) x15 x16 x17 x349000 x349001 x349002) else (impl_AnswerTimes.l1 k x0 x4 x5 x7 (wrap64 (x8 + 1)) x15 x16 x17 x349000 x349001 x349002))
end
def impl_AnswerTimes.f (k : Nat) (l0 : List (S62)) : Option (List Int × Bool) := (impl_GoodChores.f k l0).bind fun t346 => (if t346 = true then (impl_AnswerTimes.l0 k l0 ([] : List Int) l0 (l0.length : Int) 0) else (some (([] : List Int), false)))
theorem impl_AnswerTimes.mono_l : ∀ k, (∀ y0 y1 y2 y3 y4, LeO (impl_AnswerTimes.l0 k y0 y1 y2 y3 y4) (impl_AnswerTimes.l0 (k + 1) y0 y1 y2 y3 y4)) ∧ (∀ y0 y1 y2 y3 y4 y5 y6 y7 y8 y9 y10, LeO (impl_AnswerTimes.l1 k y0 y1 y2 y3 y4 y5 y6 y7 y8 y9 y10) (impl_AnswerTimes.l1 (k + 1) y0 y1 y2 y3 y4 y5 y6 y7 y8 y9 y10)) ∧ (∀ y0 y1 y2 y3 y4 y5 y6 y7 y8 y9 y10 y11, LeO (impl_AnswerTimes.j2 k y0 y1 y2 y3 y4 y5 y6 y7 y8 y9 y10 y11) (impl_AnswerTimes.j2 (k + 1) y0 y1 y2 y3 y4 y5 y6 y7 y8 y9 y10 y11)) ∧ (∀ y0 y1 y2 y3 y4 y5 y6 y7 y8 y9 y10 y11 y12 y13 y14, LeO (impl_AnswerTimes.l2 k y0 y1 y2 y3 y4 y5 y6 y7 y8 y9 y10 y11 y12 y13 y14) (impl_AnswerTimes.l2 (k + 1) y0 y1 y2 y3 y4 y5 y6 y7 y8 y9 y10 y11 y12 y13 y14))
 | 0 => ⟨fun _ _ _ _ _ r h => by simp [impl_AnswerTimes.l0] at h, fun _ _ _ _ _ _ _ _ _ _ _ r h => by simp [impl_AnswerTimes.l1] at h, fun _ _ _ _ _ _ _ _ _ _ _ _ r h => by simp [impl_AnswerTimes.j2] at h, fun _ _ _ _ _ _ _ _ _ _ _ _ _ _ _ r h => by simp [impl_AnswerTimes.l2] at h⟩
 | k + 1 => by
  obtain ⟨ih0, ih1, ih2, ih3⟩ := impl_AnswerTimes.mono_l k
  refine ⟨?_, ?_, ?_, ?_⟩
  · intro y0 y1 y2 y3 y4
    unfold impl_AnswerTimes.l0
    repeat' first
    | (with_reducible exact ih0 _ _ _ _ _)
    | (with_reducible exact ih1 _ _ _ _ _ _ _ _ _ _ _)
    | (with_reducible exact ih2 _ _ _ _ _ _ _ _ _ _ _ _)
    | (with_reducible exact ih3 _ _ _ _ _ _ _ _ _ _ _ _ _ _ _)
    | (with_reducible exact impl_GoodChores.mono _ _)
    | (with_reducible exact LeO.refl _)
    | (with_reducible exact LeO.none _)
    | (with_reducible refine LeO.ite ?_ ?_)
    | (with_reducible refine LeO.bind ?_ (fun _ => ?_))
    | exact ih0 _ _ _ _ _
    | exact ih1 _ _ _ _ _ _ _ _ _ _ _
    | exact ih2 _ _ _ _ _ _ _ _ _ _ _ _
    | exact ih3 _ _ _ _ _ _ _ _ _ _ _ _ _ _ _
    | exact impl_GoodChores.mono _ _
    | exact LeO.none _
    | refine LeO.ite ?_ ?_
    | refine LeO.bind ?_ (fun _ => ?_)
  · intro y0 y1 y2 y3 y4 y5 y6 y7 y8 y9 y10
    unfold impl_AnswerTimes.l1
    repeat' first
    | (with_reducible exact ih0 _ _ _ _ _)
    | (with_reducible exact ih1 _ _ _ _ _ _ _ _ _ _ _)
    | (with_reducible exact ih2 _ _ _ _ _ _ _ _ _ _ _ _)
    | (with_reducible exact ih3 _ _ _ _ _ _ _ _ _ _ _ _ _ _ _)
    | (with_reducible exact impl_GoodChores.mono _ _)
    | (with_reducible exact LeO.refl _)
    | (with_reducible exact LeO.none _)
    | (with_reducible refine LeO.ite ?_ ?_)
    | (with_reducible refine LeO.bind ?_ (fun _ => ?_))
    | exact ih0 _ _ _ _ _
    | exact ih1 _ _ _ _ _ _ _ _ _ _ _
    | exact ih2 _ _ _ _ _ _ _ _ _ _ _ _
    | exact ih3 _ _ _ _ _ _ _ _ _ _ _ _ _ _ _
    | exact impl_GoodChores.mono _ _
    | exact LeO.none _
    | refine LeO.ite ?_ ?_
    | refine LeO.bind ?_ (fun _ => ?_)
  · intro y0 y1 y2 y3 y4 y5 y6 y7 y8 y9 y10 y11
    unfold impl_AnswerTimes.j2
    repeat' first
    | (with_reducible exact ih0 _ _ _ _ _)
    | (with_reducible exact ih1 _ _ _ _ _ _ _ _ _ _ _)
    | (with_reducible exact ih2 _ _ _ _ _ _ _ _ _ _ _ _)
    | (with_reducible exact ih3 _ _ _ _ _ _ _ _ _ _ _ _ _ _ _)
    | (with_reducible exact impl_GoodChores.mono _ _)
    | (with_reducible exact LeO.refl _)
    | (with_reducible exact LeO.none _)
    | (with_reducible refine LeO.ite ?_ ?_)
    | (with_reducible refine LeO.bind ?_ (fun _ => ?_))
    | exact ih0 _ _ _ _ _
    | exact ih1 _ _ _ _ _ _ _ _ _ _ _
    | exact ih2 _ _ _ _ _ _ _ _ _ _ _ _
    | exact ih3 _ _ _ _ _ _ _ _ _ _ _ _ _ _ _
    | exact impl_GoodChores.mono _ _
    | exact LeO.none _
    | refine LeO.ite ?_ ?_
    | refine LeO.bind ?_ (fun _ => ?_)
  · intro y0 y1 y2 y3 y4 y5 y6 y7 y8 y9 y10 y11 y12 y13 y14
    unfold impl_AnswerTimes.l2
    repeat' first
    | (with_reducible exact ih0 _ _ _ _ _)
    | (with_reducible exact ih1 _ _ _ _ _ _ _ _ _ _ _)
    | (with_reducible exact ih2 _ _ _ _ _ _ _ _ _ _ _ _)
    | (with_reducible exact ih3 _ _ _ _ _ _ _ _ _ _ _ _ _ _ _)
    | (with_reducible exact impl_GoodChores.mono _ _)
    | (with_reducible exact LeO.refl _)
    | (with_reducible exact LeO.none _)
    | (with_reducible refine LeO.ite ?_ ?_)
    | (with_reducible refine LeO.bind ?_ (fun _ => ?_))
    | exact ih0 _ _ _ _ _
    | exact ih1 _ _ _ _ _ _ _ _ _ _ _
    | exact ih2 _ _ _ _ _ _ _ _ _ _ _ _
    | exact ih3 _ _ _ _ _ _ _ _ _ _ _ _ _ _ _
    | exact impl_GoodChores.mono _ _
    | exact LeO.none _
    | refine LeO.ite ?_ ?_
    | refine LeO.bind ?_ (fun _ => ?_)
theorem impl_AnswerTimes.mono : ∀ a0 k, LeO (impl_AnswerTimes.f k a0) (impl_AnswerTimes.f (k + 1) a0) := by
 intro a0 k
 obtain ⟨ih0, ih1, ih2, ih3⟩ := impl_AnswerTimes.mono_l k
 unfold impl_AnswerTimes.f
 repeat' first
  | (with_reducible exact ih0 _ _ _ _ _)
  | (with_reducible exact ih1 _ _ _ _ _ _ _ _ _ _ _)
  | (with_reducible exact ih2 _ _ _ _ _ _ _ _ _ _ _ _)
  | (with_reducible exact ih3 _ _ _ _ _ _ _ _ _ _ _ _ _ _ _)
  | (with_reducible exact impl_GoodChores.mono _ _)
  | (with_reducible exact LeO.refl _)
  | (with_reducible exact LeO.none _)
  | (with_reducible refine LeO.ite ?_ ?_)
  | (with_reducible refine LeO.bind ?_ (fun _ => ?_))
  | exact ih0 _ _ _ _ _
  | exact ih1 _ _ _ _ _ _ _ _ _ _ _
  | exact ih2 _ _ _ _ _ _ _ _ _ _ _ _
  | exact ih3 _ _ _ _ _ _ _ _ _ _ _ _ _ _ _
  | exact impl_GoodChores.mono _ _
  | exact LeO.none _
  | refine LeO.ite ?_ ?_
  | refine LeO.bind ?_ (fun _ => ?_)
set_option maxHeartbeats 8000000 in
set_option maxRecDepth 100000 in
theorem impl_AnswerTimes.calls (k : Nat) (A0 : Option Addr) (c0 : Nat) (l0 : List (S62)) (r1 : List Int) (r2 : Bool) (w : World) (hr0 : Kd.C k62 w A0 l0.length l0) (hc0 : l0.length ≤ c0) (h : impl_AnswerTimes.f k l0 = some (r1, r2)) :
 Calls Try.prog 10 #[.slice A0 l0.length c0] w fun e w' => ∃ v0_ : Value, e = .returned (.tuple #[v0_, .bool r2]) ∧ Kd.R (Kd.int .i64) 3 w' w.heap.size (fun _ => True) v0_ r1 ∧ Below w.heap.size w w' := by
 have hu62 := Try.underlying62; (have HR0 := Aside0.mk hr0); (have HC0 := Aside0.mk hc0); clear hr0 hc0; (have HB := Aside0.mk (Below.refl w.heap.size w)); (have H : ((impl_GoodChores.f k l0).bind fun t346 => (if t346 = true then (impl_AnswerTimes.l0 k l0 ([] : List Int) l0 (l0.length : Int) 0) else (some (([] : List Int), false)))) = some (r1, r2) := h); clear h; (replace H := Option.bind_eq_some_iff.mp H); (obtain ⟨t346, A20, H⟩ := H); (replace H : (if t346 = true then (impl_AnswerTimes.l0 k l0 ([] : List Int) l0 (l0.length : Int) 0) else (some (([] : List Int), false))) = some (r1, r2) := H); (have A2 := Aside0.mk A20); clear A20
 by_cases c3 : t346 = true
 · subst c3
   (have H1 : (impl_AnswerTimes.l0 k l0 ([] : List Int) l0 (l0.length : Int) 0) = some (r1, r2) := by rw [if_pos rfl] at H; exact H); clear H; have H := H1; clear H1; (have H' := Aside0.mk H); clear H
   go_enter Try.func10, Try.ntmps10
   go_wp2_with (first | (go_at_call 32; (with_reducible refine (impl_GoodChores.calls k _ _ l0 true _ ?side1 ?side2 A2.out).mono ?_); (case side1 => repeat (first | exact HR0.out | (with_reducible refine Kd.C_alloc ?_ _) | (with_reducible refine Kd.C_drewN ?_ _) | (with_reducible refine Kd.C_drew ?_))); (case side2 => exact HC0.out); rintro e w4 ⟨rfl, hb⟩; have n0_ := Aside0.mk (below_step (by repeat (first | (with_reducible first | exact HB.out | apply below_alloc | apply pw_below_drewN | apply below_drew1) | exact HB.out)) hb); clear HB; have HB := n0_; clear n0_; (try clear hb); (try clear hb2); (try clear hk); (try clear hi)))
   repeat (go_quiet (first | (go_at_call 32; (with_reducible refine (impl_GoodChores.calls k _ _ l0 true _ ?side1 ?side2 A2.out).mono ?_); (case side1 => repeat (first | exact HR0.out | (with_reducible refine Kd.C_alloc ?_ _) | (with_reducible refine Kd.C_drewN ?_ _) | (with_reducible refine Kd.C_drew ?_))); (case side2 => exact HC0.out); rintro e w4 ⟨rfl, hb⟩; have n0_ := Aside0.mk (below_step (by repeat (first | (with_reducible first | exact HB.out | apply below_alloc | apply pw_below_drewN | apply below_drew1) | exact HB.out)) hb); clear HB; have HB := n0_; clear n0_; (try clear hb); (try clear hb2); (try clear hk); (try clear hi))); try go_wp2_with (first | (go_at_call 32; (with_reducible refine (impl_GoodChores.calls k _ _ l0 true _ ?side1 ?side2 A2.out).mono ?_); (case side1 => repeat (first | exact HR0.out | (with_reducible refine Kd.C_alloc ?_ _) | (with_reducible refine Kd.C_drewN ?_ _) | (with_reducible refine Kd.C_drew ?_))); (case side2 => exact HC0.out); rintro e w4 ⟨rfl, hb⟩; have n0_ := Aside0.mk (below_step (by repeat (first | (with_reducible first | exact HB.out | apply below_alloc | apply pw_below_drewN | apply below_drew1) | exact HB.out)) hb); clear HB; have HB := n0_; clear n0_; (try clear hb); (try clear hb2); (try clear hk); (try clear hi))))
   go_loopg [4, 17] k (fun kq v4 v17 w' => ∃ (x4_1 : List Int) (x17_1 : Int), v17 = .int .i64 x17_1 ∧ Aside0 (impl_AnswerTimes.l0 kq l0 x4_1 l0 (l0.length : Int) x17_1 = some (r1, r2)) ∧ Aside0 (kq ≤ k) ∧ Aside0 (Kd.R (Kd.int .i64) 3 w' w.heap.size (fun _ => True) v4 x4_1) ∧ Aside0 (Below w.heap.size w w'))
   case atStart => exact ⟨(([] : List Int)), (0), (by first | rfl | (simp; done) | (simp [*]; done)), H', ⟨Nat.le_refl _⟩, ⟨by first | exact Kd.R_nil _ _ _ _ _ | exact Kd.N_nil _ _ _ _ _ | exact Kd.V_nil _ _ _ _ _ | exact Kd.Q_nil _ _ _ _ _ | exact Kd.S_nil _ _ _ _ _⟩, ⟨by repeat (first | (with_reducible first | exact HB.out | apply below_alloc | apply pw_below_drewN | apply below_drew1) | exact HB.out)⟩⟩
   case round =>
    clear H'; (try clear c1); (try clear p2); (try clear c3); (obtain ⟨x4_1, x17_1, rfl, HA, HK1, HO_4, HB⟩ := hrel)
    cases gk with
    | zero => exact absurd HA.out (by simp [impl_AnswerTimes.l0])
    | succ k1 =>
     have H := HA.out; clear HA; (simp only [impl_AnswerTimes.l0] at H)
     by_cases c5 : x17_1 < (l0.length : Int)
     · rw [if_pos c5] at H
       (have c5b0 : decide (x17_1 < (l0.length : Int)) = true := decide_eq_true c5); clear c5
       by_cases c6 : 0 ≤ x17_1
       · rw [if_pos c6] at H
         (have c6b0 : decide (0 ≤ x17_1) = true := decide_eq_true c6); clear c6
         by_cases c7 : x17_1 < (l0.length : Int)
         · rw [if_pos c7] at H
           (have c7b0 : decide (x17_1 < (l0.length : Int)) = true := decide_eq_true c7); clear c7; (have H' := Aside0.mk H); clear H; (have p347 : 0 ≤ (x17_1 : Int) := of_decide_eq_true (by first | (with_reducible assumption) | assumption)); (have q347 : x17_1 < (l0.length : Int) := of_decide_eq_true (by first | (with_reducible assumption) | assumption)); (obtain ⟨ad347, e347, hx347_0, hx347_1, hx347_2⟩ := at_T62 HR0.out x17_1 p347 q347)
           cases e347
           (first | replace hx347_0 := (HB.out.cell (World.block_lt_of_cell? w _ hx347_0)).trans hx347_0 | skip)
           (first | replace hx347_1 := (HB.out.cell (World.block_lt_of_cell? w _ hx347_1)).trans hx347_1 | skip)
           (first | replace hx347_2 := (HB.out.cell (World.block_lt_of_cell? w _ hx347_2)).trans hx347_2 | skip)
           (replace p347 := eq_true p347); (replace q347 := eq_true q347)
           go_wp2_with (first | ((with_reducible refine gate_dst (N := 6) rfl ?_); refine box_event ?hg (N := 6) ?hd (cs := #[.int .i64 0, .int .i64 0, .int .i64 0]) (t := 62) ?hr ?_; (case hd => rfl); (case hg => rfl); (case hr => first | (go_simp; done) | (go_simp; rfl)); intro gb348 hg w8 hbox hb; have n0_ := Aside0.mk (Kd.R_below HO_4.out hb); have n1_ := Aside0.mk (below_step (by repeat (first | (with_reducible first | exact HB.out | apply below_alloc | apply pw_below_drewN | apply below_drew1) | exact HB.out)) hb); have n2_ := Aside0.mk (hbox); have n3_ := Aside0.mk ((by rw [hg]; exact (below_size (by repeat (first | (with_reducible first | exact HB.out | apply below_alloc | apply pw_below_drewN | apply below_drew1) | exact HB.out))) : w.heap.size ≤ gb348)); have n4_ := Aside0.mk ((by rw [hg]; exact (below_size (by repeat (first | (with_reducible first | exact HB.out | apply below_alloc | apply pw_below_drewN | apply below_drew1) | exact HB.out))) : w.heap.size ≤ gb348)); clear HO_4; clear HB; have HO_4 := n0_; have HB := n1_; have BK348 := n2_; have GW348 := n3_; have GE348 := n4_; clear n0_ n1_ n2_ n3_ n4_; clear hb hbox hg; have hcz9_0 : w8.cell? ⟨gb348, 0, none⟩ = some (.int .i64 0) := (blk_cell BK348.out 0).trans rfl; have hcz9_1 : w8.cell? ⟨gb348, 1, none⟩ = some (.int .i64 0) := (blk_cell BK348.out 1).trans rfl; have hcz9_2 : w8.cell? ⟨gb348, 2, none⟩ = some (.int .i64 0) := (blk_cell BK348.out 2).trans rfl; have hfz9_0 := blk_frozen BK348.out 0; have hfz9_1 := blk_frozen BK348.out 1; have hfz9_2 := blk_frozen BK348.out 2))
           repeat (go_quiet (first | ((with_reducible refine gate_dst (N := 6) rfl ?_); refine box_event ?hg (N := 6) ?hd (cs := #[.int .i64 0, .int .i64 0, .int .i64 0]) (t := 62) ?hr ?_; (case hd => rfl); (case hg => rfl); (case hr => first | (go_simp; done) | (go_simp; rfl)); intro gb348 hg w8 hbox hb; have n0_ := Aside0.mk (Kd.R_below HO_4.out hb); have n1_ := Aside0.mk (below_step (by repeat (first | (with_reducible first | exact HB.out | apply below_alloc | apply pw_below_drewN | apply below_drew1) | exact HB.out)) hb); have n2_ := Aside0.mk (hbox); have n3_ := Aside0.mk ((by rw [hg]; exact (below_size (by repeat (first | (with_reducible first | exact HB.out | apply below_alloc | apply pw_below_drewN | apply below_drew1) | exact HB.out))) : w.heap.size ≤ gb348)); have n4_ := Aside0.mk ((by rw [hg]; exact (below_size (by repeat (first | (with_reducible first | exact HB.out | apply below_alloc | apply pw_below_drewN | apply below_drew1) | exact HB.out))) : w.heap.size ≤ gb348)); clear HO_4; clear HB; have HO_4 := n0_; have HB := n1_; have BK348 := n2_; have GW348 := n3_; have GE348 := n4_; clear n0_ n1_ n2_ n3_ n4_; clear hb hbox hg; have hcz9_0 : w8.cell? ⟨gb348, 0, none⟩ = some (.int .i64 0) := (blk_cell BK348.out 0).trans rfl; have hcz9_1 : w8.cell? ⟨gb348, 1, none⟩ = some (.int .i64 0) := (blk_cell BK348.out 1).trans rfl; have hcz9_2 : w8.cell? ⟨gb348, 2, none⟩ = some (.int .i64 0) := (blk_cell BK348.out 2).trans rfl; have hfz9_0 := blk_frozen BK348.out 0; have hfz9_1 := blk_frozen BK348.out 1; have hfz9_2 := blk_frozen BK348.out 2)); try go_wp2_with (first | ((with_reducible refine gate_dst (N := 6) rfl ?_); refine box_event ?hg (N := 6) ?hd (cs := #[.int .i64 0, .int .i64 0, .int .i64 0]) (t := 62) ?hr ?_; (case hd => rfl); (case hg => rfl); (case hr => first | (go_simp; done) | (go_simp; rfl)); intro gb348 hg w8 hbox hb; have n0_ := Aside0.mk (Kd.R_below HO_4.out hb); have n1_ := Aside0.mk (below_step (by repeat (first | (with_reducible first | exact HB.out | apply below_alloc | apply pw_below_drewN | apply below_drew1) | exact HB.out)) hb); have n2_ := Aside0.mk (hbox); have n3_ := Aside0.mk ((by rw [hg]; exact (below_size (by repeat (first | (with_reducible first | exact HB.out | apply below_alloc | apply pw_below_drewN | apply below_drew1) | exact HB.out))) : w.heap.size ≤ gb348)); have n4_ := Aside0.mk ((by rw [hg]; exact (below_size (by repeat (first | (with_reducible first | exact HB.out | apply below_alloc | apply pw_below_drewN | apply below_drew1) | exact HB.out))) : w.heap.size ≤ gb348)); clear HO_4; clear HB; have HO_4 := n0_; have HB := n1_; have BK348 := n2_; have GW348 := n3_; have GE348 := n4_; clear n0_ n1_ n2_ n3_ n4_; clear hb hbox hg; have hcz9_0 : w8.cell? ⟨gb348, 0, none⟩ = some (.int .i64 0) := (blk_cell BK348.out 0).trans rfl; have hcz9_1 : w8.cell? ⟨gb348, 1, none⟩ = some (.int .i64 0) := (blk_cell BK348.out 1).trans rfl; have hcz9_2 : w8.cell? ⟨gb348, 2, none⟩ = some (.int .i64 0) := (blk_cell BK348.out 2).trans rfl; have hfz9_0 := blk_frozen BK348.out 0; have hfz9_1 := blk_frozen BK348.out 1; have hfz9_2 := blk_frozen BK348.out 2)))
           go_loopg [7, 8] k1 (fun kq v7 v8 w' => ∃ (x7_2 : Int) (x8_2 : Int), v7 = .int .i64 x7_2 ∧ v8 = .int .i64 x8_2 ∧ Aside0 (impl_AnswerTimes.l1 kq l0 x4_1 x17_1 x7_2 x8_2 l0 (l0.length : Int) x17_1 ((rd_T62 l0 x17_1).f0) ((rd_T62 l0 x17_1).f1) ((rd_T62 l0 x17_1).f2) = some (r1, r2)) ∧ Aside0 (kq ≤ k1) ∧ Aside0 (Kd.R (Kd.int .i64) 3 w' w.heap.size (fun _ => True) u4 x4_1) ∧ Aside0 (w'.heap[gb348]? = some (.cells #[.int .i64 ((rd_T62 l0 x17_1).f0), .int .i64 ((rd_T62 l0 x17_1).f1), .int .i64 ((rd_T62 l0 x17_1).f2)] 62 (0, 0))) ∧ Aside0 (Below w.heap.size w w'))
           case atStart => exact ⟨((-1)), ((rd_T62 l0 x17_1).f1), (by first | rfl | (simp; done) | (simp [*]; done)), (by first | rfl | (simp; done) | (simp [*]; done)), H', ⟨Nat.le_refl _⟩, ⟨by exact Kd.R_mono (Kd.R_far (p := ⟨gb348, 2, none⟩) (Kd.R_far (p := ⟨gb348, 1, none⟩) (Kd.R_far (p := ⟨gb348, 0, none⟩) (Kd.R_types HO_4.out BK348.out (by decide)) (fun _ hk => hk.2) (.int .i64 ((rd_T62 l0 x17_1).f0))) (fun _ hk => hk.2) (.int .i64 ((rd_T62 l0 x17_1).f1))) (fun _ hk => hk.2) (.int .i64 ((rd_T62 l0 x17_1).f2))) (fun _ hk => trivial)⟩, ⟨by refine blk_put (cs := #[.int .i64 ((rd_T62 l0 x17_1).f0), .int .i64 ((rd_T62 l0 x17_1).f1), .int .i64 0]) ?_ 2 _ rfl; refine blk_put (cs := #[.int .i64 ((rd_T62 l0 x17_1).f0), .int .i64 0, .int .i64 0]) ?_ 1 _ rfl; refine blk_put (cs := #[.int .i64 0, .int .i64 0, .int .i64 0]) ?_ 0 _ rfl; exact BK348.out⟩, ⟨by repeat (first | (with_reducible first | exact HB.out | apply below_alloc | apply pw_below_drewN | apply below_drew1 | refine below_set ?_ GE348.out) | exact HB.out)⟩⟩
           case round =>
            clear H'; (try clear c1); (try clear p2); (try clear c3); (try clear p3); (try clear q3); (try clear hx3); (try clear c5); (try clear c5b0); (try clear c6); (try clear c6b0); (try clear c7); (try clear c7b0); (try clear hcz9_0); (try clear hcz9_1); (try clear hcz9_2); (try clear hfz9_0); (try clear hfz9_1); (try clear hfz9_2); (try clear hx347_0); (try clear hx347_1); (try clear hx347_2); (try clear p2); (try clear p347); (try clear q347); (obtain ⟨x7_2, x8_2, rfl, rfl, HA, HK2, HO_4, BK348, HB⟩ := hrel)
            cases gk with
            | zero => exact absurd HA.out (by simp [impl_AnswerTimes.l1])
            | succ k2 =>
             have H := HA.out; clear HA; (simp only [impl_AnswerTimes.l1] at H); (have HC10 := Aside0.mk H); clear H
             go_upto_region 9 with (fail)
             repeat (go_quiet (fail); go_upto_region 9 with (fail))
             go_cut [31] (fun v31 wc => ∃ (kq : Nat) (x31_9 : Bool), v31 = .bool x31_9 ∧ Aside0 (impl_AnswerTimes.j2 kq l0 x4_1 x17_1 x7_2 x8_2 l0 (l0.length : Int) x17_1 x31_9 ((rd_T62 l0 x17_1).f0) ((rd_T62 l0 x17_1).f1) ((rd_T62 l0 x17_1).f2) = some (r1, r2)) ∧ Aside0 (kq ≤ k2) ∧ Aside0 (Kd.R (Kd.int .i64) 3 wc w.heap.size (fun _ => True) u4 x4_1) ∧ Aside0 (wc.heap[gb348]? = some (.cells #[.int .i64 ((rd_T62 l0 x17_1).f0), .int .i64 ((rd_T62 l0 x17_1).f1), .int .i64 ((rd_T62 l0 x17_1).f2)] 62 (0, 0))) ∧ Aside0 (Below w.heap.size w wc))
             case first =>
              have H := HC10.out; clear HC10
              by_cases c11 : x8_2 ≤ ((rd_T62 l0 x17_1).f2)
              · rw [if_pos c11] at H
                (have c11b0 : decide (x8_2 ≤ ((rd_T62 l0 x17_1).f2)) = true := decide_eq_true c11); clear c11
                (first | rw [c11b0] | (simp only [i64_w, i32_w]; rw [c11b0]) | skip)
                (have H' := Aside0.mk H); clear H; (have hcz12_0 : wr.cell? ⟨gb348, 0, none⟩ = some (.int .i64 ((rd_T62 l0 x17_1).f0)) := (blk_cell BK348.out 0).trans rfl); (have hcz12_1 : wr.cell? ⟨gb348, 1, none⟩ = some (.int .i64 ((rd_T62 l0 x17_1).f1)) := (blk_cell BK348.out 1).trans rfl); (have hcz12_2 : wr.cell? ⟨gb348, 2, none⟩ = some (.int .i64 ((rd_T62 l0 x17_1).f2)) := (blk_cell BK348.out 2).trans rfl); (have hfz12_0 := blk_frozen BK348.out 0); (have hfz12_1 := blk_frozen BK348.out 1); (have hfz12_2 := blk_frozen BK348.out 2)
                go_wp2
                repeat (go_quiet (fail); try go_wp2)
                go_meet
                case rel => exact ⟨_, (decide (x7_2 < 0)), (by first | rfl | (simp; done) | (simp [*]; done)), H', ⟨by have := HK1.out; have := HK2.out; first | omega | exact Nat.le_refl _⟩, ⟨by exact HO_4.out⟩, ⟨by exact BK348.out⟩, ⟨by repeat (first | (with_reducible first | exact HB.out | apply below_alloc | apply pw_below_drewN | apply below_drew1 | refine below_set ?_ GE348.out) | exact HB.out)⟩⟩
              · rw [if_neg c11] at H
                (have c11b0 : decide (x8_2 ≤ ((rd_T62 l0 x17_1).f2)) = false := decide_eq_false c11); clear c11
                (first | rw [c11b0] | (simp only [i64_w, i32_w]; rw [c11b0]) | skip)
                (have H' := Aside0.mk H); clear H; (have hcz13_0 : wr.cell? ⟨gb348, 0, none⟩ = some (.int .i64 ((rd_T62 l0 x17_1).f0)) := (blk_cell BK348.out 0).trans rfl); (have hcz13_1 : wr.cell? ⟨gb348, 1, none⟩ = some (.int .i64 ((rd_T62 l0 x17_1).f1)) := (blk_cell BK348.out 1).trans rfl); (have hcz13_2 : wr.cell? ⟨gb348, 2, none⟩ = some (.int .i64 ((rd_T62 l0 x17_1).f2)) := (blk_cell BK348.out 2).trans rfl); (have hfz13_0 := blk_frozen BK348.out 0); (have hfz13_1 := blk_frozen BK348.out 1); (have hfz13_2 := blk_frozen BK348.out 2)
                go_wp2
                repeat (go_quiet (fail); try go_wp2)
                go_meet
                case rel => exact ⟨_, (false), (by first | rfl | (simp; done) | (simp [*]; done)), H', ⟨by have := HK1.out; have := HK2.out; first | omega | exact Nat.le_refl _⟩, ⟨by exact HO_4.out⟩, ⟨by exact BK348.out⟩, ⟨by repeat (first | (with_reducible first | exact HB.out | apply below_alloc | apply pw_below_drewN | apply below_drew1 | refine below_set ?_ GE348.out) | exact HB.out)⟩⟩
             case rest =>
              clear HC10; (try clear c1); (try clear p2); (try clear c3); (try clear p3); (try clear q3); (try clear hx3); (try clear c5); (try clear c5b0); (try clear c6); (try clear c6b0); (try clear c7); (try clear c7b0); (try clear c10); (try clear c11); (try clear c11b0); (try clear hcz12_0); (try clear hcz12_1); (try clear hcz12_2); (try clear hcz13_0); (try clear hcz13_1); (try clear hcz13_2); (try clear hcz9_0); (try clear hcz9_1); (try clear hcz9_2); (try clear hfz12_0); (try clear hfz12_1); (try clear hfz12_2); (try clear hfz13_0); (try clear hfz13_1); (try clear hfz13_2); (try clear hfz9_0); (try clear hfz9_1); (try clear hfz9_2); (try clear hx347_0); (try clear hx347_1); (try clear hx347_2); (try clear p2); (try clear p3); (try clear p347); (try clear q3); (try clear q347); (obtain ⟨kq, x31_9, rfl, HA, HJ9, HO_4, BK348, HB⟩ := hcut)
              cases kq with
              | zero => exact absurd HA.out (by simp [impl_AnswerTimes.j2])
              | succ kj9 =>
               have H := HA.out; clear HA; (simp only [impl_AnswerTimes.j2] at H)
               by_cases c14 : x31_9 = true
               · subst c14
                 (have H1 : (if 0 ≤ x17_1 then (if x17_1 ≤ (l0.length : Int) then ((some (l0.take (x17_1 : Int).toNat : List (S62))).bind fun y352 => (impl_AnswerTimes.l2 kj9 l0 x4_1 x17_1 x7_2 x8_2 ((rd_T62 l0 x17_1).f1) l0 (l0.length : Int) x17_1 y352 (y352.length : Int) 0 ((rd_T62 l0 x17_1).f0) ((rd_T62 l0 x17_1).f1) ((rd_T62 l0 x17_1).f2))) else (none)) else (none)) = some (r1, r2) := by rw [if_pos rfl] at H; exact H); clear H; have H := H1; clear H1
                 by_cases c15 : 0 ≤ x17_1
                 · rw [if_pos c15] at H
                   (have c15b0 := eq_true c15); (have c15b1 : decide (0 ≤ x17_1) = true := decide_eq_true c15); clear c15
                   by_cases c16 : x17_1 ≤ (l0.length : Int)
                   · rw [if_pos c16] at H
                     (have c16b0 := eq_true c16); (have c16b1 : decide (x17_1 ≤ (l0.length : Int)) = true := decide_eq_true c16); clear c16; (obtain ⟨y352, hy352⟩ : ∃ y_ : List (S62), y_ = (l0.take (x17_1 : Int).toNat) := ⟨_, rfl⟩); (replace H : (impl_AnswerTimes.l2 kj9 l0 x4_1 x17_1 x7_2 x8_2 ((rd_T62 l0 x17_1).f1) l0 (l0.length : Int) x17_1 y352 (y352.length : Int) 0 ((rd_T62 l0 x17_1).f0) ((rd_T62 l0 x17_1).f1) ((rd_T62 l0 x17_1).f2)) = some (r1, r2) := by first | (rw [hy352]; with_reducible exact H) | (have H2_ := (Option.bind_some _ _).symm.trans H; rw [hy352]; with_reducible exact H2_) | (have H2_ := (Option.bind_some _ _).symm.trans H; with_reducible exact H2_) | with_reducible exact H | (rw [hy352]; exact H) | exact H); (have Ny352 := Aside0.mk hy352); clear hy352; (have H' := Aside0.mk H); clear H; (have hcz17_0 : wc.cell? ⟨gb348, 0, none⟩ = some (.int .i64 ((rd_T62 l0 x17_1).f0)) := (blk_cell BK348.out 0).trans rfl); (have hcz17_1 : wc.cell? ⟨gb348, 1, none⟩ = some (.int .i64 ((rd_T62 l0 x17_1).f1)) := (blk_cell BK348.out 1).trans rfl); (have hcz17_2 : wc.cell? ⟨gb348, 2, none⟩ = some (.int .i64 ((rd_T62 l0 x17_1).f2)) := (blk_cell BK348.out 2).trans rfl); (have hfz17_0 := blk_frozen BK348.out 0); (have hfz17_1 := blk_frozen BK348.out 1); (have hfz17_2 := blk_frozen BK348.out 2); (have q18 : (x17_1 : Int) ≤ ((l0.length : Int) : Int) := of_decide_eq_true (by first | (with_reducible assumption) | assumption)); (obtain ⟨i018, hi018, _, hsz18, _⟩ := info_parts info62)
                     (have hroom18 : l0.length ≤ c0 := HC0.out); (have hC18 : Kd.C k62 _ (some ad347) l0.length l0 := HR0.out); (have hcut18 := cut_to (P := Try.prog) 23 62 .i64 Try.underlying23 hi018 (some ad347) l0.length c0 x17_1 (of_decide_eq_true (by first | (with_reducible assumption) | assumption)) q18 hroom18); (have hr18 := Kd.C_take (m := (x17_1 : Int).toNat) hC18 (by omega)); (have hy18 : y352.length = (x17_1 : Int).toNat := (by rw [Ny352.out, List.length_take]; omega)); (rw [← Ny352.out] at hr18); (rw [← hy18] at hcut18); (have HR355 := Aside0.mk hr18); (have HC355 := Aside0.mk (show y352.length ≤ c0 from by omega)); clear hr18 hC18 hroom18 hi018 hsz18; (have KY18 := Aside0.mk hy18); clear hy18; (replace q18 := eq_true q18)
                     go_wp2
                     repeat (go_quiet (fail); try go_wp2)
                     go_loopg [9, 40] kj9 (fun kq v9 v40 w' => ∃ (x9_4 : Int) (x40_4 : Int), v9 = .int .i64 x9_4 ∧ v40 = .int .i64 x40_4 ∧ Aside0 (impl_AnswerTimes.l2 kq l0 x4_1 x17_1 x7_2 x8_2 x9_4 l0 (l0.length : Int) x17_1 y352 (y352.length : Int) x40_4 ((rd_T62 l0 x17_1).f0) ((rd_T62 l0 x17_1).f1) ((rd_T62 l0 x17_1).f2) = some (r1, r2)) ∧ Aside0 (kq ≤ kj9) ∧ Aside0 (Kd.R (Kd.int .i64) 3 w' w.heap.size (fun _ => True) u4 x4_1) ∧ Aside0 (w'.heap[gb348]? = some (.cells #[.int .i64 ((rd_T62 l0 x17_1).f0), .int .i64 ((rd_T62 l0 x17_1).f1), .int .i64 ((rd_T62 l0 x17_1).f2)] 62 (0, 0))) ∧ Aside0 (Below w.heap.size w w'))
                     case atStart => exact ⟨(((rd_T62 l0 x17_1).f1)), (0), (by first | rfl | (simp; done) | (simp [*]; done)), (by first | rfl | (simp; done) | (simp [*]; done)), H', ⟨Nat.le_refl _⟩, ⟨by exact HO_4.out⟩, ⟨by exact BK348.out⟩, ⟨by repeat (first | (with_reducible first | exact HB.out | apply below_alloc | apply pw_below_drewN | apply below_drew1 | refine below_set ?_ GE348.out) | exact HB.out)⟩⟩
                     case round =>
                      clear H'; (try clear c1); (try clear q1); (try clear p2); (try clear c3); (try clear p3); (try clear q3); (try clear hx3); (try clear c5); (try clear c5b0); (try clear c6); (try clear c6b0); (try clear c7); (try clear c7b0); (try clear c10); (try clear c11); (try clear c11b0); (try clear c14); (try clear c15); (try clear c15b0); (try clear c15b1); (try clear c16); (try clear c16b0); (try clear c16b1); (try clear q18); (try clear hcz12_0); (try clear hcz12_1); (try clear hcz12_2); (try clear hcz13_0); (try clear hcz13_1); (try clear hcz13_2); (try clear hcz17_0); (try clear hcz17_1); (try clear hcz17_2); (try clear hcz9_0); (try clear hcz9_1); (try clear hcz9_2); (try clear hfz12_0); (try clear hfz12_1); (try clear hfz12_2); (try clear hfz13_0); (try clear hfz13_1); (try clear hfz13_2); (try clear hfz17_0); (try clear hfz17_1); (try clear hfz17_2); (try clear hfz9_0); (try clear hfz9_1); (try clear hfz9_2); (try clear hx347_0); (try clear hx347_1); (try clear hx347_2); (try clear p2); (try clear p3); (try clear p347); (try clear q18); (try clear q3); (try clear q347); (obtain ⟨x9_4, x40_4, rfl, rfl, HA, HK4, HO_4, BK348, HB⟩ := hrel)
                      cases gk with
                      | zero => exact absurd HA.out (by simp [impl_AnswerTimes.l2])
                      | succ k4 =>
                       have H := HA.out; clear HA; (simp only [impl_AnswerTimes.l2] at H)
                       by_cases c19 : x40_4 < (y352.length : Int)
                       · rw [if_pos c19] at H
                         (have c19b0 : decide (x40_4 < (y352.length : Int)) = true := decide_eq_true c19); clear c19
                         by_cases c20 : 0 ≤ x40_4
                         · rw [if_pos c20] at H
                           (have c20b0 : decide (0 ≤ x40_4) = true := decide_eq_true c20); clear c20
                           by_cases c21 : x40_4 < (y352.length : Int)
                           · rw [if_pos c21] at H
                             (have c21b0 : decide (x40_4 < (y352.length : Int)) = true := decide_eq_true c21); clear c21
                             by_cases c22 : ((rd_T62 y352 x40_4).f0) = 0
                             · rw [if_pos c22] at H
                               exact absurd H (by simp)
                             · rw [if_neg c22] at H
                               (have c22b0 : (((rd_T62 y352 x40_4).f0) == 0) = false := beq_eq_false_iff_ne.mpr c22); (have c22b1 : (((rd_T62 y352 x40_4).f0) != 0) = true := bne_iff_ne.mpr c22); (have H' := Aside0.mk H); clear H; (have p356 : 0 ≤ (x40_4 : Int) := of_decide_eq_true (by first | (with_reducible assumption) | assumption)); (have q356 : x40_4 < (y352.length : Int) := of_decide_eq_true (by first | (with_reducible assumption) | assumption)); (obtain ⟨ad356, e356, hx356_0, hx356_1, hx356_2⟩ := at_T62 HR355.out x40_4 p356 q356); (obtain rfl : ad347 = ad356 := (by injection e356))
                               (first | replace hx356_0 := (HB.out.cell (World.block_lt_of_cell? w _ hx356_0)).trans hx356_0 | skip)
                               (first | replace hx356_1 := (HB.out.cell (World.block_lt_of_cell? w _ hx356_1)).trans hx356_1 | skip)
                               (first | replace hx356_2 := (HB.out.cell (World.block_lt_of_cell? w _ hx356_2)).trans hx356_2 | skip)
                               (replace p356 := eq_true p356); (replace q356 := eq_true q356)
                               go_wp2_with (first | ((with_reducible refine gate_dst (N := 11) rfl ?_); refine box_event ?hg (N := 11) ?hd (cs := #[.int .i64 0, .int .i64 0, .int .i64 0]) (t := 62) ?hr ?_; (case hd => rfl); (case hg => rfl); (case hr => first | (go_simp; done) | (go_simp; rfl)); intro gb357 hg w23 hbox hb; have n0_ := Aside0.mk (Kd.R_below HO_4.out hb); have n1_ := Aside0.mk (blk_below (g := gb348) (o := .cells #[.int .i64 ((rd_T62 l0 x17_1).f0), .int .i64 ((rd_T62 l0 x17_1).f1), .int .i64 ((rd_T62 l0 x17_1).f2)] 62 (0, 0)) BK348.out hb); have n2_ := Aside0.mk (below_step (by repeat (first | (with_reducible first | exact HB.out | apply below_alloc | apply pw_below_drewN | apply below_drew1 | refine below_set ?_ GE348.out) | exact HB.out)) hb); have n3_ := Aside0.mk (hbox); have n4_ := Aside0.mk ((by rw [hg]; exact (below_size (by repeat (first | (with_reducible first | exact HB.out | apply below_alloc | apply pw_below_drewN | apply below_drew1 | refine below_set ?_ GE348.out) | exact HB.out))) : w.heap.size ≤ gb357)); have n5_ := Aside0.mk ((by rw [hg]; exact (below_size (by repeat (first | (with_reducible first | exact HB.out | apply below_alloc | apply pw_below_drewN | apply below_drew1 | refine below_set ?_ GE348.out) | exact HB.out))) : w.heap.size ≤ gb357)); have n6_ := Aside0.mk ((by rw [hg]; exact Nat.ne_of_lt (blk_lt (g := gb348) (o := .cells #[.int .i64 ((rd_T62 l0 x17_1).f0), .int .i64 ((rd_T62 l0 x17_1).f1), .int .i64 ((rd_T62 l0 x17_1).f2)] 62 (0, 0)) BK348.out) : gb348 ≠ gb357)); have n7_ := Aside0.mk ((by rw [hg]; exact Nat.ne_of_gt (blk_lt (g := gb348) (o := .cells #[.int .i64 ((rd_T62 l0 x17_1).f0), .int .i64 ((rd_T62 l0 x17_1).f1), .int .i64 ((rd_T62 l0 x17_1).f2)] 62 (0, 0)) BK348.out) : gb357 ≠ gb348)); clear HO_4; clear BK348; clear HB; have HO_4 := n0_; have BK348 := n1_; have HB := n2_; have BK357 := n3_; have GW357 := n4_; have GE357 := n5_; have NB348_357 := n6_; have NB357_348 := n7_; clear n0_ n1_ n2_ n3_ n4_ n5_ n6_ n7_; clear hb hbox hg; have hnb24 := NB357_348.out; have hnc24 := NB348_357.out; have hcz25_0 : w23.cell? ⟨gb357, 0, none⟩ = some (.int .i64 0) := (blk_cell BK357.out 0).trans rfl; have hcz25_1 : w23.cell? ⟨gb357, 1, none⟩ = some (.int .i64 0) := (blk_cell BK357.out 1).trans rfl; have hcz25_2 : w23.cell? ⟨gb357, 2, none⟩ = some (.int .i64 0) := (blk_cell BK357.out 2).trans rfl; have hfz25_0 := blk_frozen BK357.out 0; have hfz25_1 := blk_frozen BK357.out 1; have hfz25_2 := blk_frozen BK357.out 2))
                               repeat (go_quiet (first | ((with_reducible refine gate_dst (N := 11) rfl ?_); refine box_event ?hg (N := 11) ?hd (cs := #[.int .i64 0, .int .i64 0, .int .i64 0]) (t := 62) ?hr ?_; (case hd => rfl); (case hg => rfl); (case hr => first | (go_simp; done) | (go_simp; rfl)); intro gb357 hg w23 hbox hb; have n0_ := Aside0.mk (Kd.R_below HO_4.out hb); have n1_ := Aside0.mk (blk_below (g := gb348) (o := .cells #[.int .i64 ((rd_T62 l0 x17_1).f0), .int .i64 ((rd_T62 l0 x17_1).f1), .int .i64 ((rd_T62 l0 x17_1).f2)] 62 (0, 0)) BK348.out hb); have n2_ := Aside0.mk (below_step (by repeat (first | (with_reducible first | exact HB.out | apply below_alloc | apply pw_below_drewN | apply below_drew1 | refine below_set ?_ GE348.out) | exact HB.out)) hb); have n3_ := Aside0.mk (hbox); have n4_ := Aside0.mk ((by rw [hg]; exact (below_size (by repeat (first | (with_reducible first | exact HB.out | apply below_alloc | apply pw_below_drewN | apply below_drew1 | refine below_set ?_ GE348.out) | exact HB.out))) : w.heap.size ≤ gb357)); have n5_ := Aside0.mk ((by rw [hg]; exact (below_size (by repeat (first | (with_reducible first | exact HB.out | apply below_alloc | apply pw_below_drewN | apply below_drew1 | refine below_set ?_ GE348.out) | exact HB.out))) : w.heap.size ≤ gb357)); have n6_ := Aside0.mk ((by rw [hg]; exact Nat.ne_of_lt (blk_lt (g := gb348) (o := .cells #[.int .i64 ((rd_T62 l0 x17_1).f0), .int .i64 ((rd_T62 l0 x17_1).f1), .int .i64 ((rd_T62 l0 x17_1).f2)] 62 (0, 0)) BK348.out) : gb348 ≠ gb357)); have n7_ := Aside0.mk ((by rw [hg]; exact Nat.ne_of_gt (blk_lt (g := gb348) (o := .cells #[.int .i64 ((rd_T62 l0 x17_1).f0), .int .i64 ((rd_T62 l0 x17_1).f1), .int .i64 ((rd_T62 l0 x17_1).f2)] 62 (0, 0)) BK348.out) : gb357 ≠ gb348)); clear HO_4; clear BK348; clear HB; have HO_4 := n0_; have BK348 := n1_; have HB := n2_; have BK357 := n3_; have GW357 := n4_; have GE357 := n5_; have NB348_357 := n6_; have NB357_348 := n7_; clear n0_ n1_ n2_ n3_ n4_ n5_ n6_ n7_; clear hb hbox hg; have hnb24 := NB357_348.out; have hnc24 := NB348_357.out; have hcz25_0 : w23.cell? ⟨gb357, 0, none⟩ = some (.int .i64 0) := (blk_cell BK357.out 0).trans rfl; have hcz25_1 : w23.cell? ⟨gb357, 1, none⟩ = some (.int .i64 0) := (blk_cell BK357.out 1).trans rfl; have hcz25_2 : w23.cell? ⟨gb357, 2, none⟩ = some (.int .i64 0) := (blk_cell BK357.out 2).trans rfl; have hfz25_0 := blk_frozen BK357.out 0; have hfz25_1 := blk_frozen BK357.out 1; have hfz25_2 := blk_frozen BK357.out 2)); try go_wp2_with (first | ((with_reducible refine gate_dst (N := 11) rfl ?_); refine box_event ?hg (N := 11) ?hd (cs := #[.int .i64 0, .int .i64 0, .int .i64 0]) (t := 62) ?hr ?_; (case hd => rfl); (case hg => rfl); (case hr => first | (go_simp; done) | (go_simp; rfl)); intro gb357 hg w23 hbox hb; have n0_ := Aside0.mk (Kd.R_below HO_4.out hb); have n1_ := Aside0.mk (blk_below (g := gb348) (o := .cells #[.int .i64 ((rd_T62 l0 x17_1).f0), .int .i64 ((rd_T62 l0 x17_1).f1), .int .i64 ((rd_T62 l0 x17_1).f2)] 62 (0, 0)) BK348.out hb); have n2_ := Aside0.mk (below_step (by repeat (first | (with_reducible first | exact HB.out | apply below_alloc | apply pw_below_drewN | apply below_drew1 | refine below_set ?_ GE348.out) | exact HB.out)) hb); have n3_ := Aside0.mk (hbox); have n4_ := Aside0.mk ((by rw [hg]; exact (below_size (by repeat (first | (with_reducible first | exact HB.out | apply below_alloc | apply pw_below_drewN | apply below_drew1 | refine below_set ?_ GE348.out) | exact HB.out))) : w.heap.size ≤ gb357)); have n5_ := Aside0.mk ((by rw [hg]; exact (below_size (by repeat (first | (with_reducible first | exact HB.out | apply below_alloc | apply pw_below_drewN | apply below_drew1 | refine below_set ?_ GE348.out) | exact HB.out))) : w.heap.size ≤ gb357)); have n6_ := Aside0.mk ((by rw [hg]; exact Nat.ne_of_lt (blk_lt (g := gb348) (o := .cells #[.int .i64 ((rd_T62 l0 x17_1).f0), .int .i64 ((rd_T62 l0 x17_1).f1), .int .i64 ((rd_T62 l0 x17_1).f2)] 62 (0, 0)) BK348.out) : gb348 ≠ gb357)); have n7_ := Aside0.mk ((by rw [hg]; exact Nat.ne_of_gt (blk_lt (g := gb348) (o := .cells #[.int .i64 ((rd_T62 l0 x17_1).f0), .int .i64 ((rd_T62 l0 x17_1).f1), .int .i64 ((rd_T62 l0 x17_1).f2)] 62 (0, 0)) BK348.out) : gb357 ≠ gb348)); clear HO_4; clear BK348; clear HB; have HO_4 := n0_; have BK348 := n1_; have HB := n2_; have BK357 := n3_; have GW357 := n4_; have GE357 := n5_; have NB348_357 := n6_; have NB357_348 := n7_; clear n0_ n1_ n2_ n3_ n4_ n5_ n6_ n7_; clear hb hbox hg; have hnb24 := NB357_348.out; have hnc24 := NB348_357.out; have hcz25_0 : w23.cell? ⟨gb357, 0, none⟩ = some (.int .i64 0) := (blk_cell BK357.out 0).trans rfl; have hcz25_1 : w23.cell? ⟨gb357, 1, none⟩ = some (.int .i64 0) := (blk_cell BK357.out 1).trans rfl; have hcz25_2 : w23.cell? ⟨gb357, 2, none⟩ = some (.int .i64 0) := (blk_cell BK357.out 2).trans rfl; have hfz25_0 := blk_frozen BK357.out 0; have hfz25_1 := blk_frozen BK357.out 1; have hfz25_2 := blk_frozen BK357.out 2)))
                               go_roundg k4
                               case measure => have := HK1.out; have := HK2.out; have := HJ9.out; have := HK4.out; omega
                               case rel => exact ⟨(wrap64 (x9_4 + (wrap64 (((rd_T62 y352 x40_4).f1) * (wrap64 (Int.tdiv (wrap64 ((wrap64 (x8_2 + ((rd_T62 y352 x40_4).f0))) - 1)) ((rd_T62 y352 x40_4).f0))))))), (wrap64 (x40_4 + 1)), (by first | rfl | (simp; done) | (simp [*]; done)), (by first | rfl | (simp; done) | (simp [*]; done)), H', ⟨by have := HK1.out; have := HK2.out; have := HJ9.out; have := HK4.out; omega⟩, ⟨by exact Kd.R_mono (Kd.R_far (p := ⟨gb357, 2, none⟩) (Kd.R_far (p := ⟨gb357, 1, none⟩) (Kd.R_far (p := ⟨gb357, 0, none⟩) (Kd.R_types HO_4.out BK357.out (by decide)) (fun _ hk => hk.2) (.int .i64 ((rd_T62 y352 x40_4).f0))) (fun _ hk => hk.2) (.int .i64 ((rd_T62 y352 x40_4).f1))) (fun _ hk => hk.2) (.int .i64 ((rd_T62 y352 x40_4).f2))) (fun _ hk => trivial)⟩, ⟨by refine blk_far ?_ NB348_357.out _; refine blk_far ?_ NB348_357.out _; refine blk_far ?_ NB348_357.out _; exact BK348.out⟩, ⟨by repeat (first | (with_reducible first | exact HB.out | apply below_alloc | apply pw_below_drewN | apply below_drew1 | refine below_set ?_ GE348.out | refine below_set ?_ GE357.out) | exact HB.out)⟩⟩
                           · rw [if_neg c21] at H
                             exact absurd H (by simp)
                         · rw [if_neg c20] at H
                           exact absurd H (by simp)
                       · rw [if_neg c19] at H
                         (have c19b0 : decide (x40_4 < (y352.length : Int)) = false := decide_eq_false c19); clear c19
                         by_cases c26 : x9_4 = x8_2
                         · rw [if_pos c26] at H
                           (have c26b0 : (x9_4 == x8_2) = true := beq_iff_eq.mpr c26); (have c26b1 : (x9_4 != x8_2) = false := bne_eq_false_iff_eq.mpr c26); clear c26; (have H' := Aside0.mk H); clear H
                           go_wp2
                           repeat (go_quiet (fail); try go_wp2)
                           go_roundg k4
                           case measure => have := HK1.out; have := HK2.out; have := HJ9.out; have := HK4.out; omega
                           case rel => exact ⟨(x8_2), (wrap64 (x8_2 + 1)), (by first | rfl | (simp; done) | (simp [*]; done)), (by first | rfl | (simp; done) | (simp [*]; done)), H', ⟨by have := HK1.out; have := HK2.out; have := HJ9.out; have := HK4.out; omega⟩, ⟨by exact HO_4.out⟩, ⟨by exact BK348.out⟩, ⟨by repeat (first | (with_reducible first | exact HB.out | apply below_alloc | apply pw_below_drewN | apply below_drew1 | refine below_set ?_ GE348.out) | exact HB.out)⟩⟩
                         · rw [if_neg c26] at H
                           (have c26b0 : (x9_4 == x8_2) = false := beq_eq_false_iff_ne.mpr c26); (have c26b1 : (x9_4 != x8_2) = true := bne_iff_ne.mpr c26); (have H' := Aside0.mk H); clear H
                           go_wp2
                           repeat (go_quiet (fail); try go_wp2)
                           go_roundg k4
                           case measure => have := HK1.out; have := HK2.out; have := HJ9.out; have := HK4.out; omega
                           case rel => exact ⟨(x7_2), (wrap64 (x8_2 + 1)), (by first | rfl | (simp; done) | (simp [*]; done)), (by first | rfl | (simp; done) | (simp [*]; done)), H', ⟨by have := HK1.out; have := HK2.out; have := HJ9.out; have := HK4.out; omega⟩, ⟨by exact HO_4.out⟩, ⟨by exact BK348.out⟩, ⟨by repeat (first | (with_reducible first | exact HB.out | apply below_alloc | apply pw_below_drewN | apply below_drew1 | refine below_set ?_ GE348.out) | exact HB.out)⟩⟩
                   · rw [if_neg c16] at H
                     exact absurd H (by simp)
                 · rw [if_neg c15] at H
                   exact absurd H (by simp)
               · replace c14 := Bool.eq_false_iff.mpr c14
                 subst c14; (have H1 : (if x4_1.length < 17592186044416 then (impl_AnswerTimes.l0 kj9 l0 (x4_1 ++ [x7_2]) l0 (l0.length : Int) (wrap64 (x17_1 + 1))) else (none)) = some (r1, r2) := by rw [if_neg (show ¬ (false = true) by decide)] at H; exact H); clear H; have H := H1; clear H1
                 by_cases c27 : x4_1.length < 17592186044416
                 · rw [if_pos c27] at H
                   (have LMc27 := Aside0.mk c27); clear c27; (obtain ⟨y349, hy349⟩ : ∃ y_ : List Int, y_ = (x4_1 ++ [x7_2]) := ⟨_, rfl⟩); (replace H : (impl_AnswerTimes.l0 kj9 l0 y349 l0 (l0.length : Int) (wrap64 (x17_1 + 1))) = some (r1, r2) := by first | (rw [hy349]; with_reducible exact H) | (have H2_ := (Option.bind_some _ _).symm.trans H; rw [hy349]; with_reducible exact H2_) | (have H2_ := (Option.bind_some _ _).symm.trans H; with_reducible exact H2_) | with_reducible exact H | (rw [hy349]; exact H) | exact H); (have Ny349 := Aside0.mk hy349); clear hy349; (have H' := Aside0.mk H); clear H
                   go_wp2_with (first | ((with_reducible refine gate_builtin (b := .append) (xs := #[.tmp 62, .tmp 64]) rfl ?_); at_builtin; refine Kd.R_append (Kd.int .i64) (w0 := w) w.heap.size rfl (.tmp 62) (.tmp 64) 24 3 (.int .i64 0) 8 rfl Try.underlying24 info3 rfl (by decide) (by omega) u4 x4_1 x7_2 [.int .i64 x7_2] (fun _ => True) (fun _ => False) rfl rfl ?aP (fun _ hk => hk.elim) ?aF ?aO ?aB ?aS ?aL ?_; (case aP => exact rfl); (case aB => exact (by repeat (first | (with_reducible first | exact HB.out | apply below_alloc | apply pw_below_drewN | apply below_drew1 | refine below_set ?_ GE348.out) | exact HB.out))); (case aF => exact (fun _ _ => trivial)); (case aO => exact HO_4.out); (case aS => exact (below_size (by repeat (first | (with_reducible first | exact HB.out | apply below_alloc | apply pw_below_drewN | apply below_drew1 | refine below_set ?_ GE348.out) | exact HB.out)))); (case aL => have := LMc27.out; omega); intro v350 w28 ho hb hg hat; rw [← Ny349.out] at ho; have n0_ := Aside0.mk (blk_grown (g := gb348) (o := .cells #[.int .i64 ((rd_T62 l0 x17_1).f0), .int .i64 ((rd_T62 l0 x17_1).f1), .int .i64 ((rd_T62 l0 x17_1).f2)] 62 (0, 0)) BK348.out hg (Kd.R_ne HO_4.out BK348.out (by decide))); have n1_ := Aside0.mk (hb); have n2_ := Aside0.mk (ho); clear BK348; clear HB; clear HO_4; have BK348 := n0_; have HB := n1_; have HO351 := n2_; clear n0_ n1_ n2_; clear ho hb hg hat))
                   repeat (go_quiet (first | ((with_reducible refine gate_builtin (b := .append) (xs := #[.tmp 62, .tmp 64]) rfl ?_); at_builtin; refine Kd.R_append (Kd.int .i64) (w0 := w) w.heap.size rfl (.tmp 62) (.tmp 64) 24 3 (.int .i64 0) 8 rfl Try.underlying24 info3 rfl (by decide) (by omega) u4 x4_1 x7_2 [.int .i64 x7_2] (fun _ => True) (fun _ => False) rfl rfl ?aP (fun _ hk => hk.elim) ?aF ?aO ?aB ?aS ?aL ?_; (case aP => exact rfl); (case aB => exact (by repeat (first | (with_reducible first | exact HB.out | apply below_alloc | apply pw_below_drewN | apply below_drew1 | refine below_set ?_ GE348.out) | exact HB.out))); (case aF => exact (fun _ _ => trivial)); (case aO => exact HO_4.out); (case aS => exact (below_size (by repeat (first | (with_reducible first | exact HB.out | apply below_alloc | apply pw_below_drewN | apply below_drew1 | refine below_set ?_ GE348.out) | exact HB.out)))); (case aL => have := LMc27.out; omega); intro v350 w28 ho hb hg hat; rw [← Ny349.out] at ho; have n0_ := Aside0.mk (blk_grown (g := gb348) (o := .cells #[.int .i64 ((rd_T62 l0 x17_1).f0), .int .i64 ((rd_T62 l0 x17_1).f1), .int .i64 ((rd_T62 l0 x17_1).f2)] 62 (0, 0)) BK348.out hg (Kd.R_ne HO_4.out BK348.out (by decide))); have n1_ := Aside0.mk (hb); have n2_ := Aside0.mk (ho); clear BK348; clear HB; clear HO_4; have BK348 := n0_; have HB := n1_; have HO351 := n2_; clear n0_ n1_ n2_; clear ho hb hg hat)); try go_wp2_with (first | ((with_reducible refine gate_builtin (b := .append) (xs := #[.tmp 62, .tmp 64]) rfl ?_); at_builtin; refine Kd.R_append (Kd.int .i64) (w0 := w) w.heap.size rfl (.tmp 62) (.tmp 64) 24 3 (.int .i64 0) 8 rfl Try.underlying24 info3 rfl (by decide) (by omega) u4 x4_1 x7_2 [.int .i64 x7_2] (fun _ => True) (fun _ => False) rfl rfl ?aP (fun _ hk => hk.elim) ?aF ?aO ?aB ?aS ?aL ?_; (case aP => exact rfl); (case aB => exact (by repeat (first | (with_reducible first | exact HB.out | apply below_alloc | apply pw_below_drewN | apply below_drew1 | refine below_set ?_ GE348.out) | exact HB.out))); (case aF => exact (fun _ _ => trivial)); (case aO => exact HO_4.out); (case aS => exact (below_size (by repeat (first | (with_reducible first | exact HB.out | apply below_alloc | apply pw_below_drewN | apply below_drew1 | refine below_set ?_ GE348.out) | exact HB.out)))); (case aL => have := LMc27.out; omega); intro v350 w28 ho hb hg hat; rw [← Ny349.out] at ho; have n0_ := Aside0.mk (blk_grown (g := gb348) (o := .cells #[.int .i64 ((rd_T62 l0 x17_1).f0), .int .i64 ((rd_T62 l0 x17_1).f1), .int .i64 ((rd_T62 l0 x17_1).f2)] 62 (0, 0)) BK348.out hg (Kd.R_ne HO_4.out BK348.out (by decide))); have n1_ := Aside0.mk (hb); have n2_ := Aside0.mk (ho); clear BK348; clear HB; clear HO_4; have BK348 := n0_; have HB := n1_; have HO351 := n2_; clear n0_ n1_ n2_; clear ho hb hg hat)))
                   go_roundg kj9
                   case measure => have := HK1.out; have := HK2.out; have := HJ9.out; omega
                   case rel => exact ⟨(y349), (wrap64 (x17_1 + 1)), (by first | rfl | (simp; done) | (simp [*]; done)), H', ⟨by have := HK1.out; have := HK2.out; have := HJ9.out; omega⟩, ⟨by exact HO351.out⟩, ⟨by repeat (first | (with_reducible first | exact HB.out | apply below_alloc | apply pw_below_drewN | apply below_drew1 | refine below_set ?_ GE348.out) | exact HB.out)⟩⟩
                 · rw [if_neg c27] at H
                   exact absurd H (by simp)
         · rw [if_neg c7] at H
           exact absurd H (by simp)
       · rw [if_neg c6] at H
         exact absurd H (by simp)
     · rw [if_neg c5] at H
       (have c5b0 : decide (x17_1 < (l0.length : Int)) = false := decide_eq_false c5); clear c5; (simp only [Option.some.injEq, Prod.mk.injEq] at H); (obtain ⟨rfl, rfl⟩ := H)
       go_wp2
       repeat (go_quiet (fail); try go_wp2)
       go_ret2
       exact ⟨_, by first | rfl | (simp [errW_none, errW_some] <;> rfl) | (simp [*, errW_none, errW_some] <;> rfl), by exact HO_4.out, by repeat (first | (with_reducible first | exact HB.out | apply below_alloc | apply pw_below_drewN | apply below_drew1) | exact HB.out)⟩
 · replace c3 := Bool.eq_false_iff.mpr c3
   subst c3; (have H1 : (some (([] : List Int), false)) = some (r1, r2) := by rw [if_neg (show ¬ (false = true) by decide)] at H; exact H); clear H; have H := H1; clear H1; (simp only [Option.some.injEq, Prod.mk.injEq] at H); (obtain ⟨rfl, rfl⟩ := H)
   go_enter Try.func10, Try.ntmps10
   go_wp2_with (first | (go_at_call 32; (with_reducible refine (impl_GoodChores.calls k _ _ l0 false _ ?side1 ?side2 A2.out).mono ?_); (case side1 => repeat (first | exact HR0.out | (with_reducible refine Kd.C_alloc ?_ _) | (with_reducible refine Kd.C_drewN ?_ _) | (with_reducible refine Kd.C_drew ?_))); (case side2 => exact HC0.out); rintro e w29 ⟨rfl, hb⟩; have n0_ := Aside0.mk (below_step (by repeat (first | (with_reducible first | exact HB.out | apply below_alloc | apply pw_below_drewN | apply below_drew1) | exact HB.out)) hb); clear HB; have HB := n0_; clear n0_; (try clear hb); (try clear hb2); (try clear hk); (try clear hi)))
   repeat (go_quiet (first | (go_at_call 32; (with_reducible refine (impl_GoodChores.calls k _ _ l0 false _ ?side1 ?side2 A2.out).mono ?_); (case side1 => repeat (first | exact HR0.out | (with_reducible refine Kd.C_alloc ?_ _) | (with_reducible refine Kd.C_drewN ?_ _) | (with_reducible refine Kd.C_drew ?_))); (case side2 => exact HC0.out); rintro e w29 ⟨rfl, hb⟩; have n0_ := Aside0.mk (below_step (by repeat (first | (with_reducible first | exact HB.out | apply below_alloc | apply pw_below_drewN | apply below_drew1) | exact HB.out)) hb); clear HB; have HB := n0_; clear n0_; (try clear hb); (try clear hb2); (try clear hk); (try clear hi))); try go_wp2_with (first | (go_at_call 32; (with_reducible refine (impl_GoodChores.calls k _ _ l0 false _ ?side1 ?side2 A2.out).mono ?_); (case side1 => repeat (first | exact HR0.out | (with_reducible refine Kd.C_alloc ?_ _) | (with_reducible refine Kd.C_drewN ?_ _) | (with_reducible refine Kd.C_drew ?_))); (case side2 => exact HC0.out); rintro e w29 ⟨rfl, hb⟩; have n0_ := Aside0.mk (below_step (by repeat (first | (with_reducible first | exact HB.out | apply below_alloc | apply pw_below_drewN | apply below_drew1) | exact HB.out)) hb); clear HB; have HB := n0_; clear n0_; (try clear hb); (try clear hb2); (try clear hk); (try clear hi))))
   go_ret2
   exact ⟨_, by first | rfl | (simp [errW_none, errW_some] <;> rfl) | (simp [*, errW_none, errW_some] <;> rfl), by first | exact Kd.R_nil _ _ _ _ _ | exact Kd.N_nil _ _ _ _ _ | exact Kd.V_nil _ _ _ _ _ | exact Kd.Q_nil _ _ _ _ _ | exact Kd.S_nil _ _ _ _ _, by repeat (first | (with_reducible first | exact HB.out | apply below_alloc | apply pw_below_drewN | apply below_drew1) | exact HB.out)⟩

end Go.Proofs.Ytdbcoojibbboiaa.PFnRanked
