-- Written by this session's own program for the law FnExactTalkAll; it began as the print's text.
import Derived.Test.YtmlejakajcmbdaaQFnExactTalkAllx0
import Derived.Test.YtmlejakajcmbdaaQFnExactTalkAllx5
import Derived.Test.YtmlejakajcmbdaaQFnExactTalkAllx6
import Derived.Test.YtmlejakajcmbdaaQFnExactTalkAllx7
namespace Go.Proofs.Ytmlejakajcmbdaa.PFnExactTalkAll
open Go.RowKit Go.Proofs.YtmlejakajcmbdaaW.PrintWords Go.Proofs.YtmlejakajcmbdaaW.PrintLast Go.Proofs.YtmlejakajcmbdaaW.PrintMore
attribute [local go_sem] max2_int min2_int max_two min_two max_three min_three max_four min_four   -- for this text's walks alone
set_option linter.unusedVariables false
set_option linter.unusedSimpArgs false

/-! ### impl_TalkAll: function 43 -/
mutual
def impl_TalkAll.j0 : Nat → List Int → Int → List Int → List Int → Int → Bool → Option (List Int × Int × Int × Bool × Bool)
  | 0, _, _, _, _, _, _ => none
  | k + 1, x0, x1, x2, x3, x4, x43 => if x43 = true then (some (([] : List Int), 0, 0, false, false)) else (impl_TalkAll.l0 k x0 x1 x2 x3 x4 ([] : List (S54)) (-1) x0 0 0 ([] : List Int) 0 0 false)
def impl_TalkAll.l0 : Nat → List Int → Int → List Int → List Int → Int → List (S54) → Int → List Int → Int → Int → List Int → Int → Int → Bool → Option (List Int × Int × Int × Bool × Bool)
  | 0, _, _, _, _, _, _, _, _, _, _, _, _, _, _ => none
  | k + 1, x0, x1, x2, x3, x4, x14, x15, x227000, x227001, x227002, x228000, x228001, x228002, x228003 => if x228002 < x4 then ((impl_SendNext.f k x227000 (mx x227001 x15) x227002 x1).bind fun bt228 => (if bt228.2.2.2.2.2 = true then (if (x2.length : Int) = 0 then (none) else (if 0 ≤ (Int.tmod x228001 (x2.length : Int)) then (if (Int.tmod x228001 (x2.length : Int)) < (x2.length : Int) then (if (rd x2 (Int.tmod x228001 (x2.length : Int))) = 0 then (if x14.length < 8796093022208 then (impl_TalkAll.j2 k x0 x1 x2 x3 x4 ([] : List (S54)) (-1) (x14 ++ [(⟨bt228.1, bt228.2.1⟩ : S54)]) bt228.2.2.1 bt228.2.2.2.1 bt228.2.2.2.2.1 x228000 x228001 x228002 x228003) else (none)) else (if (rd x2 (Int.tmod x228001 (x2.length : Int))) = 2 then ((some (([(⟨bt228.1, bt228.2.1⟩ : S54), (⟨bt228.1, bt228.2.1⟩ : S54)] : List (S54)) : List (S54))).bind fun y242 => (if x14.length + y242.length < 8796093022208 then (impl_TalkAll.j2 k x0 x1 x2 x3 x4 ([] : List (S54)) (-1) (x14 ++ y242) bt228.2.2.1 bt228.2.2.2.1 bt228.2.2.2.2.1 x228000 x228001 x228002 x228003) else (none))) else (if (rd x2 (Int.tmod x228001 (x2.length : Int))) = 3 then (if ([] : List (S54)).length < 8796093022208 then (impl_TalkAll.j2 k x0 x1 x2 x3 x4 (([] : List (S54)) ++ [(⟨bt228.1, bt228.2.1⟩ : S54)]) (-1) x14 bt228.2.2.1 bt228.2.2.2.1 bt228.2.2.2.2.1 x228000 x228001 x228002 x228003) else (none)) else (impl_TalkAll.j2 k x0 x1 x2 x3 x4 ([] : List (S54)) (-1) x14 bt228.2.2.1 bt228.2.2.2.1 bt228.2.2.2.2.1 x228000 x228001 x228002 x228003)))) else (none)) else (none))) else (some (x228000, x228001, x228002, ((mx (mx x227001 x15) (-1)) == (x0.length : Int)), true)))) else (some (x228000, x228001, x228002, ((mx x227001 x15) == (x0.length : Int)), true))
def impl_TalkAll.j2 : Nat → List Int → Int → List Int → List Int → Int → List (S54) → Int → List (S54) → List Int → Int → Int → List Int → Int → Int → Bool → Option (List Int × Int × Int × Bool × Bool)
  | 0, _, _, _, _, _, _, _, _, _, _, _, _, _, _, _ => none
  | k + 1, x0, x1, x2, x3, x4, x14, x15, x19, x227000, x227001, x227002, x228000, x228001, x228002, x228003 => (impl_TakeParcels.f k x228000 x19).bind fun bt251 => (if (x3.length : Int) = 0 then (none) else (if 0 ≤ (Int.tmod x228002 (x3.length : Int)) then (if (Int.tmod x228002 (x3.length : Int)) < (x3.length : Int) then (if (rd x3 (Int.tmod x228002 (x3.length : Int))) = 0 then (impl_TalkAll.j3 k x0 x1 x2 x3 x4 x14 x15 bt251.2 (rd x3 (Int.tmod x228002 (x3.length : Int))) ((rd x3 (Int.tmod x228002 (x3.length : Int))) == 0) x227000 x227001 x227002 bt251.1 (wrap64 (x228001 + 1)) x228002 x228003) else (impl_TalkAll.j3 k x0 x1 x2 x3 x4 x14 x15 bt251.2 (rd x3 (Int.tmod x228002 (x3.length : Int))) ((rd x3 (Int.tmod x228002 (x3.length : Int))) == 2) x227000 x227001 x227002 bt251.1 (wrap64 (x228001 + 1)) x228002 x228003)) else (none)) else (none)))
def impl_TalkAll.j3 : Nat → List Int → Int → List Int → List Int → Int → List (S54) → Int → Int → Int → Bool → List Int → Int → Int → List Int → Int → Int → Bool → Option (List Int × Int × Int × Bool × Bool)
  | 0, _, _, _, _, _, _, _, _, _, _, _, _, _, _, _, _, _ => none
  | k + 1, x0, x1, x2, x3, x4, x14, x15, x20, x113, x114, x227000, x227001, x227002, x228000, x228001, x228002, x228003 => if x114 = true then (impl_TalkAll.l0 k x0 x1 x2 x3 x4 x14 x15 x227000 (mx x227001 x20) x227002 x228000 x228001 (wrap64 (x228002 + 1)) x228003) else (if x113 = 3 then (impl_TalkAll.l0 k x0 x1 x2 x3 x4 x14 x20 x227000 x227001 x227002 x228000 x228001 (wrap64 (x228002 + 1)) x228003) else (impl_TalkAll.l0 k x0 x1 x2 x3 x4 x14 x15 x227000 x227001 x227002 x228000 x228001 (wrap64 (x228002 + 1)) x228003))
end
def impl_TalkAll.f (k : Nat) (l0 : List Int) (a1 : Int) (l2 : List Int) (l3 : List Int) (a4 : Int) : Option (List Int × Int × Int × Bool × Bool) := if (l0.length : Int) > 30 then (impl_TalkAll.j0 k l0 a1 l2 l3 a4 true) else ((impl_between.f a1 1 10).bind fun t222 => (if t222 = true then ((impl_goodFates.f k l2).bind fun t223 => (if t223 = true then ((impl_goodFates.f k l3).bind fun t224 => (if t224 = true then ((impl_between.f a4 0 400).bind fun t225 => (impl_TalkAll.j0 k l0 a1 l2 l3 a4 (!t225))) else (impl_TalkAll.j0 k l0 a1 l2 l3 a4 true))) else (impl_TalkAll.j0 k l0 a1 l2 l3 a4 true))) else (impl_TalkAll.j0 k l0 a1 l2 l3 a4 true)))
theorem impl_TalkAll.mono_l : ∀ k, (∀ y0 y1 y2 y3 y4 y5, LeO (impl_TalkAll.j0 k y0 y1 y2 y3 y4 y5) (impl_TalkAll.j0 (k + 1) y0 y1 y2 y3 y4 y5)) ∧ (∀ y0 y1 y2 y3 y4 y5 y6 y7 y8 y9 y10 y11 y12 y13, LeO (impl_TalkAll.l0 k y0 y1 y2 y3 y4 y5 y6 y7 y8 y9 y10 y11 y12 y13) (impl_TalkAll.l0 (k + 1) y0 y1 y2 y3 y4 y5 y6 y7 y8 y9 y10 y11 y12 y13)) ∧ (∀ y0 y1 y2 y3 y4 y5 y6 y7 y8 y9 y10 y11 y12 y13 y14, LeO (impl_TalkAll.j2 k y0 y1 y2 y3 y4 y5 y6 y7 y8 y9 y10 y11 y12 y13 y14) (impl_TalkAll.j2 (k + 1) y0 y1 y2 y3 y4 y5 y6 y7 y8 y9 y10 y11 y12 y13 y14)) ∧ (∀ y0 y1 y2 y3 y4 y5 y6 y7 y8 y9 y10 y11 y12 y13 y14 y15 y16, LeO (impl_TalkAll.j3 k y0 y1 y2 y3 y4 y5 y6 y7 y8 y9 y10 y11 y12 y13 y14 y15 y16) (impl_TalkAll.j3 (k + 1) y0 y1 y2 y3 y4 y5 y6 y7 y8 y9 y10 y11 y12 y13 y14 y15 y16))
  | 0 => ⟨fun _ _ _ _ _ _ r h => by simp [impl_TalkAll.j0] at h, fun _ _ _ _ _ _ _ _ _ _ _ _ _ _ r h => by simp [impl_TalkAll.l0] at h, fun _ _ _ _ _ _ _ _ _ _ _ _ _ _ _ r h => by simp [impl_TalkAll.j2] at h, fun _ _ _ _ _ _ _ _ _ _ _ _ _ _ _ _ _ r h => by simp [impl_TalkAll.j3] at h⟩
  | k + 1 => by
    obtain ⟨ih0, ih1, ih2, ih3⟩ := impl_TalkAll.mono_l k
    refine ⟨?_, ?_, ?_, ?_⟩
    · intro y0 y1 y2 y3 y4 y5
      unfold impl_TalkAll.j0
      repeat' first
      | (with_reducible exact ih0 _ _ _ _ _ _)
      | (with_reducible exact ih1 _ _ _ _ _ _ _ _ _ _ _ _ _ _)
      | (with_reducible exact ih2 _ _ _ _ _ _ _ _ _ _ _ _ _ _ _)
      | (with_reducible exact ih3 _ _ _ _ _ _ _ _ _ _ _ _ _ _ _ _ _)
      | (with_reducible exact impl_SendNext.mono _ _ _ _ _)
      | (with_reducible exact impl_TakeParcels.mono _ _ _)
      | (with_reducible exact impl_goodFates.mono _ _)
      | (with_reducible exact LeO.refl _)
      | (with_reducible exact LeO.none _)
      | (with_reducible refine LeO.ite ?_ ?_)
      | (with_reducible refine LeO.bind ?_ (fun _ => ?_))
      | exact ih0 _ _ _ _ _ _
      | exact ih1 _ _ _ _ _ _ _ _ _ _ _ _ _ _
      | exact ih2 _ _ _ _ _ _ _ _ _ _ _ _ _ _ _
      | exact ih3 _ _ _ _ _ _ _ _ _ _ _ _ _ _ _ _ _
      | exact impl_SendNext.mono _ _ _ _ _
      | exact impl_TakeParcels.mono _ _ _
      | exact impl_goodFates.mono _ _
      | exact LeO.none _
      | refine LeO.ite ?_ ?_
      | refine LeO.bind ?_ (fun _ => ?_)
    · intro y0 y1 y2 y3 y4 y5 y6 y7 y8 y9 y10 y11 y12 y13
      unfold impl_TalkAll.l0
      repeat' first
      | (with_reducible exact ih0 _ _ _ _ _ _)
      | (with_reducible exact ih1 _ _ _ _ _ _ _ _ _ _ _ _ _ _)
      | (with_reducible exact ih2 _ _ _ _ _ _ _ _ _ _ _ _ _ _ _)
      | (with_reducible exact ih3 _ _ _ _ _ _ _ _ _ _ _ _ _ _ _ _ _)
      | (with_reducible exact impl_SendNext.mono _ _ _ _ _)
      | (with_reducible exact impl_TakeParcels.mono _ _ _)
      | (with_reducible exact impl_goodFates.mono _ _)
      | (with_reducible exact LeO.refl _)
      | (with_reducible exact LeO.none _)
      | (with_reducible refine LeO.ite ?_ ?_)
      | (with_reducible refine LeO.bind ?_ (fun _ => ?_))
      | exact ih0 _ _ _ _ _ _
      | exact ih1 _ _ _ _ _ _ _ _ _ _ _ _ _ _
      | exact ih2 _ _ _ _ _ _ _ _ _ _ _ _ _ _ _
      | exact ih3 _ _ _ _ _ _ _ _ _ _ _ _ _ _ _ _ _
      | exact impl_SendNext.mono _ _ _ _ _
      | exact impl_TakeParcels.mono _ _ _
      | exact impl_goodFates.mono _ _
      | exact LeO.none _
      | refine LeO.ite ?_ ?_
      | refine LeO.bind ?_ (fun _ => ?_)
    · intro y0 y1 y2 y3 y4 y5 y6 y7 y8 y9 y10 y11 y12 y13 y14
      unfold impl_TalkAll.j2
      repeat' first
      | (with_reducible exact ih0 _ _ _ _ _ _)
      | (with_reducible exact ih1 _ _ _ _ _ _ _ _ _ _ _ _ _ _)
      | (with_reducible exact ih2 _ _ _ _ _ _ _ _ _ _ _ _ _ _ _)
      | (with_reducible exact ih3 _ _ _ _ _ _ _ _ _ _ _ _ _ _ _ _ _)
      | (with_reducible exact impl_SendNext.mono _ _ _ _ _)
      | (with_reducible exact impl_TakeParcels.mono _ _ _)
      | (with_reducible exact impl_goodFates.mono _ _)
      | (with_reducible exact LeO.refl _)
      | (with_reducible exact LeO.none _)
      | (with_reducible refine LeO.ite ?_ ?_)
      | (with_reducible refine LeO.bind ?_ (fun _ => ?_))
      | exact ih0 _ _ _ _ _ _
      | exact ih1 _ _ _ _ _ _ _ _ _ _ _ _ _ _
      | exact ih2 _ _ _ _ _ _ _ _ _ _ _ _ _ _ _
      | exact ih3 _ _ _ _ _ _ _ _ _ _ _ _ _ _ _ _ _
      | exact impl_SendNext.mono _ _ _ _ _
      | exact impl_TakeParcels.mono _ _ _
      | exact impl_goodFates.mono _ _
      | exact LeO.none _
      | refine LeO.ite ?_ ?_
      | refine LeO.bind ?_ (fun _ => ?_)
    · intro y0 y1 y2 y3 y4 y5 y6 y7 y8 y9 y10 y11 y12 y13 y14 y15 y16
      unfold impl_TalkAll.j3
      repeat' first
      | (with_reducible exact ih0 _ _ _ _ _ _)
      | (with_reducible exact ih1 _ _ _ _ _ _ _ _ _ _ _ _ _ _)
      | (with_reducible exact ih2 _ _ _ _ _ _ _ _ _ _ _ _ _ _ _)
      | (with_reducible exact ih3 _ _ _ _ _ _ _ _ _ _ _ _ _ _ _ _ _)
      | (with_reducible exact impl_SendNext.mono _ _ _ _ _)
      | (with_reducible exact impl_TakeParcels.mono _ _ _)
      | (with_reducible exact impl_goodFates.mono _ _)
      | (with_reducible exact LeO.refl _)
      | (with_reducible exact LeO.none _)
      | (with_reducible refine LeO.ite ?_ ?_)
      | (with_reducible refine LeO.bind ?_ (fun _ => ?_))
      | exact ih0 _ _ _ _ _ _
      | exact ih1 _ _ _ _ _ _ _ _ _ _ _ _ _ _
      | exact ih2 _ _ _ _ _ _ _ _ _ _ _ _ _ _ _
      | exact ih3 _ _ _ _ _ _ _ _ _ _ _ _ _ _ _ _ _
      | exact impl_SendNext.mono _ _ _ _ _
      | exact impl_TakeParcels.mono _ _ _
      | exact impl_goodFates.mono _ _
      | exact LeO.none _
      | refine LeO.ite ?_ ?_
      | refine LeO.bind ?_ (fun _ => ?_)
theorem impl_TalkAll.mono : ∀ a0 a1 a2 a3 a4 k, LeO (impl_TalkAll.f k a0 a1 a2 a3 a4) (impl_TalkAll.f (k + 1) a0 a1 a2 a3 a4) := by
  intro a0 a1 a2 a3 a4 k
  obtain ⟨ih0, ih1, ih2, ih3⟩ := impl_TalkAll.mono_l k
  unfold impl_TalkAll.f
  repeat' first
      | (with_reducible exact ih0 _ _ _ _ _ _)
      | (with_reducible exact ih1 _ _ _ _ _ _ _ _ _ _ _ _ _ _)
      | (with_reducible exact ih2 _ _ _ _ _ _ _ _ _ _ _ _ _ _ _)
      | (with_reducible exact ih3 _ _ _ _ _ _ _ _ _ _ _ _ _ _ _ _ _)
      | (with_reducible exact impl_SendNext.mono _ _ _ _ _)
      | (with_reducible exact impl_TakeParcels.mono _ _ _)
      | (with_reducible exact impl_goodFates.mono _ _)
      | (with_reducible exact LeO.refl _)
      | (with_reducible exact LeO.none _)
      | (with_reducible refine LeO.ite ?_ ?_)
      | (with_reducible refine LeO.bind ?_ (fun _ => ?_))
      | exact ih0 _ _ _ _ _ _
      | exact ih1 _ _ _ _ _ _ _ _ _ _ _ _ _ _
      | exact ih2 _ _ _ _ _ _ _ _ _ _ _ _ _ _ _
      | exact ih3 _ _ _ _ _ _ _ _ _ _ _ _ _ _ _ _ _
      | exact impl_SendNext.mono _ _ _ _ _
      | exact impl_TakeParcels.mono _ _ _
      | exact impl_goodFates.mono _ _
      | exact LeO.none _
      | refine LeO.ite ?_ ?_
      | refine LeO.bind ?_ (fun _ => ?_)
set_option maxHeartbeats 8000000 in
set_option maxRecDepth 100000 in
theorem impl_TalkAll.calls (k : Nat) (P0_ : Nat → Prop) (A0 : Option Addr) (c0 : Nat) (l0 : List Int) (a1 : Int) (A2 : Option Addr) (c2 : Nat) (l2 : List Int) (A3 : Option Addr) (c3 : Nat) (l3 : List Int) (a4 : Int) (r1 : List Int) (r2 : Int) (r3 : Int) (r4 : Bool) (r5 : Bool) (w : World) (hs0 : Kd.V (Kd.int .i64) 3 w w.heap.size (fun k_ => P0_ k_) (.slice A0 l0.length c0) l0) (hr2 : Kd.C (Kd.int .i64) w A2 l2.length l2) (hc2 : l2.length ≤ c2) (hr3 : Kd.C (Kd.int .i64) w A3 l3.length l3) (hc3 : l3.length ≤ c3) (h : impl_TalkAll.f k l0 a1 l2 l3 a4 = some (r1, r2, r3, r4, r5)) :
    Calls Try.prog 43 #[.slice A0 l0.length c0, .int .i64 a1, .slice A2 l2.length c2, .slice A3 l3.length c3, .int .i64 a4] w fun e w' => ∃ v0_ : Value, e = .returned (.tuple #[.agg #[v0_, .int .i64 r2, .int .i64 r3, .bool r4], .bool r5]) ∧ Kd.R (Kd.int .i64) 3 w' w.heap.size (fun k_ => (w.heap.size ≤ k_)) v0_ r1 ∧ Below w.heap.size w w' := by
  have hu69 := Try.underlying69
  have hu55 := Try.underlying55
  have hu54 := Try.underlying54
  have HO0 := Aside0.mk (show Kd.V (Kd.int .i64) 3 w w.heap.size (fun k_ => (P0_ k_ ∨ w.heap.size ≤ k_)) (.slice A0 l0.length c0) l0 from Kd.V_mono hs0 (fun k_ hk => .inl hk))
  have HR2 := Aside0.mk hr2
  have HC2 := Aside0.mk hc2
  clear hr2 hc2
  have HR3 := Aside0.mk hr3
  have HC3 := Aside0.mk hc3
  clear hr3 hc3
  have HB := Aside0.mk (Below.refl w.heap.size w)
  have H : (if (l0.length : Int) > 30 then (impl_TalkAll.j0 k l0 a1 l2 l3 a4 true) else ((impl_between.f a1 1 10).bind fun t222 => (if t222 = true then ((impl_goodFates.f k l2).bind fun t223 => (if t223 = true then ((impl_goodFates.f k l3).bind fun t224 => (if t224 = true then ((impl_between.f a4 0 400).bind fun t225 => (impl_TalkAll.j0 k l0 a1 l2 l3 a4 (!t225))) else (impl_TalkAll.j0 k l0 a1 l2 l3 a4 true))) else (impl_TalkAll.j0 k l0 a1 l2 l3 a4 true))) else (impl_TalkAll.j0 k l0 a1 l2 l3 a4 true)))) = some (r1, r2, r3, r4, r5) := h
  clear h
  have HC6 := Aside0.mk H
  clear H
  go_enter Try.func43, Try.ntmps43
  go_upto_region 1 with (first | ((with_reducible refine gate_dst (N := 10) rfl ?_); refine box_event ?hg (N := 10) ?hd (cs := #[.slice none 0 0, .int .i64 0, .int .i64 0, .bool false]) (t := 69) ?hr ?_; (case hd => rfl); (case hg => rfl); (case hr => first | (go_simp; done) | (go_simp; rfl)); intro gb221 hg w7 hbox hb; have n0_ := Aside0.mk (Kd.V_below (Kd.V_elderB (by (with_reducible repeat (first | apply Kd.V_alloc | apply Kd.V_drewN | apply Kd.V_drew)); exact HO0.out) gb221 (Nat.le_of_eq hg.symm)) hb); have n1_ := Aside0.mk (below_step (by repeat (first | (with_reducible first | exact HB.out | apply below_alloc | apply pw_below_drewN | apply below_drew1) | exact HB.out)) hb); have n2_ := Aside0.mk (hbox); have n3_ := Aside0.mk ((by rw [hg]; exact (below_size (by repeat (first | (with_reducible first | exact HB.out | apply below_alloc | apply pw_below_drewN | apply below_drew1) | exact HB.out))) : w.heap.size ≤ gb221)); have n4_ := Aside0.mk ((by rw [hg]; exact (below_size (by repeat (first | (with_reducible first | exact HB.out | apply below_alloc | apply pw_below_drewN | apply below_drew1) | exact HB.out))) : w.heap.size ≤ gb221)); clear HO0; clear HB; have HO0 := n0_; have HB := n1_; have BK221 := n2_; have GW221 := n3_; have GE221 := n4_; clear n0_ n1_ n2_ n3_ n4_; clear hb hbox hg))
  (try simp only [Act.put, List.setIfInBounds_toArray, List.set_cons_zero, List.set_cons_succ])
  go_cut [43] (fun v43 wc => ∃ (kq : Nat) (x43_5 : Bool), v43 = .bool x43_5 ∧ Aside0 (impl_TalkAll.j0 kq l0 a1 l2 l3 a4 x43_5 = some (r1, r2, r3, r4, r5)) ∧ Aside0 (kq ≤ k) ∧ Aside0 (Kd.V (Kd.int .i64) 3 wc w.heap.size (fun k_ => (P0_ k_ ∨ w.heap.size ≤ k_) ∧ k_ ≠ gb221) (.slice A0 l0.length c0) l0) ∧ Aside0 (wc.heap[gb221]? = some (.cells #[(.slice none 0 0), .int .i64 0, .int .i64 0, .bool false] 69 (0, 0))) ∧ Aside0 (Below w.heap.size w wc))
  case first =>
    have H := HC6.out
    clear HC6
    by_cases c8 : (l0.length : Int) > 30
    · rw [if_pos c8] at H
      have c8b0 : decide (30 < (l0.length : Int)) = true := decide_eq_true c8
      have c8b1 : decide (30 < l0.length) = true := decide_eq_true (by omega)
      clear c8
      (first | rw [c8b0] | (simp only [i64_w, i32_w]; rw [c8b0]) | skip)
      have H' := Aside0.mk H
      clear H
      go_wp2
      go_meet
      case rel => exact ⟨_, (true), (by first | rfl | (simp; done) | (simp [*]; done)), H', ⟨by first | omega | exact Nat.le_refl _⟩, ⟨by (with_reducible repeat (first | apply Kd.V_alloc | apply Kd.V_drewN | apply Kd.V_drew)); exact HO0.out⟩, ⟨by exact BK221.out⟩, ⟨by repeat (first | (with_reducible first | exact HB.out | apply below_alloc | apply pw_below_drewN | apply below_drew1 | refine below_set ?_ GE221.out) | exact HB.out)⟩⟩
    · rw [if_neg c8] at H
      have c8b0 : decide (30 < (l0.length : Int)) = false := decide_eq_false c8
      have c8b1 : decide (30 < l0.length) = false := decide_eq_false (by omega)
      clear c8
      (first | rw [c8b0] | (simp only [i64_w, i32_w]; rw [c8b0]) | skip)
      replace H := Option.bind_eq_some_iff.mp H
      obtain ⟨t222, A90, H⟩ := H
      replace H : (if t222 = true then ((impl_goodFates.f k l2).bind fun t223 => (if t223 = true then ((impl_goodFates.f k l3).bind fun t224 => (if t224 = true then ((impl_between.f a4 0 400).bind fun t225 => (impl_TalkAll.j0 k l0 a1 l2 l3 a4 (!t225))) else (impl_TalkAll.j0 k l0 a1 l2 l3 a4 true))) else (impl_TalkAll.j0 k l0 a1 l2 l3 a4 true))) else (impl_TalkAll.j0 k l0 a1 l2 l3 a4 true)) = some (r1, r2, r3, r4, r5) := H
      have A9 := Aside0.mk A90
      clear A90
      by_cases c10 : t222 = true
      · subst c10
        have H1 : ((impl_goodFates.f k l2).bind fun t223 => (if t223 = true then ((impl_goodFates.f k l3).bind fun t224 => (if t224 = true then ((impl_between.f a4 0 400).bind fun t225 => (impl_TalkAll.j0 k l0 a1 l2 l3 a4 (!t225))) else (impl_TalkAll.j0 k l0 a1 l2 l3 a4 true))) else (impl_TalkAll.j0 k l0 a1 l2 l3 a4 true))) = some (r1, r2, r3, r4, r5) := by rw [if_pos rfl] at H; exact H
        clear H
        have H := H1
        clear H1
        replace H := Option.bind_eq_some_iff.mp H
        obtain ⟨t223, A110, H⟩ := H
        replace H : (if t223 = true then ((impl_goodFates.f k l3).bind fun t224 => (if t224 = true then ((impl_between.f a4 0 400).bind fun t225 => (impl_TalkAll.j0 k l0 a1 l2 l3 a4 (!t225))) else (impl_TalkAll.j0 k l0 a1 l2 l3 a4 true))) else (impl_TalkAll.j0 k l0 a1 l2 l3 a4 true)) = some (r1, r2, r3, r4, r5) := H
        have A11 := Aside0.mk A110
        clear A110
        by_cases c12 : t223 = true
        · subst c12
          have H1 : ((impl_goodFates.f k l3).bind fun t224 => (if t224 = true then ((impl_between.f a4 0 400).bind fun t225 => (impl_TalkAll.j0 k l0 a1 l2 l3 a4 (!t225))) else (impl_TalkAll.j0 k l0 a1 l2 l3 a4 true))) = some (r1, r2, r3, r4, r5) := by rw [if_pos rfl] at H; exact H
          clear H
          have H := H1
          clear H1
          replace H := Option.bind_eq_some_iff.mp H
          obtain ⟨t224, A130, H⟩ := H
          replace H : (if t224 = true then ((impl_between.f a4 0 400).bind fun t225 => (impl_TalkAll.j0 k l0 a1 l2 l3 a4 (!t225))) else (impl_TalkAll.j0 k l0 a1 l2 l3 a4 true)) = some (r1, r2, r3, r4, r5) := H
          have A13 := Aside0.mk A130
          clear A130
          by_cases c14 : t224 = true
          · subst c14
            have H1 : ((impl_between.f a4 0 400).bind fun t225 => (impl_TalkAll.j0 k l0 a1 l2 l3 a4 (!t225))) = some (r1, r2, r3, r4, r5) := by rw [if_pos rfl] at H; exact H
            clear H
            have H := H1
            clear H1
            replace H := Option.bind_eq_some_iff.mp H
            obtain ⟨t225, A150, H⟩ := H
            replace H : (impl_TalkAll.j0 k l0 a1 l2 l3 a4 (!t225)) = some (r1, r2, r3, r4, r5) := H
            have A15 := Aside0.mk A150
            clear A150
            have H' := Aside0.mk H
            clear H
            go_wp2_with (first | (go_at_call 48; (with_reducible refine (impl_between.calls a1 1 10 true _ A9.out).mono ?_); rintro e w' ⟨rfl, ⟨nd, rfl⟩⟩) | (go_at_call 63; (with_reducible refine (impl_goodFates.calls k _ _ l2 true _ ?side1 ?side2 A11.out).mono ?_); (case side1 => repeat (first | exact (Kd.C_below HR2.out (by repeat (first | (with_reducible first | exact HB.out | apply below_alloc | apply pw_below_drewN | apply below_drew1 | refine below_set ?_ GE221.out) | exact HB.out))) | (with_reducible refine Kd.C_alloc ?_ _) | (with_reducible refine Kd.C_drewN ?_ _) | (with_reducible refine Kd.C_drew ?_))); (case side2 => exact HC2.out); rintro e w' ⟨rfl, ⟨nd, rfl⟩⟩) | (go_at_call 63; (with_reducible refine (impl_goodFates.calls k _ _ l3 true _ ?side1 ?side2 A13.out).mono ?_); (case side1 => repeat (first | exact (Kd.C_below HR3.out (by repeat (first | (with_reducible first | exact HB.out | apply below_alloc | apply pw_below_drewN | apply below_drew1 | refine below_set ?_ GE221.out) | exact HB.out))) | (with_reducible refine Kd.C_alloc ?_ _) | (with_reducible refine Kd.C_drewN ?_ _) | (with_reducible refine Kd.C_drew ?_))); (case side2 => exact HC3.out); rintro e w' ⟨rfl, ⟨nd, rfl⟩⟩) | (go_at_call 48; (with_reducible refine (impl_between.calls a4 0 400 t225 _ A15.out).mono ?_); rintro e w' ⟨rfl, ⟨nd, rfl⟩⟩))
            go_meet
            case rel => exact ⟨_, (!t225), (by first | rfl | (simp; done) | (simp [*]; done)), H', ⟨by first | omega | exact Nat.le_refl _⟩, ⟨by (with_reducible repeat (first | apply Kd.V_alloc | apply Kd.V_drewN | apply Kd.V_drew)); exact HO0.out⟩, ⟨by exact BK221.out⟩, ⟨by repeat (first | (with_reducible first | exact HB.out | apply below_alloc | apply pw_below_drewN | apply below_drew1 | refine below_set ?_ GE221.out) | exact HB.out)⟩⟩
          · replace c14 := Bool.eq_false_iff.mpr c14
            subst c14
            have H1 : (impl_TalkAll.j0 k l0 a1 l2 l3 a4 true) = some (r1, r2, r3, r4, r5) := by rw [if_neg (show ¬ (false = true) by decide)] at H; exact H
            clear H
            have H := H1
            clear H1
            have H' := Aside0.mk H
            clear H
            go_wp2_with (first | (go_at_call 48; (with_reducible refine (impl_between.calls a1 1 10 true _ A9.out).mono ?_); rintro e w' ⟨rfl, ⟨nd, rfl⟩⟩) | (go_at_call 63; (with_reducible refine (impl_goodFates.calls k _ _ l2 true _ ?side1 ?side2 A11.out).mono ?_); (case side1 => repeat (first | exact (Kd.C_below HR2.out (by repeat (first | (with_reducible first | exact HB.out | apply below_alloc | apply pw_below_drewN | apply below_drew1 | refine below_set ?_ GE221.out) | exact HB.out))) | (with_reducible refine Kd.C_alloc ?_ _) | (with_reducible refine Kd.C_drewN ?_ _) | (with_reducible refine Kd.C_drew ?_))); (case side2 => exact HC2.out); rintro e w' ⟨rfl, ⟨nd, rfl⟩⟩) | (go_at_call 63; (with_reducible refine (impl_goodFates.calls k _ _ l3 false _ ?side1 ?side2 A13.out).mono ?_); (case side1 => repeat (first | exact (Kd.C_below HR3.out (by repeat (first | (with_reducible first | exact HB.out | apply below_alloc | apply pw_below_drewN | apply below_drew1 | refine below_set ?_ GE221.out) | exact HB.out))) | (with_reducible refine Kd.C_alloc ?_ _) | (with_reducible refine Kd.C_drewN ?_ _) | (with_reducible refine Kd.C_drew ?_))); (case side2 => exact HC3.out); rintro e w' ⟨rfl, ⟨nd, rfl⟩⟩))
            go_meet
            case rel => exact ⟨_, (true), (by first | rfl | (simp; done) | (simp [*]; done)), H', ⟨by first | omega | exact Nat.le_refl _⟩, ⟨by (with_reducible repeat (first | apply Kd.V_alloc | apply Kd.V_drewN | apply Kd.V_drew)); exact HO0.out⟩, ⟨by exact BK221.out⟩, ⟨by repeat (first | (with_reducible first | exact HB.out | apply below_alloc | apply pw_below_drewN | apply below_drew1 | refine below_set ?_ GE221.out) | exact HB.out)⟩⟩
        · replace c12 := Bool.eq_false_iff.mpr c12
          subst c12
          have H1 : (impl_TalkAll.j0 k l0 a1 l2 l3 a4 true) = some (r1, r2, r3, r4, r5) := by rw [if_neg (show ¬ (false = true) by decide)] at H; exact H
          clear H
          have H := H1
          clear H1
          have H' := Aside0.mk H
          clear H
          go_wp2_with (first | (go_at_call 48; (with_reducible refine (impl_between.calls a1 1 10 true _ A9.out).mono ?_); rintro e w' ⟨rfl, ⟨nd, rfl⟩⟩) | (go_at_call 63; (with_reducible refine (impl_goodFates.calls k _ _ l2 false _ ?side1 ?side2 A11.out).mono ?_); (case side1 => repeat (first | exact (Kd.C_below HR2.out (by repeat (first | (with_reducible first | exact HB.out | apply below_alloc | apply pw_below_drewN | apply below_drew1 | refine below_set ?_ GE221.out) | exact HB.out))) | (with_reducible refine Kd.C_alloc ?_ _) | (with_reducible refine Kd.C_drewN ?_ _) | (with_reducible refine Kd.C_drew ?_))); (case side2 => exact HC2.out); rintro e w' ⟨rfl, ⟨nd, rfl⟩⟩))
          go_meet
          case rel => exact ⟨_, (true), (by first | rfl | (simp; done) | (simp [*]; done)), H', ⟨by first | omega | exact Nat.le_refl _⟩, ⟨by (with_reducible repeat (first | apply Kd.V_alloc | apply Kd.V_drewN | apply Kd.V_drew)); exact HO0.out⟩, ⟨by exact BK221.out⟩, ⟨by repeat (first | (with_reducible first | exact HB.out | apply below_alloc | apply pw_below_drewN | apply below_drew1 | refine below_set ?_ GE221.out) | exact HB.out)⟩⟩
      · replace c10 := Bool.eq_false_iff.mpr c10
        subst c10
        have H1 : (impl_TalkAll.j0 k l0 a1 l2 l3 a4 true) = some (r1, r2, r3, r4, r5) := by rw [if_neg (show ¬ (false = true) by decide)] at H; exact H
        clear H
        have H := H1
        clear H1
        have H' := Aside0.mk H
        clear H
        go_wp2_with (first | (go_at_call 48; (with_reducible refine (impl_between.calls a1 1 10 false _ A9.out).mono ?_); rintro e w' ⟨rfl, ⟨nd, rfl⟩⟩))
        go_meet
        case rel => exact ⟨_, (true), (by first | rfl | (simp; done) | (simp [*]; done)), H', ⟨by first | omega | exact Nat.le_refl _⟩, ⟨by (with_reducible repeat (first | apply Kd.V_alloc | apply Kd.V_drewN | apply Kd.V_drew)); exact HO0.out⟩, ⟨by exact BK221.out⟩, ⟨by repeat (first | (with_reducible first | exact HB.out | apply below_alloc | apply pw_below_drewN | apply below_drew1 | refine below_set ?_ GE221.out) | exact HB.out)⟩⟩
  case rest =>
    clear HC6
    try clear c1
    try clear c2
    try clear p2
    try clear c3
    try clear c4
    try clear c8
    try clear c8b0
    try clear c8b1
    try clear c10
    try clear c12
    try clear c14
    obtain ⟨kq, x43_5, rfl, HA, HJ5, HO_0, BK221, HB⟩ := hcut
    cases kq with
    | zero => exact absurd HA.out (by simp [impl_TalkAll.j0])
    | succ kj5 =>
      have H := HA.out
      clear HA
      simp only [impl_TalkAll.j0] at H
      by_cases c16 : x43_5 = true
      · subst c16
        have H1 : (some (([] : List Int), 0, 0, false, false)) = some (r1, r2, r3, r4, r5) := by rw [if_pos rfl] at H; exact H
        clear H
        have H := H1
        clear H1
        simp only [Option.some.injEq, Prod.mk.injEq] at H
        obtain ⟨rfl, rfl, rfl, rfl, rfl⟩ := H
        have hcz17_0 : wc.cell? ⟨gb221, 0, none⟩ = some (.slice none 0 0) := (blk_cell BK221.out 0).trans rfl
        have hcz17_1 : wc.cell? ⟨gb221, 1, none⟩ = some (.int .i64 0) := (blk_cell BK221.out 1).trans rfl
        have hcz17_2 : wc.cell? ⟨gb221, 2, none⟩ = some (.int .i64 0) := (blk_cell BK221.out 2).trans rfl
        have hcz17_3 : wc.cell? ⟨gb221, 3, none⟩ = some (.bool false) := (blk_cell BK221.out 3).trans rfl
        have hfz17_0 := blk_frozen BK221.out 0
        have hfz17_1 := blk_frozen BK221.out 1
        have hfz17_2 := blk_frozen BK221.out 2
        have hfz17_3 := blk_frozen BK221.out 3
        go_wp2
        refine bodyPost_ret (results_ct rfl _ _ gb221 69 #[.slice none 0 0, .int .i64 0, .int .i64 0, .bool false] (0, 0) _ rfl (by refine blk_put (cs := #[.slice none 0 0, .int .i64 0, .int .i64 0, .bool false]) ?_ 3 _ rfl; refine blk_put (cs := #[.slice none 0 0, .int .i64 0, .int .i64 0, .bool false]) ?_ 2 _ rfl; refine blk_put (cs := #[.slice none 0 0, .int .i64 0, .int .i64 0, .bool false]) ?_ 1 _ rfl; refine blk_put (cs := #[.slice none 0 0, .int .i64 0, .int .i64 0, .bool false]) ?_ 0 _ rfl; exact BK221.out) Try.underlying69 rfl (by kernel_rfl)) rfl ?_
        exact ⟨_, by first | rfl | (simp [errW_none, errW_some] <;> rfl) | (simp [*, errW_none, errW_some] <;> rfl), by first | exact Kd.R_nil _ _ _ _ _ | exact Kd.N_nil _ _ _ _ _ | exact Kd.V_nil _ _ _ _ _ | exact Kd.Q_nil _ _ _ _ _ | exact Kd.S_nil _ _ _ _ _, by repeat (first | (with_reducible first | exact HB.out | apply below_alloc | apply pw_below_drewN | apply below_drew1 | refine below_set ?_ GE221.out) | exact HB.out)⟩
      · replace c16 := Bool.eq_false_iff.mpr c16
        subst c16
        have H1 : (impl_TalkAll.l0 kj5 l0 a1 l2 l3 a4 ([] : List (S54)) (-1) l0 0 0 ([] : List Int) 0 0 false) = some (r1, r2, r3, r4, r5) := by rw [if_neg (show ¬ (false = true) by decide)] at H; exact H
        clear H
        have H := H1
        clear H1
        have H' := Aside0.mk H
        clear H
        go_wp2_with (first | ((with_reducible refine gate_dst (N := 12) rfl ?_); refine box_event ?hg (N := 12) ?hd (cs := #[.slice none 0 0, .int .i64 0, .int .i64 0]) (t := 55) ?hr ?_; (case hd => rfl); (case hg => rfl); (case hr => first | (go_simp; done) | (go_simp; rfl)); intro gb226 hg w18 hbox hb; have n0_ := Aside0.mk (Kd.V_below (Kd.V_elderB (by (with_reducible repeat (first | apply Kd.V_alloc | apply Kd.V_drewN | apply Kd.V_drew)); exact HO_0.out) gb226 (Nat.le_of_eq hg.symm)) hb); have n1_ := Aside0.mk (blk_below (g := gb221) (o := .cells #[.slice none 0 0, .int .i64 0, .int .i64 0, .bool false] 69 (0, 0)) BK221.out hb); have n2_ := Aside0.mk (below_step (by repeat (first | (with_reducible first | exact HB.out | apply below_alloc | apply pw_below_drewN | apply below_drew1 | refine below_set ?_ GE221.out) | exact HB.out)) hb); have n3_ := Aside0.mk (hbox); have n4_ := Aside0.mk ((by rw [hg]; exact (below_size (by repeat (first | (with_reducible first | exact HB.out | apply below_alloc | apply pw_below_drewN | apply below_drew1 | refine below_set ?_ GE221.out) | exact HB.out))) : w.heap.size ≤ gb226)); have n5_ := Aside0.mk ((by rw [hg]; exact (below_size (by repeat (first | (with_reducible first | exact HB.out | apply below_alloc | apply pw_below_drewN | apply below_drew1 | refine below_set ?_ GE221.out) | exact HB.out))) : w.heap.size ≤ gb226)); have n6_ := Aside0.mk ((by rw [hg]; exact Nat.ne_of_lt (blk_lt (g := gb221) (o := .cells #[.slice none 0 0, .int .i64 0, .int .i64 0, .bool false] 69 (0, 0)) BK221.out) : gb221 ≠ gb226)); have n7_ := Aside0.mk ((by rw [hg]; exact Nat.ne_of_gt (blk_lt (g := gb221) (o := .cells #[.slice none 0 0, .int .i64 0, .int .i64 0, .bool false] 69 (0, 0)) BK221.out) : gb226 ≠ gb221)); clear HO_0; clear BK221; clear HB; have HO_0 := n0_; have BK221 := n1_; have HB := n2_; have BK226 := n3_; have GW226 := n4_; have GE226 := n5_; have NB221_226 := n6_; have NB226_221 := n7_; clear n0_ n1_ n2_ n3_ n4_ n5_ n6_ n7_; clear hb hbox hg; have hnb19 := NB226_221.out; have hnc19 := NB221_226.out; have hcz20_0 : w18.cell? ⟨gb226, 0, none⟩ = some (.slice none 0 0) := (blk_cell BK226.out 0).trans rfl; have hcz20_1 : w18.cell? ⟨gb226, 1, none⟩ = some (.int .i64 0) := (blk_cell BK226.out 1).trans rfl; have hcz20_2 : w18.cell? ⟨gb226, 2, none⟩ = some (.int .i64 0) := (blk_cell BK226.out 2).trans rfl; have hfz20_0 := blk_frozen BK226.out 0; have hfz20_1 := blk_frozen BK226.out 1; have hfz20_2 := blk_frozen BK226.out 2) | ((with_reducible refine gate_dst (N := 13) rfl ?_); refine box_event ?hg (N := 13) ?hd (cs := #[.slice none 0 0, .int .i64 0, .int .i64 0, .bool false]) (t := 69) ?hr ?_; (case hd => rfl); (case hg => rfl); (case hr => first | (go_simp; done) | (go_simp; rfl)); intro gb227 hg w21 hbox hb; have n0_ := Aside0.mk (Kd.V_below (Kd.V_elderB (by (with_reducible repeat (first | apply Kd.V_alloc | apply Kd.V_drewN | apply Kd.V_drew)); exact (Kd.V_mono (Kd.V_far (p := ⟨gb226, 2, none⟩) (Kd.V_far (p := ⟨gb226, 1, none⟩) (Kd.V_far (p := ⟨gb226, 0, none⟩) (Kd.V_mono HO_0.out (fun k_ hk => (⟨hk, hk.2⟩ : _ ∧ k_ ≠ gb226))) (fun _ hk => hk.2) (.slice A0 l0.length c0)) (fun _ hk => hk.2) (.int .i64 0)) (fun _ hk => hk.2) (.int .i64 0)) (fun _ h_ => h_.1))) gb227 (Nat.le_of_eq hg.symm)) hb); have n1_ := Aside0.mk (blk_below (g := gb221) (o := .cells #[.slice none 0 0, .int .i64 0, .int .i64 0, .bool false] 69 (0, 0)) (by refine blk_far ?_ NB221_226.out _; refine blk_far ?_ NB221_226.out _; refine blk_far ?_ NB221_226.out _; exact BK221.out) hb); have n2_ := Aside0.mk (blk_below (g := gb226) (o := .cells #[.slice A0 l0.length c0, .int .i64 0, .int .i64 0] 55 (0, 0)) (by refine blk_put (cs := #[.slice A0 l0.length c0, .int .i64 0, .int .i64 0]) ?_ 2 _ rfl; refine blk_put (cs := #[.slice A0 l0.length c0, .int .i64 0, .int .i64 0]) ?_ 1 _ rfl; refine blk_put (cs := #[.slice none 0 0, .int .i64 0, .int .i64 0]) ?_ 0 _ rfl; exact BK226.out) hb); have n3_ := Aside0.mk (below_step (by repeat (first | (with_reducible first | exact HB.out | apply below_alloc | apply pw_below_drewN | apply below_drew1 | refine below_set ?_ GE221.out | refine below_set ?_ GE226.out) | exact HB.out)) hb); have n4_ := Aside0.mk (hbox); have n5_ := Aside0.mk ((by rw [hg]; exact (below_size (by repeat (first | (with_reducible first | exact HB.out | apply below_alloc | apply pw_below_drewN | apply below_drew1 | refine below_set ?_ GE221.out | refine below_set ?_ GE226.out) | exact HB.out))) : w.heap.size ≤ gb227)); have n6_ := Aside0.mk ((by rw [hg]; exact (below_size (by repeat (first | (with_reducible first | exact HB.out | apply below_alloc | apply pw_below_drewN | apply below_drew1 | refine below_set ?_ GE221.out | refine below_set ?_ GE226.out) | exact HB.out))) : w.heap.size ≤ gb227)); have n7_ := Aside0.mk ((by rw [hg]; exact Nat.ne_of_lt (blk_lt (g := gb221) (o := .cells #[.slice none 0 0, .int .i64 0, .int .i64 0, .bool false] 69 (0, 0)) (by refine blk_far ?_ NB221_226.out _; refine blk_far ?_ NB221_226.out _; refine blk_far ?_ NB221_226.out _; exact BK221.out)) : gb221 ≠ gb227)); have n8_ := Aside0.mk ((by rw [hg]; exact Nat.ne_of_gt (blk_lt (g := gb221) (o := .cells #[.slice none 0 0, .int .i64 0, .int .i64 0, .bool false] 69 (0, 0)) (by refine blk_far ?_ NB221_226.out _; refine blk_far ?_ NB221_226.out _; refine blk_far ?_ NB221_226.out _; exact BK221.out)) : gb227 ≠ gb221)); have n9_ := Aside0.mk ((by rw [hg]; exact Nat.ne_of_lt (blk_lt (g := gb226) (o := .cells #[.slice A0 l0.length c0, .int .i64 0, .int .i64 0] 55 (0, 0)) (by refine blk_put (cs := #[.slice A0 l0.length c0, .int .i64 0, .int .i64 0]) ?_ 2 _ rfl; refine blk_put (cs := #[.slice A0 l0.length c0, .int .i64 0, .int .i64 0]) ?_ 1 _ rfl; refine blk_put (cs := #[.slice none 0 0, .int .i64 0, .int .i64 0]) ?_ 0 _ rfl; exact BK226.out)) : gb226 ≠ gb227)); have n10_ := Aside0.mk ((by rw [hg]; exact Nat.ne_of_gt (blk_lt (g := gb226) (o := .cells #[.slice A0 l0.length c0, .int .i64 0, .int .i64 0] 55 (0, 0)) (by refine blk_put (cs := #[.slice A0 l0.length c0, .int .i64 0, .int .i64 0]) ?_ 2 _ rfl; refine blk_put (cs := #[.slice A0 l0.length c0, .int .i64 0, .int .i64 0]) ?_ 1 _ rfl; refine blk_put (cs := #[.slice none 0 0, .int .i64 0, .int .i64 0]) ?_ 0 _ rfl; exact BK226.out)) : gb227 ≠ gb226)); clear HO_0; clear BK221; clear BK226; clear HB; have HO_0 := n0_; have BK221 := n1_; have BK226 := n2_; have HB := n3_; have BK227 := n4_; have GW227 := n5_; have GE227 := n6_; have NB221_227 := n7_; have NB227_221 := n8_; have NB226_227 := n9_; have NB227_226 := n10_; clear n0_ n1_ n2_ n3_ n4_ n5_ n6_ n7_ n8_ n9_ n10_; clear hb hbox hg))
        go_loopg [14, 15] kj5 (fun kq v14 v15 w' => ∃ (x14_2 : List (S54)) (x15_2 : Int) (x227000_2 : List Int) (x227001_2 : Int) (x227002_2 : Int) (x228000_2 : List Int) (x228001_2 : Int) (x228002_2 : Int) (u227000 : Value) (u228000 : Value), v15 = .int .i64 x15_2 ∧ Aside0 (impl_TalkAll.l0 kq l0 a1 l2 l3 a4 x14_2 x15_2 x227000_2 x227001_2 x227002_2 x228000_2 x228001_2 x228002_2 false = some (r1, r2, r3, r4, r5)) ∧ Aside0 (kq ≤ kj5) ∧ Aside0 (Kd.V (Kd.int .i64) 3 w' w.heap.size (fun k_ => (P0_ k_ ∨ w.heap.size ≤ k_) ∧ some k_ ≠ (v14 : Value).ownBlock ∧ some k_ ≠ (u228000 : Value).ownBlock ∧ k_ ≠ gb221 ∧ k_ ≠ gb226 ∧ k_ ≠ gb227) (.slice A0 l0.length c0) l0) ∧ Aside0 (Kd.R k54 54 w' w.heap.size (fun k_ => (w.heap.size ≤ k_)) v14 x14_2) ∧ Aside0 (Kd.V (Kd.int .i64) 3 w' w.heap.size (fun k_ => (P0_ k_ ∨ w.heap.size ≤ k_) ∧ some k_ ≠ (v14 : Value).ownBlock ∧ some k_ ≠ (u228000 : Value).ownBlock ∧ k_ ≠ gb221 ∧ k_ ≠ gb226 ∧ k_ ≠ gb227) u227000 x227000_2) ∧ Aside0 (Kd.R (Kd.int .i64) 3 w' w.heap.size (fun k_ => (w.heap.size ≤ k_)) u228000 x228000_2) ∧ Aside0 (w'.heap[gb221]? = some (.cells #[(.slice none 0 0), .int .i64 0, .int .i64 0, .bool false] 69 (0, 0))) ∧ Aside0 (w'.heap[gb226]? = some (.cells #[u227000, .int .i64 x227001_2, .int .i64 x227002_2] 55 (0, 0))) ∧ Aside0 (w'.heap[gb227]? = some (.cells #[u228000, .int .i64 x228001_2, .int .i64 x228002_2, .bool false] 69 (0, 0))) ∧ Aside0 (Below w.heap.size w w'))
        case atStart => exact ⟨(([] : List (S54))), ((-1)), (l0), (0), (0), (([] : List Int)), (0), (0), (.slice A0 l0.length c0), (.slice none 0 0), (by first | rfl | (simp; done) | (simp [*]; done)), H', ⟨Nat.le_refl _⟩, ⟨by (with_reducible repeat (first | apply Kd.V_alloc | apply Kd.V_drewN | apply Kd.V_drew)); exact Kd.V_mono HO_0.out (fun _ hk => ⟨hk.1.1.1, ⟨(by simp [Value.ownBlock]), ⟨(by simp [Value.ownBlock]), ⟨hk.1.1.2, ⟨hk.1.2, hk.2⟩⟩⟩⟩⟩)⟩, ⟨by first | exact Kd.R_nil _ _ _ _ _ | exact Kd.N_nil _ _ _ _ _ | exact Kd.V_nil _ _ _ _ _ | exact Kd.Q_nil _ _ _ _ _ | exact Kd.S_nil _ _ _ _ _⟩, ⟨by (with_reducible repeat (first | apply Kd.V_alloc | apply Kd.V_drewN | apply Kd.V_drew)); exact Kd.V_mono HO_0.out (fun _ hk => ⟨hk.1.1.1, ⟨(by simp [Value.ownBlock]), ⟨(by simp [Value.ownBlock]), ⟨hk.1.1.2, ⟨hk.1.2, hk.2⟩⟩⟩⟩⟩)⟩, ⟨by first | exact Kd.R_nil _ _ _ _ _ | exact Kd.N_nil _ _ _ _ _ | exact Kd.V_nil _ _ _ _ _ | exact Kd.Q_nil _ _ _ _ _ | exact Kd.S_nil _ _ _ _ _⟩, ⟨by exact BK221.out⟩, ⟨by exact BK226.out⟩, ⟨by exact BK227.out⟩, ⟨by repeat (first | (with_reducible first | exact HB.out | apply below_alloc | apply pw_below_drewN | apply below_drew1 | refine below_set ?_ GE221.out | refine below_set ?_ GE226.out | refine below_set ?_ GE227.out) | exact HB.out)⟩⟩
        case round =>
          clear H'
          try clear c1
          try clear c2
          try clear p2
          try clear c3
          try clear c4
          try clear c8
          try clear c8b0
          try clear c8b1
          try clear c10
          try clear c12
          try clear c14
          try clear c16
          try clear c19
          try clear hcz17_0
          try clear hcz17_1
          try clear hcz17_2
          try clear hcz17_3
          try clear hcz20_0
          try clear hcz20_1
          try clear hcz20_2
          try clear hfz17_0
          try clear hfz17_1
          try clear hfz17_2
          try clear hfz17_3
          try clear hfz20_0
          try clear hfz20_1
          try clear hfz20_2
          try clear p2
          obtain ⟨x14_2, x15_2, x227000_2, x227001_2, x227002_2, x228000_2, x228001_2, x228002_2, u227000, u228000, rfl, HA, HK2, HO_0, HO_14, HO_227000, HO_228000, BK221, BK226, BK227, HB⟩ := hrel
          cases gk with
          | zero => exact absurd HA.out (by simp [impl_TalkAll.l0])
          | succ k2 =>
            have H := HA.out
            clear HA
            simp only [impl_TalkAll.l0] at H
            by_cases c22 : x228002_2 < a4
            · rw [if_pos c22] at H
              have c22b0 : decide (x228002_2 < a4) = true := decide_eq_true c22
              clear c22
              obtain ⟨ji23, hji23⟩ : ∃ j_ : Int, (mx x227001_2 x15_2) = j_ := ⟨_, rfl⟩
              replace H : ((impl_SendNext.f k2 x227000_2 (ji23) x227002_2 a1).bind fun bt228 => (if bt228.2.2.2.2.2 = true then (if (l2.length : Int) = 0 then (none) else (if 0 ≤ (Int.tmod x228001_2 (l2.length : Int)) then (if (Int.tmod x228001_2 (l2.length : Int)) < (l2.length : Int) then (if (rd l2 (Int.tmod x228001_2 (l2.length : Int))) = 0 then (if x14_2.length < 8796093022208 then (impl_TalkAll.j2 k2 l0 a1 l2 l3 a4 ([] : List (S54)) (-1) (x14_2 ++ [(⟨bt228.1, bt228.2.1⟩ : S54)]) bt228.2.2.1 bt228.2.2.2.1 bt228.2.2.2.2.1 x228000_2 x228001_2 x228002_2 false) else (none)) else (if (rd l2 (Int.tmod x228001_2 (l2.length : Int))) = 2 then ((some (([(⟨bt228.1, bt228.2.1⟩ : S54), (⟨bt228.1, bt228.2.1⟩ : S54)] : List (S54)) : List (S54))).bind fun y242 => (if x14_2.length + y242.length < 8796093022208 then (impl_TalkAll.j2 k2 l0 a1 l2 l3 a4 ([] : List (S54)) (-1) (x14_2 ++ y242) bt228.2.2.1 bt228.2.2.2.1 bt228.2.2.2.2.1 x228000_2 x228001_2 x228002_2 false) else (none))) else (if (rd l2 (Int.tmod x228001_2 (l2.length : Int))) = 3 then (if ([] : List (S54)).length < 8796093022208 then (impl_TalkAll.j2 k2 l0 a1 l2 l3 a4 (([] : List (S54)) ++ [(⟨bt228.1, bt228.2.1⟩ : S54)]) (-1) x14_2 bt228.2.2.1 bt228.2.2.2.1 bt228.2.2.2.2.1 x228000_2 x228001_2 x228002_2 false) else (none)) else (impl_TalkAll.j2 k2 l0 a1 l2 l3 a4 ([] : List (S54)) (-1) x14_2 bt228.2.2.1 bt228.2.2.2.1 bt228.2.2.2.2.1 x228000_2 x228001_2 x228002_2 false)))) else (none)) else (none))) else (some (x228000_2, x228001_2, x228002_2, ((mx (ji23) (-1)) == (l0.length : Int)), true)))) = some (r1, r2, r3, r4, r5) := by first | (rw [hji23] at H; exact H) | (simp only [hji23] at H ⊢; exact H)
              have hji23_ : (if x227001_2 < x15_2 then x15_2 else x227001_2) = ji23 := hji23
              replace H := Option.bind_eq_some_iff.mp H
              obtain ⟨⟨t228, t229, t230, t233, t234, t235⟩, A240, H⟩ := H
              replace H : (if t235 = true then (if (l2.length : Int) = 0 then (none) else (if 0 ≤ (Int.tmod x228001_2 (l2.length : Int)) then (if (Int.tmod x228001_2 (l2.length : Int)) < (l2.length : Int) then (if (rd l2 (Int.tmod x228001_2 (l2.length : Int))) = 0 then (if x14_2.length < 8796093022208 then (impl_TalkAll.j2 k2 l0 a1 l2 l3 a4 ([] : List (S54)) (-1) (x14_2 ++ [(⟨t228, t229⟩ : S54)]) t230 t233 t234 x228000_2 x228001_2 x228002_2 false) else (none)) else (if (rd l2 (Int.tmod x228001_2 (l2.length : Int))) = 2 then ((some (([(⟨t228, t229⟩ : S54), (⟨t228, t229⟩ : S54)] : List (S54)) : List (S54))).bind fun y242 => (if x14_2.length + y242.length < 8796093022208 then (impl_TalkAll.j2 k2 l0 a1 l2 l3 a4 ([] : List (S54)) (-1) (x14_2 ++ y242) t230 t233 t234 x228000_2 x228001_2 x228002_2 false) else (none))) else (if (rd l2 (Int.tmod x228001_2 (l2.length : Int))) = 3 then (if ([] : List (S54)).length < 8796093022208 then (impl_TalkAll.j2 k2 l0 a1 l2 l3 a4 (([] : List (S54)) ++ [(⟨t228, t229⟩ : S54)]) (-1) x14_2 t230 t233 t234 x228000_2 x228001_2 x228002_2 false) else (none)) else (impl_TalkAll.j2 k2 l0 a1 l2 l3 a4 ([] : List (S54)) (-1) x14_2 t230 t233 t234 x228000_2 x228001_2 x228002_2 false)))) else (none)) else (none))) else (some (x228000_2, x228001_2, x228002_2, ((mx (ji23) (-1)) == (l0.length : Int)), true))) = some (r1, r2, r3, r4, r5) := H
              have A24 := Aside0.mk A240
              clear A240
              by_cases c25 : t235 = true
              · subst c25
                have H1 : (if (l2.length : Int) = 0 then (none) else (if 0 ≤ (Int.tmod x228001_2 (l2.length : Int)) then (if (Int.tmod x228001_2 (l2.length : Int)) < (l2.length : Int) then (if (rd l2 (Int.tmod x228001_2 (l2.length : Int))) = 0 then (if x14_2.length < 8796093022208 then (impl_TalkAll.j2 k2 l0 a1 l2 l3 a4 ([] : List (S54)) (-1) (x14_2 ++ [(⟨t228, t229⟩ : S54)]) t230 t233 t234 x228000_2 x228001_2 x228002_2 false) else (none)) else (if (rd l2 (Int.tmod x228001_2 (l2.length : Int))) = 2 then ((some (([(⟨t228, t229⟩ : S54), (⟨t228, t229⟩ : S54)] : List (S54)) : List (S54))).bind fun y242 => (if x14_2.length + y242.length < 8796093022208 then (impl_TalkAll.j2 k2 l0 a1 l2 l3 a4 ([] : List (S54)) (-1) (x14_2 ++ y242) t230 t233 t234 x228000_2 x228001_2 x228002_2 false) else (none))) else (if (rd l2 (Int.tmod x228001_2 (l2.length : Int))) = 3 then (if ([] : List (S54)).length < 8796093022208 then (impl_TalkAll.j2 k2 l0 a1 l2 l3 a4 (([] : List (S54)) ++ [(⟨t228, t229⟩ : S54)]) (-1) x14_2 t230 t233 t234 x228000_2 x228001_2 x228002_2 false) else (none)) else (impl_TalkAll.j2 k2 l0 a1 l2 l3 a4 ([] : List (S54)) (-1) x14_2 t230 t233 t234 x228000_2 x228001_2 x228002_2 false)))) else (none)) else (none))) = some (r1, r2, r3, r4, r5) := by rw [if_pos rfl] at H; exact H
                clear H
                have H := H1
                clear H1
                by_cases c26 : (l2.length : Int) = 0
                · rw [if_pos c26] at H
                  exact absurd H (by simp)
                · rw [if_neg c26] at H
                  have c26b0 : ((l2.length : Int) == 0) = false := beq_eq_false_iff_ne.mpr c26
                  have c26b1 : ((l2.length : Int) != 0) = true := bne_iff_ne.mpr c26
                  have c26b2 : ¬ (l2 = []) := fun h_ => c26 (by rw [h_]; rfl)
                  obtain ⟨ji27, hji27⟩ : ∃ j_ : Int, (Int.tmod x228001_2 (l2.length : Int)) = j_ := ⟨_, rfl⟩
                  replace H : (if 0 ≤ (ji27) then (if (ji27) < (l2.length : Int) then (if (rd l2 (ji27)) = 0 then (if x14_2.length < 8796093022208 then (impl_TalkAll.j2 k2 l0 a1 l2 l3 a4 ([] : List (S54)) (-1) (x14_2 ++ [(⟨t228, t229⟩ : S54)]) t230 t233 t234 x228000_2 x228001_2 x228002_2 false) else (none)) else (if (rd l2 (ji27)) = 2 then ((some (([(⟨t228, t229⟩ : S54), (⟨t228, t229⟩ : S54)] : List (S54)) : List (S54))).bind fun y242 => (if x14_2.length + y242.length < 8796093022208 then (impl_TalkAll.j2 k2 l0 a1 l2 l3 a4 ([] : List (S54)) (-1) (x14_2 ++ y242) t230 t233 t234 x228000_2 x228001_2 x228002_2 false) else (none))) else (if (rd l2 (ji27)) = 3 then (if ([] : List (S54)).length < 8796093022208 then (impl_TalkAll.j2 k2 l0 a1 l2 l3 a4 (([] : List (S54)) ++ [(⟨t228, t229⟩ : S54)]) (-1) x14_2 t230 t233 t234 x228000_2 x228001_2 x228002_2 false) else (none)) else (impl_TalkAll.j2 k2 l0 a1 l2 l3 a4 ([] : List (S54)) (-1) x14_2 t230 t233 t234 x228000_2 x228001_2 x228002_2 false)))) else (none)) else (none)) = some (r1, r2, r3, r4, r5) := by first | (rw [hji27] at H; exact H) | (simp only [hji27] at H ⊢; exact H)
                  (try rw [hji27] at A24)
                  by_cases c28 : 0 ≤ (ji27)
                  · rw [if_pos c28] at H
                    have c28b0 : decide (0 ≤ (ji27)) = true := decide_eq_true c28
                    clear c28
                    by_cases c29 : (ji27) < (l2.length : Int)
                    · rw [if_pos c29] at H
                      have c29b0 : decide ((ji27) < (l2.length : Int)) = true := decide_eq_true c29
                      clear c29
                      have HC30 := Aside0.mk H
                      clear H
                      have hnb31 := NB227_221.out
                      have hnc31 := NB221_227.out
                      have hnb32 := NB227_226.out
                      have hnc32 := NB226_227.out
                      have hcz33_0 : wr.cell? ⟨gb227, 0, none⟩ = some (u228000) := (blk_cell BK227.out 0).trans rfl
                      have hcz33_1 : wr.cell? ⟨gb227, 1, none⟩ = some (.int .i64 x228001_2) := (blk_cell BK227.out 1).trans rfl
                      have hcz33_2 : wr.cell? ⟨gb227, 2, none⟩ = some (.int .i64 x228002_2) := (blk_cell BK227.out 2).trans rfl
                      have hcz33_3 : wr.cell? ⟨gb227, 3, none⟩ = some (.bool false) := (blk_cell BK227.out 3).trans rfl
                      have hfz33_0 := blk_frozen BK227.out 0
                      have hfz33_1 := blk_frozen BK227.out 1
                      have hfz33_2 := blk_frozen BK227.out 2
                      have hfz33_3 := blk_frozen BK227.out 3
                      have hnb34 := NB226_221.out
                      have hnc34 := NB221_226.out
                      have hcz35_0 : wr.cell? ⟨gb226, 0, none⟩ = some (u227000) := (blk_cell BK226.out 0).trans rfl
                      have hcz35_1 : wr.cell? ⟨gb226, 1, none⟩ = some (.int .i64 x227001_2) := (blk_cell BK226.out 1).trans rfl
                      have hcz35_2 : wr.cell? ⟨gb226, 2, none⟩ = some (.int .i64 x227002_2) := (blk_cell BK226.out 2).trans rfl
                      have hfz35_0 := blk_frozen BK226.out 0
                      have hfz35_1 := blk_frozen BK226.out 1
                      have hfz35_2 := blk_frozen BK226.out 2
                      obtain ⟨Ao36, co36, eo36⟩ := Kd.V_slice HO_227000.out
                      subst eo36
                      go_upto_block 2 with (first | ((with_reducible refine gate_callee (f := 32) rfl ?_); refine goesL_ (some 59) rfl rfl Try.func32 (by kernel_rfl) rfl #[.agg #[.slice Ao36 x227000_2.length co36, .int .i64 ji23, .int .i64 x227002_2], .int .i64 a1] rfl (by (try simp only [List.map_toArray, List.map_cons, List.map_nil]); first | done | (simp only [hji23]; rfl) | rfl | (simp only [List.length_drop, List.length_take]; rfl)) ?_; (with_reducible refine (impl_SendNext.calls k2 _ _ x227000_2 ji23 x227002_2 a1 t228 t229 t230 t233 t234 true _ ?side1 ?side2 A24.out).mono ?_); (case side1 => refine (Kd.V_reads' (e := 3) (base := w.heap.size) (ok := fun k_ => ((P0_ k_ ∨ w.heap.size ≤ k_) ∧ (some k_ ≠ (u14 : Value).ownBlock ∧ (some k_ ≠ (u228000 : Value).ownBlock ∧ (k_ ≠ gb221 ∧ (k_ ≠ gb226 ∧ k_ ≠ gb227)))))) (n := x227000_2.length) (c := co36) ?_).2.2; exact (by (with_reducible repeat (first | apply Kd.V_alloc | apply Kd.V_drewN | apply Kd.V_drew)); exact (Kd.V_mono (Kd.V_far (p := ⟨gb226, 1, none⟩) (Kd.V_mono HO_227000.out (fun k_ hk => (⟨hk, hk.2.2.2.2.1⟩ : _ ∧ k_ ≠ gb226))) (fun _ hk => hk.2) (.int .i64 ji23)) (fun _ h_ => h_.1)))); (case side2 => exact (Kd.V_reads' HO_227000.out).2.1); rintro e w37 ⟨v231, rfl, ho0, hb⟩; refine ⟨_, rfl, ?_⟩; have n0_ := Aside0.mk (Kd.V_elder' (by (with_reducible repeat (first | apply Kd.V_alloc | apply Kd.V_drewN | apply Kd.V_drew)); exact (Kd.V_mono (Kd.V_far (p := ⟨gb226, 1, none⟩) (Kd.V_mono HO_0.out (fun k_ hk => (⟨hk, hk.2.2.2.2.1⟩ : _ ∧ k_ ≠ gb226))) (fun _ hk => hk.2) (.int .i64 ji23)) (fun _ h_ => h_.1))) (Kd.R_base ho0) hb); have n1_ := Aside0.mk (Kd.R_below (by exact (Kd.R_mono (Kd.R_far (p := ⟨gb226, 1, none⟩) (Kd.R_types HO_14.out BK226.out (by decide)) (fun _ hk => hk.2) (.int .i64 ji23)) (fun _ h_ => h_.1))) hb); have n2_ := Aside0.mk (Kd.V_elder' (by (with_reducible repeat (first | apply Kd.V_alloc | apply Kd.V_drewN | apply Kd.V_drew)); exact (Kd.V_mono (Kd.V_far (p := ⟨gb226, 1, none⟩) (Kd.V_mono HO_227000.out (fun k_ hk => (⟨hk, hk.2.2.2.2.1⟩ : _ ∧ k_ ≠ gb226))) (fun _ hk => hk.2) (.int .i64 ji23)) (fun _ h_ => h_.1))) (Kd.R_base ho0) hb); have n3_ := Aside0.mk (Kd.R_elder' (by exact (Kd.R_mono (Kd.R_far (p := ⟨gb226, 1, none⟩) (Kd.R_types HO_228000.out BK226.out (by decide)) (fun _ hk => hk.2) (.int .i64 ji23)) (fun _ h_ => h_.1))) (Kd.R_base ho0) hb); have n4_ := Aside0.mk (Kd.R_lower (Kd.R_new' (Kd.R_newM (M := fun k_ => (w.heap.size ≤ k_)) ho0 (below_size (by repeat (first | (with_reducible first | exact HB.out | apply below_alloc | apply pw_below_drewN | apply below_drew1 | refine below_set ?_ GE221.out | refine below_set ?_ GE226.out | refine below_set ?_ GE227.out) | exact HB.out))) (fun k_ h_ => h_)) (Kd.R_lt (by exact (Kd.R_mono (Kd.R_far (p := ⟨gb226, 1, none⟩) (Kd.R_types HO_228000.out BK226.out (by decide)) (fun _ hk => hk.2) (.int .i64 ji23)) (fun _ h_ => h_.1))))) (below_size (by repeat (first | (with_reducible first | exact HB.out | apply below_alloc | apply pw_below_drewN | apply below_drew1 | refine below_set ?_ GE221.out | refine below_set ?_ GE226.out | refine below_set ?_ GE227.out) | exact HB.out)))); have n5_ := Aside0.mk (blk_below (g := gb221) (o := .cells #[.slice none 0 0, .int .i64 0, .int .i64 0, .bool false] 69 (0, 0)) (by refine blk_far ?_ NB221_226.out _; exact BK221.out) hb); have n6_ := Aside0.mk (blk_below (g := gb226) (o := .cells #[.slice Ao36 x227000_2.length co36, .int .i64 ji23, .int .i64 x227002_2] 55 (0, 0)) (by refine blk_put (cs := #[.slice Ao36 x227000_2.length co36, .int .i64 x227001_2, .int .i64 x227002_2]) ?_ 1 _ rfl; exact BK226.out) hb); have n7_ := Aside0.mk (blk_below (g := gb227) (o := .cells #[u228000, .int .i64 x228001_2, .int .i64 x228002_2, .bool false] 69 (0, 0)) (by refine blk_far ?_ NB227_226.out _; exact BK227.out) hb); have n8_ := Aside0.mk (below_step (by repeat (first | (with_reducible first | exact HB.out | apply below_alloc | apply pw_below_drewN | apply below_drew1 | refine below_set ?_ GE221.out | refine below_set ?_ GE226.out | refine below_set ?_ GE227.out) | exact HB.out)) hb); clear HO_0; clear HO_14; clear HO_227000; clear HO_228000; clear BK221; clear BK226; clear BK227; clear HB; have HO_0 := n0_; have HO_14 := n1_; have HO_227000 := n2_; have HO_228000 := n3_; have HO232 := n4_; have BK221 := n5_; have BK226 := n6_; have BK227 := n7_; have HB := n8_; clear n0_ n1_ n2_ n3_ n4_ n5_ n6_ n7_ n8_; (try clear hb); (try clear hb2); (try clear hk); (try clear hi); (try clear ho0)) | ((with_reducible refine gate_dst (N := 16) rfl ?_); refine box_event ?hg (N := 16) ?hd (cs := #[.int .i64 0, .int .i64 0]) (t := 54) ?hr ?_; (case hd => rfl); (case hg => rfl); (case hr => first | (go_simp; done) | (go_simp; rfl)); intro gb236 hg w38 hbox hb; have n0_ := Aside0.mk (Kd.V_below (Kd.V_elderB (by (with_reducible repeat (first | apply Kd.V_alloc | apply Kd.V_drewN | apply Kd.V_drew)); exact HO_0.out) gb236 (Nat.le_of_eq hg.symm)) hb); have n1_ := Aside0.mk (Kd.R_below (Kd.R_elderB HO_14.out gb236 (Nat.le_of_eq hg.symm)) hb); have n2_ := Aside0.mk (Kd.V_below (Kd.V_elderB (by (with_reducible repeat (first | apply Kd.V_alloc | apply Kd.V_drewN | apply Kd.V_drew)); exact HO_227000.out) gb236 (Nat.le_of_eq hg.symm)) hb); have n3_ := Aside0.mk (Kd.R_below HO_228000.out hb); have n4_ := Aside0.mk (Kd.R_below HO232.out hb); have n5_ := Aside0.mk (blk_below (g := gb221) (o := .cells #[.slice none 0 0, .int .i64 0, .int .i64 0, .bool false] 69 (0, 0)) BK221.out hb); have n6_ := Aside0.mk (blk_below (g := gb226) (o := .cells #[.slice Ao36 x227000_2.length co36, .int .i64 ji23, .int .i64 x227002_2] 55 (0, 0)) BK226.out hb); have n7_ := Aside0.mk (blk_below (g := gb227) (o := .cells #[u228000, .int .i64 x228001_2, .int .i64 x228002_2, .bool false] 69 (0, 0)) BK227.out hb); have n8_ := Aside0.mk (below_step (by repeat (first | (with_reducible first | exact HB.out | apply below_alloc | apply pw_below_drewN | apply below_drew1 | refine below_set ?_ GE221.out | refine below_set ?_ GE226.out | refine below_set ?_ GE227.out) | exact HB.out)) hb); have n9_ := Aside0.mk (hbox); have n10_ := Aside0.mk ((by rw [hg]; exact (below_size (by repeat (first | (with_reducible first | exact HB.out | apply below_alloc | apply pw_below_drewN | apply below_drew1 | refine below_set ?_ GE221.out | refine below_set ?_ GE226.out | refine below_set ?_ GE227.out) | exact HB.out))) : w.heap.size ≤ gb236)); have n11_ := Aside0.mk ((by rw [hg]; exact (below_size (by repeat (first | (with_reducible first | exact HB.out | apply below_alloc | apply pw_below_drewN | apply below_drew1 | refine below_set ?_ GE221.out | refine below_set ?_ GE226.out | refine below_set ?_ GE227.out) | exact HB.out))) : w.heap.size ≤ gb236)); have n12_ := Aside0.mk ((by rw [hg]; exact Nat.ne_of_lt (blk_lt (g := gb221) (o := .cells #[.slice none 0 0, .int .i64 0, .int .i64 0, .bool false] 69 (0, 0)) BK221.out) : gb221 ≠ gb236)); have n13_ := Aside0.mk ((by rw [hg]; exact Nat.ne_of_gt (blk_lt (g := gb221) (o := .cells #[.slice none 0 0, .int .i64 0, .int .i64 0, .bool false] 69 (0, 0)) BK221.out) : gb236 ≠ gb221)); have n14_ := Aside0.mk ((by rw [hg]; exact Nat.ne_of_lt (blk_lt (g := gb226) (o := .cells #[.slice Ao36 x227000_2.length co36, .int .i64 ji23, .int .i64 x227002_2] 55 (0, 0)) BK226.out) : gb226 ≠ gb236)); have n15_ := Aside0.mk ((by rw [hg]; exact Nat.ne_of_gt (blk_lt (g := gb226) (o := .cells #[.slice Ao36 x227000_2.length co36, .int .i64 ji23, .int .i64 x227002_2] 55 (0, 0)) BK226.out) : gb236 ≠ gb226)); have n16_ := Aside0.mk ((by rw [hg]; exact Nat.ne_of_lt (blk_lt (g := gb227) (o := .cells #[u228000, .int .i64 x228001_2, .int .i64 x228002_2, .bool false] 69 (0, 0)) BK227.out) : gb227 ≠ gb236)); have n17_ := Aside0.mk ((by rw [hg]; exact Nat.ne_of_gt (blk_lt (g := gb227) (o := .cells #[u228000, .int .i64 x228001_2, .int .i64 x228002_2, .bool false] 69 (0, 0)) BK227.out) : gb236 ≠ gb227)); clear HO_0; clear HO_14; clear HO_227000; clear HO_228000; clear HO232; clear BK221; clear BK226; clear BK227; clear HB; have HO_0 := n0_; have HO_14 := n1_; have HO_227000 := n2_; have HO_228000 := n3_; have HO232 := n4_; have BK221 := n5_; have BK226 := n6_; have BK227 := n7_; have HB := n8_; have BK236 := n9_; have GW236 := n10_; have GE236 := n11_; have NB221_236 := n12_; have NB236_221 := n13_; have NB226_236 := n14_; have NB236_226 := n15_; have NB227_236 := n16_; have NB236_227 := n17_; clear n0_ n1_ n2_ n3_ n4_ n5_ n6_ n7_ n8_ n9_ n10_ n11_ n12_ n13_ n14_ n15_ n16_ n17_; clear hb hbox hg) | ((with_reducible refine gate_dst (N := 17) rfl ?_); refine box_event ?hg (N := 17) ?hd (cs := #[.slice none 0 0, .int .i64 0, .int .i64 0]) (t := 55) ?hr ?_; (case hd => rfl); (case hg => rfl); (case hr => first | (go_simp; done) | (go_simp; rfl)); intro gb237 hg w39 hbox hb; have n0_ := Aside0.mk (Kd.V_below (Kd.V_elderB (by (with_reducible repeat (first | apply Kd.V_alloc | apply Kd.V_drewN | apply Kd.V_drew)); exact HO_0.out) gb237 (Nat.le_of_eq hg.symm)) hb); have n1_ := Aside0.mk (Kd.R_below HO_14.out hb); have n2_ := Aside0.mk (Kd.V_below (Kd.V_elderB (by (with_reducible repeat (first | apply Kd.V_alloc | apply Kd.V_drewN | apply Kd.V_drew)); exact HO_227000.out) gb237 (Nat.le_of_eq hg.symm)) hb); have n3_ := Aside0.mk (Kd.R_below HO_228000.out hb); have n4_ := Aside0.mk (Kd.R_below HO232.out hb); have n5_ := Aside0.mk (blk_below (g := gb221) (o := .cells #[.slice none 0 0, .int .i64 0, .int .i64 0, .bool false] 69 (0, 0)) BK221.out hb); have n6_ := Aside0.mk (blk_below (g := gb226) (o := .cells #[.slice Ao36 x227000_2.length co36, .int .i64 ji23, .int .i64 x227002_2] 55 (0, 0)) BK226.out hb); have n7_ := Aside0.mk (blk_below (g := gb227) (o := .cells #[u228000, .int .i64 x228001_2, .int .i64 x228002_2, .bool false] 69 (0, 0)) BK227.out hb); have n8_ := Aside0.mk (blk_below (g := gb236) (o := .cells #[.int .i64 0, .int .i64 0] 54 (0, 0)) BK236.out hb); have n9_ := Aside0.mk (below_step (by repeat (first | (with_reducible first | exact HB.out | apply below_alloc | apply pw_below_drewN | apply below_drew1 | refine below_set ?_ GE221.out | refine below_set ?_ GE226.out | refine below_set ?_ GE227.out | refine below_set ?_ GE236.out) | exact HB.out)) hb); have n10_ := Aside0.mk (hbox); have n11_ := Aside0.mk ((by rw [hg]; exact (below_size (by repeat (first | (with_reducible first | exact HB.out | apply below_alloc | apply pw_below_drewN | apply below_drew1 | refine below_set ?_ GE221.out | refine below_set ?_ GE226.out | refine below_set ?_ GE227.out | refine below_set ?_ GE236.out) | exact HB.out))) : w.heap.size ≤ gb237)); have n12_ := Aside0.mk ((by rw [hg]; exact (below_size (by repeat (first | (with_reducible first | exact HB.out | apply below_alloc | apply pw_below_drewN | apply below_drew1 | refine below_set ?_ GE221.out | refine below_set ?_ GE226.out | refine below_set ?_ GE227.out | refine below_set ?_ GE236.out) | exact HB.out))) : w.heap.size ≤ gb237)); have n13_ := Aside0.mk ((by rw [hg]; exact Nat.ne_of_lt (blk_lt (g := gb221) (o := .cells #[.slice none 0 0, .int .i64 0, .int .i64 0, .bool false] 69 (0, 0)) BK221.out) : gb221 ≠ gb237)); have n14_ := Aside0.mk ((by rw [hg]; exact Nat.ne_of_gt (blk_lt (g := gb221) (o := .cells #[.slice none 0 0, .int .i64 0, .int .i64 0, .bool false] 69 (0, 0)) BK221.out) : gb237 ≠ gb221)); have n15_ := Aside0.mk ((by rw [hg]; exact Nat.ne_of_lt (blk_lt (g := gb226) (o := .cells #[.slice Ao36 x227000_2.length co36, .int .i64 ji23, .int .i64 x227002_2] 55 (0, 0)) BK226.out) : gb226 ≠ gb237)); have n16_ := Aside0.mk ((by rw [hg]; exact Nat.ne_of_gt (blk_lt (g := gb226) (o := .cells #[.slice Ao36 x227000_2.length co36, .int .i64 ji23, .int .i64 x227002_2] 55 (0, 0)) BK226.out) : gb237 ≠ gb226)); have n17_ := Aside0.mk ((by rw [hg]; exact Nat.ne_of_lt (blk_lt (g := gb227) (o := .cells #[u228000, .int .i64 x228001_2, .int .i64 x228002_2, .bool false] 69 (0, 0)) BK227.out) : gb227 ≠ gb237)); have n18_ := Aside0.mk ((by rw [hg]; exact Nat.ne_of_gt (blk_lt (g := gb227) (o := .cells #[u228000, .int .i64 x228001_2, .int .i64 x228002_2, .bool false] 69 (0, 0)) BK227.out) : gb237 ≠ gb227)); have n19_ := Aside0.mk ((by rw [hg]; exact Nat.ne_of_lt (blk_lt (g := gb236) (o := .cells #[.int .i64 0, .int .i64 0] 54 (0, 0)) BK236.out) : gb236 ≠ gb237)); have n20_ := Aside0.mk ((by rw [hg]; exact Nat.ne_of_gt (blk_lt (g := gb236) (o := .cells #[.int .i64 0, .int .i64 0] 54 (0, 0)) BK236.out) : gb237 ≠ gb236)); clear HO_0; clear HO_14; clear HO_227000; clear HO_228000; clear HO232; clear BK221; clear BK226; clear BK227; clear BK236; clear HB; have HO_0 := n0_; have HO_14 := n1_; have HO_227000 := n2_; have HO_228000 := n3_; have HO232 := n4_; have BK221 := n5_; have BK226 := n6_; have BK227 := n7_; have BK236 := n8_; have HB := n9_; have BK237 := n10_; have GW237 := n11_; have GE237 := n12_; have NB221_237 := n13_; have NB237_221 := n14_; have NB226_237 := n15_; have NB237_226 := n16_; have NB227_237 := n17_; have NB237_227 := n18_; have NB236_237 := n19_; have NB237_236 := n20_; clear n0_ n1_ n2_ n3_ n4_ n5_ n6_ n7_ n8_ n9_ n10_ n11_ n12_ n13_ n14_ n15_ n16_ n17_ n18_ n19_ n20_; clear hb hbox hg; have hnb40 := NB236_221.out; have hnc40 := NB221_236.out; have hnb41 := NB236_226.out; have hnc41 := NB226_236.out; have hnb42 := NB236_227.out; have hnc42 := NB227_236.out; have hnb43 := NB236_237.out; have hnc43 := NB237_236.out; have hcz44_0 : w39.cell? ⟨gb236, 0, none⟩ = some (.int .i64 0) := (blk_cell BK236.out 0).trans rfl; have hcz44_1 : w39.cell? ⟨gb236, 1, none⟩ = some (.int .i64 0) := (blk_cell BK236.out 1).trans rfl; have hfz44_0 := blk_frozen BK236.out 0; have hfz44_1 := blk_frozen BK236.out 1; obtain ⟨Ao45, co45, eo45⟩ := Kd.R_slice HO232.out; subst eo45; have hnb46 := NB237_221.out; have hnc46 := NB221_237.out; have hnb47 := NB237_226.out; have hnc47 := NB226_237.out; have hnb48 := NB237_227.out; have hnc48 := NB227_237.out; have hcz49_0 : w39.cell? ⟨gb237, 0, none⟩ = some (.slice none 0 0) := (blk_cell BK237.out 0).trans rfl; have hcz49_1 : w39.cell? ⟨gb237, 1, none⟩ = some (.int .i64 0) := (blk_cell BK237.out 1).trans rfl; have hcz49_2 : w39.cell? ⟨gb237, 2, none⟩ = some (.int .i64 0) := (blk_cell BK237.out 2).trans rfl; have hfz49_0 := blk_frozen BK237.out 0; have hfz49_1 := blk_frozen BK237.out 1; have hfz49_2 := blk_frozen BK237.out 2; have hcz50_0 : w39.cell? ⟨gb226, 0, none⟩ = some (.slice Ao36 x227000_2.length co36) := (blk_cell BK226.out 0).trans rfl; have hcz50_1 : w39.cell? ⟨gb226, 1, none⟩ = some (.int .i64 ji23) := (blk_cell BK226.out 1).trans rfl; have hcz50_2 : w39.cell? ⟨gb226, 2, none⟩ = some (.int .i64 x227002_2) := (blk_cell BK226.out 2).trans rfl; have hfz50_0 := blk_frozen BK226.out 0; have hfz50_1 := blk_frozen BK226.out 1; have hfz50_2 := blk_frozen BK226.out 2; have hcz51_0 : w39.cell? ⟨gb227, 0, none⟩ = some (u228000) := (blk_cell BK227.out 0).trans rfl; have hcz51_1 : w39.cell? ⟨gb227, 1, none⟩ = some (.int .i64 x228001_2) := (blk_cell BK227.out 1).trans rfl; have hcz51_2 : w39.cell? ⟨gb227, 2, none⟩ = some (.int .i64 x228002_2) := (blk_cell BK227.out 2).trans rfl; have hcz51_3 : w39.cell? ⟨gb227, 3, none⟩ = some (.bool false) := (blk_cell BK227.out 3).trans rfl; have hfz51_0 := blk_frozen BK227.out 0; have hfz51_1 := blk_frozen BK227.out 1; have hfz51_2 := blk_frozen BK227.out 2; have hfz51_3 := blk_frozen BK227.out 3; have p238 : 0 ≤ ((ji27) : Int) := of_decide_eq_true (by first | (with_reducible assumption) | assumption); have q238 : (ji27) < (l2.length : Int) := of_decide_eq_true (by first | (with_reducible assumption) | assumption); obtain ⟨ad238, e238, hx238_0⟩ := Kd.at_int HR2.out (ji27) p238 q238; cases e238; have hn238_0 : ad238.block ≠ gb236 := Nat.ne_of_lt (Nat.lt_of_lt_of_le (by have := World.block_lt_of_cell? _ _ hx238_0; first | rwa [add_block] at this | exact this) GW236.out); have hn238_1 : ad238.block ≠ gb236 := Nat.ne_of_lt (Nat.lt_of_lt_of_le (by have := World.block_lt_of_cell? _ _ hx238_0; first | rwa [add_block] at this | exact this) GW236.out); have hn238_2 : ad238.block ≠ gb237 := Nat.ne_of_lt (Nat.lt_of_lt_of_le (by have := World.block_lt_of_cell? _ _ hx238_0; first | rwa [add_block] at this | exact this) GW237.out); have hn238_3 : ad238.block ≠ gb237 := Nat.ne_of_lt (Nat.lt_of_lt_of_le (by have := World.block_lt_of_cell? _ _ hx238_0; first | rwa [add_block] at this | exact this) GW237.out); have hn238_4 : ad238.block ≠ gb237 := Nat.ne_of_lt (Nat.lt_of_lt_of_le (by have := World.block_lt_of_cell? _ _ hx238_0; first | rwa [add_block] at this | exact this) GW237.out); have hn238_5 : ad238.block ≠ gb226 := Nat.ne_of_lt (Nat.lt_of_lt_of_le (by have := World.block_lt_of_cell? _ _ hx238_0; first | rwa [add_block] at this | exact this) GW226.out); have hn238_6 : ad238.block ≠ gb226 := Nat.ne_of_lt (Nat.lt_of_lt_of_le (by have := World.block_lt_of_cell? _ _ hx238_0; first | rwa [add_block] at this | exact this) GW226.out); have hn238_7 : ad238.block ≠ gb226 := Nat.ne_of_lt (Nat.lt_of_lt_of_le (by have := World.block_lt_of_cell? _ _ hx238_0; first | rwa [add_block] at this | exact this) GW226.out); (first | replace hx238_0 := (HB.out.cell (World.block_lt_of_cell? w _ hx238_0)).trans hx238_0 | skip); replace hx238_0 := (cell_far (p := ⟨gb236, 0, none⟩) (by first | (rw [add_block]; exact hn238_0) | (show (Addr.add _ _).block ≠ _; rw [add_block]; exact hn238_0) | exact hn238_0) (.int .i64 t228)).trans hx238_0; replace hx238_0 := (cell_far (p := ⟨gb236, 1, none⟩) (by first | (rw [add_block]; exact hn238_1) | (show (Addr.add _ _).block ≠ _; rw [add_block]; exact hn238_1) | exact hn238_1) (.int .i64 t229)).trans hx238_0; replace hx238_0 := (cell_far (p := ⟨gb237, 0, none⟩) (by first | (rw [add_block]; exact hn238_2) | (show (Addr.add _ _).block ≠ _; rw [add_block]; exact hn238_2) | exact hn238_2) (.slice Ao45 t230.length co45)).trans hx238_0; replace hx238_0 := (cell_far (p := ⟨gb237, 1, none⟩) (by first | (rw [add_block]; exact hn238_3) | (show (Addr.add _ _).block ≠ _; rw [add_block]; exact hn238_3) | exact hn238_3) (.int .i64 t233)).trans hx238_0; replace hx238_0 := (cell_far (p := ⟨gb237, 2, none⟩) (by first | (rw [add_block]; exact hn238_4) | (show (Addr.add _ _).block ≠ _; rw [add_block]; exact hn238_4) | exact hn238_4) (.int .i64 t234)).trans hx238_0; replace hx238_0 := (cell_far (p := ⟨gb226, 0, none⟩) (by first | (rw [add_block]; exact hn238_5) | (show (Addr.add _ _).block ≠ _; rw [add_block]; exact hn238_5) | exact hn238_5) (.slice Ao45 t230.length co45)).trans hx238_0; replace hx238_0 := (cell_far (p := ⟨gb226, 1, none⟩) (by first | (rw [add_block]; exact hn238_6) | (show (Addr.add _ _).block ≠ _; rw [add_block]; exact hn238_6) | exact hn238_6) (.int .i64 t233)).trans hx238_0; replace hx238_0 := (cell_far (p := ⟨gb226, 2, none⟩) (by first | (rw [add_block]; exact hn238_7) | (show (Addr.add _ _).block ≠ _; rw [add_block]; exact hn238_7) | exact hn238_7) (.int .i64 t234)).trans hx238_0; clear hn238_0; clear hn238_1; clear hn238_2; clear hn238_3; clear hn238_4; clear hn238_5; clear hn238_6; clear hn238_7; replace p238 := eq_true p238; replace q238 := eq_true q238))
                      (try simp only [Act.put, List.setIfInBounds_toArray, List.set_cons_zero, List.set_cons_succ])
                      go_cut [14, 19] (fun v14 v19 wc => ∃ (kq : Nat) (x14_29 : List (S54)) (x19_29 : List (S54)), Aside0 (impl_TalkAll.j2 kq l0 a1 l2 l3 a4 x14_29 (-1) x19_29 t230 t233 t234 x228000_2 x228001_2 x228002_2 false = some (r1, r2, r3, r4, r5)) ∧ Aside0 (kq ≤ k2) ∧ Aside0 (Kd.V (Kd.int .i64) 3 wc w.heap.size (fun k_ => (P0_ k_ ∨ w.heap.size ≤ k_) ∧ some k_ ≠ (v14 : Value).ownBlock ∧ some k_ ≠ (v19 : Value).ownBlock ∧ some k_ ≠ ((.slice Ao45 t230.length co45) : Value).ownBlock ∧ some k_ ≠ (u228000 : Value).ownBlock ∧ some k_ ≠ ((.slice Ao45 t230.length co45) : Value).ownBlock ∧ k_ ≠ gb221 ∧ k_ ≠ gb226 ∧ k_ ≠ gb227 ∧ k_ ≠ gb236 ∧ k_ ≠ gb237) (.slice A0 l0.length c0) l0) ∧ Aside0 (Kd.R k54 54 wc w.heap.size (fun k_ => (w.heap.size ≤ k_) ∧ some k_ ≠ (v19 : Value).ownBlock ∧ k_ ≠ gb236) v14 x14_29) ∧ Aside0 (Kd.R k54 54 wc w.heap.size (fun k_ => (w.heap.size ≤ k_) ∧ some k_ ≠ (v14 : Value).ownBlock ∧ k_ ≠ gb236) v19 x19_29) ∧ Aside0 (Kd.R (Kd.int .i64) 3 wc w.heap.size (fun k_ => (w.heap.size ≤ k_) ∧ some k_ ≠ (u228000 : Value).ownBlock) (.slice Ao45 t230.length co45) t230) ∧ Aside0 (Kd.R (Kd.int .i64) 3 wc w.heap.size (fun k_ => (w.heap.size ≤ k_) ∧ some k_ ≠ ((.slice Ao45 t230.length co45) : Value).ownBlock ∧ some k_ ≠ ((.slice Ao45 t230.length co45) : Value).ownBlock) u228000 x228000_2) ∧ Aside0 (Kd.R (Kd.int .i64) 3 wc w.heap.size (fun k_ => (w.heap.size ≤ k_) ∧ some k_ ≠ (u228000 : Value).ownBlock) (.slice Ao45 t230.length co45) t230) ∧ Aside0 (wc.heap[gb221]? = some (.cells #[(.slice none 0 0), .int .i64 0, .int .i64 0, .bool false] 69 (0, 0))) ∧ Aside0 (wc.heap[gb226]? = some (.cells #[(.slice Ao45 t230.length co45), .int .i64 t233, .int .i64 t234] 55 (0, 0))) ∧ Aside0 (wc.heap[gb227]? = some (.cells #[u228000, .int .i64 x228001_2, .int .i64 x228002_2, .bool false] 69 (0, 0))) ∧ Aside0 (wc.heap[gb236]? = some (.cells #[.int .i64 t228, .int .i64 t229] 54 (0, 0))) ∧ Aside0 (wc.heap[gb237]? = some (.cells #[(.slice Ao45 t230.length co45), .int .i64 t233, .int .i64 t234] 55 (0, 0))) ∧ Aside0 (Below w.heap.size w wc))
                      case first =>
                        have H := HC30.out
                        clear HC30
                        by_cases c52 : (rd l2 (ji27)) = 0
                        · rw [if_pos c52] at H
                          have c52b0 : ((rd l2 (ji27)) == 0) = true := beq_iff_eq.mpr c52
                          have c52b1 : ((rd l2 (ji27)) != 0) = false := bne_eq_false_iff_eq.mpr c52
                          clear c52
                          (first | rw [c52b0] | (simp only [i64_w, i32_w]; rw [c52b0]) | skip)
                          by_cases c53 : x14_2.length < 8796093022208
                          · rw [if_pos c53] at H
                            have LMc53 := Aside0.mk c53
                            clear c53
                            obtain ⟨y239, hy239⟩ : ∃ y_ : List (S54), y_ = (x14_2 ++ [(⟨t228, t229⟩ : S54)]) := ⟨_, rfl⟩
                            replace H : (impl_TalkAll.j2 k2 l0 a1 l2 l3 a4 ([] : List (S54)) (-1) y239 t230 t233 t234 x228000_2 x228001_2 x228002_2 false) = some (r1, r2, r3, r4, r5) := by first | (rw [hy239]; with_reducible exact H) | (have H2_ := (Option.bind_some _ _).symm.trans H; rw [hy239]; with_reducible exact H2_) | (have H2_ := (Option.bind_some _ _).symm.trans H; with_reducible exact H2_) | with_reducible exact H | (rw [hy239]; exact H) | exact H
                            have Ny239 := Aside0.mk hy239
                            clear hy239
                            have H' := Aside0.mk H
                            clear H
                            have hnb54 := NB236_221.out
                            have hnc54 := NB221_236.out
                            have hnb55 := NB236_226.out
                            have hnc55 := NB226_236.out
                            have hnb56 := NB236_227.out
                            have hnc56 := NB227_236.out
                            have hnb57 := NB236_237.out
                            have hnc57 := NB237_236.out
                            have hcz58_0 : w39.cell? ⟨gb236, 0, none⟩ = some (.int .i64 0) := (blk_cell BK236.out 0).trans rfl
                            have hcz58_1 : w39.cell? ⟨gb236, 1, none⟩ = some (.int .i64 0) := (blk_cell BK236.out 1).trans rfl
                            have hfz58_0 := blk_frozen BK236.out 0
                            have hfz58_1 := blk_frozen BK236.out 1
                            go_wp2_with (first | ((with_reducible refine gate_builtin (b := .append) (xs := #[.tmp 77, .tmp 79]) rfl ?_); at_builtin; refine Kd.R_append k54 (w0 := w) w.heap.size rfl (.tmp 77) (.tmp 79) 37 54 (.agg #[(.int .i64 0), (.int .i64 0)]) 16 rfl Try.underlying37 info54 rfl (by decide) (by omega) u14 x14_2 (⟨t228, t229⟩ : S54) [.int .i64 t228, .int .i64 t229] (fun k_ => (w.heap.size ≤ k_) ∧ k_ ≠ gb236) (fun _ => False) rfl (by first | (go_simp; done) | (go_simp; rfl)) ?aP (fun _ hk => hk.elim) ?aF ?aO ?aB ?aS ?aL ?_; (case aP => exact k54_mkM _ _ _ (⟨t228, t229⟩ : S54)); (case aB => exact (by repeat (first | (with_reducible first | exact HB.out | apply below_alloc | apply pw_below_drewN | apply below_drew1 | refine below_set ?_ GE221.out | refine below_set ?_ GE226.out | refine below_set ?_ GE227.out | refine below_set ?_ GE236.out | refine below_set ?_ GE237.out) | exact HB.out))); (case aF => exact (fun k_ hk => ⟨(Nat.le_trans (below_size (by repeat (first | (with_reducible first | exact HB.out | apply below_alloc | apply pw_below_drewN | apply below_drew1 | refine below_set ?_ GE221.out | refine below_set ?_ GE226.out | refine below_set ?_ GE227.out | refine below_set ?_ GE236.out | refine below_set ?_ GE237.out) | exact HB.out))) hk), Kd.freshB (g := gb236) (o := .cells #[.int .i64 t228, .int .i64 t229] 54 (0, 0)) (by refine blk_far ?_ NB236_226.out _; refine blk_far ?_ NB236_226.out _; refine blk_far ?_ NB236_226.out _; refine blk_far ?_ NB236_237.out _; refine blk_far ?_ NB236_237.out _; refine blk_far ?_ NB236_237.out _; refine blk_put (cs := #[.int .i64 t228, .int .i64 0]) ?_ 1 _ rfl; refine blk_put (cs := #[.int .i64 0, .int .i64 0]) ?_ 0 _ rfl; exact BK236.out) k_ hk⟩)); (case aO => exact (by exact Kd.R_mono (Kd.R_far (p := ⟨gb226, 2, none⟩) (Kd.R_far (p := ⟨gb226, 1, none⟩) (Kd.R_far (p := ⟨gb226, 0, none⟩) (Kd.R_far (p := ⟨gb237, 2, none⟩) (Kd.R_far (p := ⟨gb237, 1, none⟩) (Kd.R_far (p := ⟨gb237, 0, none⟩) (Kd.R_far (p := ⟨gb236, 1, none⟩) (Kd.R_far (p := ⟨gb236, 0, none⟩) (Kd.R_types (Kd.R_types (Kd.R_mono HO_14.out (fun k_ hk => (⟨hk, hk.2⟩ : _ ∧ k_ ≠ gb236))) BK237.out (by decide)) BK226.out (by decide)) (fun _ hk => hk.1.1.2) (.int .i64 t228)) (fun _ hk => hk.1.1.2) (.int .i64 t229)) (fun _ hk => hk.1.2) (.slice Ao45 t230.length co45)) (fun _ hk => hk.1.2) (.int .i64 t233)) (fun _ hk => hk.1.2) (.int .i64 t234)) (fun _ hk => hk.2) (.slice Ao45 t230.length co45)) (fun _ hk => hk.2) (.int .i64 t233)) (fun _ hk => hk.2) (.int .i64 t234)) (fun _ hk => ⟨hk.1.1.1.1, hk.1.1.1.2⟩))); (case aS => exact (below_size (by repeat (first | (with_reducible first | exact HB.out | apply below_alloc | apply pw_below_drewN | apply below_drew1 | refine below_set ?_ GE221.out | refine below_set ?_ GE226.out | refine below_set ?_ GE227.out | refine below_set ?_ GE236.out | refine below_set ?_ GE237.out) | exact HB.out)))); (case aL => have := LMc53.out; omega); intro v240 w59 ho hb hg hat; rw [← Ny239.out] at ho; have n0_ := Aside0.mk (Kd.V_afterv (ok := (fun k_ => (P0_ k_ ∨ w.heap.size ≤ k_) ∧ some k_ ≠ (u228000 : Value).ownBlock ∧ some k_ ≠ (.slice Ao45 t230.length co45 : Value).ownBlock ∧ k_ ≠ gb221 ∧ k_ ≠ gb226 ∧ k_ ≠ gb227 ∧ k_ ≠ gb236 ∧ k_ ≠ gb237)) (by (with_reducible repeat (first | apply Kd.V_alloc | apply Kd.V_drewN | apply Kd.V_drew)); exact Kd.V_mono (Kd.V_far (p := ⟨gb226, 2, none⟩) (Kd.V_far (p := ⟨gb226, 1, none⟩) (Kd.V_far (p := ⟨gb226, 0, none⟩) (Kd.V_far (p := ⟨gb237, 2, none⟩) (Kd.V_far (p := ⟨gb237, 1, none⟩) (Kd.V_far (p := ⟨gb237, 0, none⟩) (Kd.V_far (p := ⟨gb236, 1, none⟩) (Kd.V_far (p := ⟨gb236, 0, none⟩) (Kd.V_mono (Kd.V_mono (Kd.V_mono HO_0.out (fun k_ hk => (⟨hk, hk.1.2⟩ : _ ∧ k_ ≠ gb236))) (fun k_ hk => (⟨hk, hk.1.2⟩ : _ ∧ k_ ≠ gb237))) (fun k_ hk => (⟨hk, hk.1.1.1.1.1.2.2.2.2.1⟩ : _ ∧ k_ ≠ gb226))) (fun _ hk => hk.1.1.2) (.int .i64 t228)) (fun _ hk => hk.1.1.2) (.int .i64 t229)) (fun _ hk => hk.1.2) (.slice Ao45 t230.length co45)) (fun _ hk => hk.1.2) (.int .i64 t233)) (fun _ hk => hk.1.2) (.int .i64 t234)) (fun _ hk => hk.2) (.slice Ao45 t230.length co45)) (fun _ hk => hk.2) (.int .i64 t233)) (fun _ hk => hk.2) (.int .i64 t234)) (fun _ hk => ⟨⟨hk.1.1.1.1.1.1.1, ⟨hk.1.1.1.1.1.1.2.2.1, ⟨hk.1.1.1.1.1.2, ⟨hk.1.1.1.1.1.1.2.2.2.1, ⟨hk.1.1.1.1.1.1.2.2.2.2.1, ⟨hk.1.1.1.1.1.1.2.2.2.2.2, ⟨hk.1.1.1.1.2, hk.1.1.1.2⟩⟩⟩⟩⟩⟩⟩, hk.1.1.1.1.1.1.2.1⟩)) hg hat); have n1_ := Aside0.mk (Kd.V_afterv (ok := (fun k_ => (P0_ k_ ∨ w.heap.size ≤ k_) ∧ some k_ ≠ (u228000 : Value).ownBlock ∧ some k_ ≠ (.slice Ao45 t230.length co45 : Value).ownBlock ∧ k_ ≠ gb221 ∧ k_ ≠ gb226 ∧ k_ ≠ gb227 ∧ k_ ≠ gb236 ∧ k_ ≠ gb237)) (by (with_reducible repeat (first | apply Kd.V_alloc | apply Kd.V_drewN | apply Kd.V_drew)); exact Kd.V_mono (Kd.V_far (p := ⟨gb226, 2, none⟩) (Kd.V_far (p := ⟨gb226, 1, none⟩) (Kd.V_far (p := ⟨gb226, 0, none⟩) (Kd.V_far (p := ⟨gb237, 2, none⟩) (Kd.V_far (p := ⟨gb237, 1, none⟩) (Kd.V_far (p := ⟨gb237, 0, none⟩) (Kd.V_far (p := ⟨gb236, 1, none⟩) (Kd.V_far (p := ⟨gb236, 0, none⟩) (Kd.V_mono (Kd.V_mono (Kd.V_mono HO_227000.out (fun k_ hk => (⟨hk, hk.1.2⟩ : _ ∧ k_ ≠ gb236))) (fun k_ hk => (⟨hk, hk.1.2⟩ : _ ∧ k_ ≠ gb237))) (fun k_ hk => (⟨hk, hk.1.1.1.1.1.2.2.2.2.1⟩ : _ ∧ k_ ≠ gb226))) (fun _ hk => hk.1.1.2) (.int .i64 t228)) (fun _ hk => hk.1.1.2) (.int .i64 t229)) (fun _ hk => hk.1.2) (.slice Ao45 t230.length co45)) (fun _ hk => hk.1.2) (.int .i64 t233)) (fun _ hk => hk.1.2) (.int .i64 t234)) (fun _ hk => hk.2) (.slice Ao45 t230.length co45)) (fun _ hk => hk.2) (.int .i64 t233)) (fun _ hk => hk.2) (.int .i64 t234)) (fun _ hk => ⟨⟨hk.1.1.1.1.1.1.1, ⟨hk.1.1.1.1.1.1.2.2.1, ⟨hk.1.1.1.1.1.2, ⟨hk.1.1.1.1.1.1.2.2.2.1, ⟨hk.1.1.1.1.1.1.2.2.2.2.1, ⟨hk.1.1.1.1.1.1.2.2.2.2.2, ⟨hk.1.1.1.1.2, hk.1.1.1.2⟩⟩⟩⟩⟩⟩⟩, hk.1.1.1.1.1.1.2.1⟩)) hg hat); have n2_ := Aside0.mk (Kd.R_over' (by exact (Kd.R_mono (Kd.R_mono (Kd.R_mono (Kd.R_far (p := ⟨gb226, 2, none⟩) (Kd.R_far (p := ⟨gb226, 1, none⟩) (Kd.R_far (p := ⟨gb226, 0, none⟩) (Kd.R_far (p := ⟨gb237, 2, none⟩) (Kd.R_far (p := ⟨gb237, 1, none⟩) (Kd.R_far (p := ⟨gb237, 0, none⟩) (Kd.R_far (p := ⟨gb236, 1, none⟩) (Kd.R_far (p := ⟨gb236, 0, none⟩) (Kd.R_types (Kd.R_types (Kd.R_types HO_228000.out BK236.out (by decide)) BK237.out (by decide)) BK226.out (by decide)) (fun _ hk => hk.1.1.2) (.int .i64 t228)) (fun _ hk => hk.1.1.2) (.int .i64 t229)) (fun _ hk => hk.1.2) (.slice Ao45 t230.length co45)) (fun _ hk => hk.1.2) (.int .i64 t233)) (fun _ hk => hk.1.2) (.int .i64 t234)) (fun _ hk => hk.2) (.slice Ao45 t230.length co45)) (fun _ hk => hk.2) (.int .i64 t233)) (fun _ hk => hk.2) (.int .i64 t234)) (fun _ h_ => h_.1)) (fun _ h_ => h_.1)) (fun _ h_ => h_.1))) (Kd.R_typed (by exact (Kd.R_mono (Kd.R_mono (Kd.R_mono (Kd.R_far (p := ⟨gb226, 2, none⟩) (Kd.R_far (p := ⟨gb226, 1, none⟩) (Kd.R_far (p := ⟨gb226, 0, none⟩) (Kd.R_far (p := ⟨gb237, 2, none⟩) (Kd.R_far (p := ⟨gb237, 1, none⟩) (Kd.R_far (p := ⟨gb237, 0, none⟩) (Kd.R_far (p := ⟨gb236, 1, none⟩) (Kd.R_far (p := ⟨gb236, 0, none⟩) (Kd.R_types (Kd.R_types (Kd.R_mono HO_14.out (fun k_ hk => (⟨hk, hk.2⟩ : _ ∧ k_ ≠ gb236))) BK237.out (by decide)) BK226.out (by decide)) (fun _ hk => hk.1.1.2) (.int .i64 t228)) (fun _ hk => hk.1.1.2) (.int .i64 t229)) (fun _ hk => hk.1.2) (.slice Ao45 t230.length co45)) (fun _ hk => hk.1.2) (.int .i64 t233)) (fun _ hk => hk.1.2) (.int .i64 t234)) (fun _ hk => hk.2) (.slice Ao45 t230.length co45)) (fun _ hk => hk.2) (.int .i64 t233)) (fun _ hk => hk.2) (.int .i64 t234)) (fun _ h_ => h_.1)) (fun _ h_ => h_.1)) (fun _ h_ => h_.1)))) (by decide) hg); have n3_ := Aside0.mk (blk_grown (g := gb221) (o := .cells #[.slice none 0 0, .int .i64 0, .int .i64 0, .bool false] 69 (0, 0)) (by refine blk_far ?_ NB221_226.out _; refine blk_far ?_ NB221_226.out _; refine blk_far ?_ NB221_226.out _; refine blk_far ?_ NB221_237.out _; refine blk_far ?_ NB221_237.out _; refine blk_far ?_ NB221_237.out _; refine blk_far ?_ NB221_236.out _; refine blk_far ?_ NB221_236.out _; exact BK221.out) hg (Kd.R_ne HO_14.out BK221.out (by decide))); have n4_ := Aside0.mk (blk_grown (g := gb226) (o := .cells #[.slice Ao45 t230.length co45, .int .i64 t233, .int .i64 t234] 55 (0, 0)) (by refine blk_put (cs := #[.slice Ao45 t230.length co45, .int .i64 t233, .int .i64 x227002_2]) ?_ 2 _ rfl; refine blk_put (cs := #[.slice Ao45 t230.length co45, .int .i64 ji23, .int .i64 x227002_2]) ?_ 1 _ rfl; refine blk_put (cs := #[.slice Ao36 x227000_2.length co36, .int .i64 ji23, .int .i64 x227002_2]) ?_ 0 _ rfl; refine blk_far ?_ NB226_237.out _; refine blk_far ?_ NB226_237.out _; refine blk_far ?_ NB226_237.out _; refine blk_far ?_ NB226_236.out _; refine blk_far ?_ NB226_236.out _; exact BK226.out) hg (Kd.R_ne HO_14.out BK226.out (by decide))); have n5_ := Aside0.mk (blk_grown (g := gb227) (o := .cells #[u228000, .int .i64 x228001_2, .int .i64 x228002_2, .bool false] 69 (0, 0)) (by refine blk_far ?_ NB227_226.out _; refine blk_far ?_ NB227_226.out _; refine blk_far ?_ NB227_226.out _; refine blk_far ?_ NB227_237.out _; refine blk_far ?_ NB227_237.out _; refine blk_far ?_ NB227_237.out _; refine blk_far ?_ NB227_236.out _; refine blk_far ?_ NB227_236.out _; exact BK227.out) hg (Kd.R_ne HO_14.out BK227.out (by decide))); have n6_ := Aside0.mk (Kd.R_over' (by exact (Kd.R_mono (Kd.R_mono (Kd.R_mono (Kd.R_far (p := ⟨gb226, 2, none⟩) (Kd.R_far (p := ⟨gb226, 1, none⟩) (Kd.R_far (p := ⟨gb226, 0, none⟩) (Kd.R_far (p := ⟨gb237, 2, none⟩) (Kd.R_far (p := ⟨gb237, 1, none⟩) (Kd.R_far (p := ⟨gb237, 0, none⟩) (Kd.R_far (p := ⟨gb236, 1, none⟩) (Kd.R_far (p := ⟨gb236, 0, none⟩) (Kd.R_types (Kd.R_types (Kd.R_types HO232.out BK236.out (by decide)) BK237.out (by decide)) BK226.out (by decide)) (fun _ hk => hk.1.1.2) (.int .i64 t228)) (fun _ hk => hk.1.1.2) (.int .i64 t229)) (fun _ hk => hk.1.2) (.slice Ao45 t230.length co45)) (fun _ hk => hk.1.2) (.int .i64 t233)) (fun _ hk => hk.1.2) (.int .i64 t234)) (fun _ hk => hk.2) (.slice Ao45 t230.length co45)) (fun _ hk => hk.2) (.int .i64 t233)) (fun _ hk => hk.2) (.int .i64 t234)) (fun _ h_ => h_.1)) (fun _ h_ => h_.1)) (fun _ h_ => h_.1))) (Kd.R_typed (by exact (Kd.R_mono (Kd.R_mono (Kd.R_mono (Kd.R_far (p := ⟨gb226, 2, none⟩) (Kd.R_far (p := ⟨gb226, 1, none⟩) (Kd.R_far (p := ⟨gb226, 0, none⟩) (Kd.R_far (p := ⟨gb237, 2, none⟩) (Kd.R_far (p := ⟨gb237, 1, none⟩) (Kd.R_far (p := ⟨gb237, 0, none⟩) (Kd.R_far (p := ⟨gb236, 1, none⟩) (Kd.R_far (p := ⟨gb236, 0, none⟩) (Kd.R_types (Kd.R_types (Kd.R_mono HO_14.out (fun k_ hk => (⟨hk, hk.2⟩ : _ ∧ k_ ≠ gb236))) BK237.out (by decide)) BK226.out (by decide)) (fun _ hk => hk.1.1.2) (.int .i64 t228)) (fun _ hk => hk.1.1.2) (.int .i64 t229)) (fun _ hk => hk.1.2) (.slice Ao45 t230.length co45)) (fun _ hk => hk.1.2) (.int .i64 t233)) (fun _ hk => hk.1.2) (.int .i64 t234)) (fun _ hk => hk.2) (.slice Ao45 t230.length co45)) (fun _ hk => hk.2) (.int .i64 t233)) (fun _ hk => hk.2) (.int .i64 t234)) (fun _ h_ => h_.1)) (fun _ h_ => h_.1)) (fun _ h_ => h_.1)))) (by decide) hg); have n7_ := Aside0.mk (blk_grown (g := gb236) (o := .cells #[.int .i64 t228, .int .i64 t229] 54 (0, 0)) (by refine blk_far ?_ NB236_226.out _; refine blk_far ?_ NB236_226.out _; refine blk_far ?_ NB236_226.out _; refine blk_far ?_ NB236_237.out _; refine blk_far ?_ NB236_237.out _; refine blk_far ?_ NB236_237.out _; refine blk_put (cs := #[.int .i64 t228, .int .i64 0]) ?_ 1 _ rfl; refine blk_put (cs := #[.int .i64 0, .int .i64 0]) ?_ 0 _ rfl; exact BK236.out) hg (Kd.R_away HO_14.out (fun _ hk => hk.2))); have n8_ := Aside0.mk (blk_grown (g := gb237) (o := .cells #[.slice Ao45 t230.length co45, .int .i64 t233, .int .i64 t234] 55 (0, 0)) (by refine blk_far ?_ NB237_226.out _; refine blk_far ?_ NB237_226.out _; refine blk_far ?_ NB237_226.out _; refine blk_put (cs := #[.slice Ao45 t230.length co45, .int .i64 t233, .int .i64 0]) ?_ 2 _ rfl; refine blk_put (cs := #[.slice Ao45 t230.length co45, .int .i64 0, .int .i64 0]) ?_ 1 _ rfl; refine blk_put (cs := #[.slice none 0 0, .int .i64 0, .int .i64 0]) ?_ 0 _ rfl; refine blk_far ?_ NB237_236.out _; refine blk_far ?_ NB237_236.out _; exact BK237.out) hg (Kd.R_ne HO_14.out BK237.out (by decide))); have n9_ := Aside0.mk (hb); have n10_ := Aside0.mk (ho); clear HO_0; clear HO_227000; clear HO_228000; clear BK221; clear BK226; clear BK227; clear HO232; clear BK236; clear BK237; clear HB; clear HO_14; have HO_0 := n0_; have HO_227000 := n1_; have HO_228000 := n2_; have BK221 := n3_; have BK226 := n4_; have BK227 := n5_; have HO232 := n6_; have BK236 := n7_; have BK237 := n8_; have HB := n9_; have HO241 := n10_; clear n0_ n1_ n2_ n3_ n4_ n5_ n6_ n7_ n8_ n9_ n10_; clear ho hb hg hat))
                            go_meet
                            case rel => exact ⟨_, (([] : List (S54))), (y239), H', ⟨by have := HJ5.out; have := HK2.out; first | omega | exact Nat.le_refl _⟩, ⟨by (with_reducible repeat (first | apply Kd.V_alloc | apply Kd.V_drewN | apply Kd.V_drew)); exact Kd.V_mono HO_0.out (fun _ hk => ⟨hk.1.1, ⟨(by simp [Value.ownBlock]), ⟨hk.2, ⟨hk.1.2.2.1, ⟨hk.1.2.1, ⟨hk.1.2.2.1, ⟨hk.1.2.2.2.1, ⟨hk.1.2.2.2.2.1, ⟨hk.1.2.2.2.2.2.1, ⟨hk.1.2.2.2.2.2.2.1, hk.1.2.2.2.2.2.2.2⟩⟩⟩⟩⟩⟩⟩⟩⟩⟩)⟩, ⟨by first | exact Kd.R_nil _ _ _ _ _ | exact Kd.N_nil _ _ _ _ _ | exact Kd.V_nil _ _ _ _ _ | exact Kd.Q_nil _ _ _ _ _ | exact Kd.S_nil _ _ _ _ _⟩, ⟨by exact Kd.R_mono HO241.out (fun _ hk => ⟨hk.1, ⟨(by simp [Value.ownBlock]), hk.2⟩⟩)⟩, ⟨by exact Kd.R_mono HO232.out (fun _ hk => ⟨hk.1.1, hk.2⟩)⟩, ⟨by exact Kd.R_mono HO_228000.out (fun _ hk => ⟨hk.1, ⟨hk.2, hk.2⟩⟩)⟩, ⟨by exact Kd.R_mono HO232.out (fun _ hk => ⟨hk.1.1, hk.2⟩)⟩, ⟨by exact BK221.out⟩, ⟨by exact BK226.out⟩, ⟨by exact BK227.out⟩, ⟨by exact BK236.out⟩, ⟨by exact BK237.out⟩, ⟨by repeat (first | (with_reducible first | exact HB.out | apply below_alloc | apply pw_below_drewN | apply below_drew1 | refine below_set ?_ GE221.out | refine below_set ?_ GE226.out | refine below_set ?_ GE227.out | refine below_set ?_ GE236.out | refine below_set ?_ GE237.out) | exact HB.out)⟩⟩
                          · rw [if_neg c53] at H
                            exact absurd H (by simp)
                        · rw [if_neg c52] at H
                          have c52b0 : ((rd l2 (ji27)) == 0) = false := beq_eq_false_iff_ne.mpr c52
                          have c52b1 : ((rd l2 (ji27)) != 0) = true := bne_iff_ne.mpr c52
                          (first | rw [c52b0] | (simp only [i64_w, i32_w]; rw [c52b0]) | skip)
                          by_cases c60 : (rd l2 (ji27)) = 2
                          · rw [if_pos c60] at H
                            have c60b0 : ((rd l2 (ji27)) == 2) = true := beq_iff_eq.mpr c60
                            have c60b1 : ((rd l2 (ji27)) != 2) = false := bne_eq_false_iff_eq.mpr c60
                            clear c60
                            obtain ⟨y242, hy242⟩ : ∃ y_ : List (S54), y_ = (([(⟨t228, t229⟩ : S54), (⟨t228, t229⟩ : S54)] : List (S54))) := ⟨_, rfl⟩
                            replace H : (if x14_2.length + y242.length < 8796093022208 then (impl_TalkAll.j2 k2 l0 a1 l2 l3 a4 ([] : List (S54)) (-1) (x14_2 ++ y242) t230 t233 t234 x228000_2 x228001_2 x228002_2 false) else (none)) = some (r1, r2, r3, r4, r5) := by first | (rw [hy242]; with_reducible exact H) | (have H2_ := (Option.bind_some _ _).symm.trans H; rw [hy242]; with_reducible exact H2_) | (have H2_ := (Option.bind_some _ _).symm.trans H; with_reducible exact H2_) | with_reducible exact H | (rw [hy242]; exact H) | exact H
                            have Ny242 := Aside0.mk hy242
                            clear hy242
                            by_cases c61 : x14_2.length + y242.length < 8796093022208
                            · rw [if_pos c61] at H
                              have LMc61 := Aside0.mk c61
                              clear c61
                              obtain ⟨y245, hy245⟩ : ∃ y_ : List (S54), y_ = (x14_2 ++ y242) := ⟨_, rfl⟩
                              replace H : (impl_TalkAll.j2 k2 l0 a1 l2 l3 a4 ([] : List (S54)) (-1) y245 t230 t233 t234 x228000_2 x228001_2 x228002_2 false) = some (r1, r2, r3, r4, r5) := by first | (rw [hy245]; with_reducible exact H) | (have H2_ := (Option.bind_some _ _).symm.trans H; rw [hy245]; with_reducible exact H2_) | (have H2_ := (Option.bind_some _ _).symm.trans H; with_reducible exact H2_) | with_reducible exact H | (rw [hy245]; exact H) | exact H
                              have Ny245 := Aside0.mk hy245
                              clear hy245
                              have H' := Aside0.mk H
                              clear H
                              have hnb62 := NB236_221.out
                              have hnc62 := NB221_236.out
                              have hnb63 := NB236_226.out
                              have hnc63 := NB226_236.out
                              have hnb64 := NB236_227.out
                              have hnc64 := NB227_236.out
                              have hnb65 := NB236_237.out
                              have hnc65 := NB237_236.out
                              have hcz66_0 : w39.cell? ⟨gb236, 0, none⟩ = some (.int .i64 0) := (blk_cell BK236.out 0).trans rfl
                              have hcz66_1 : w39.cell? ⟨gb236, 1, none⟩ = some (.int .i64 0) := (blk_cell BK236.out 1).trans rfl
                              have hfz66_0 := blk_frozen BK236.out 0
                              have hfz66_1 := blk_frozen BK236.out 1
                              go_wp2_with (first | ((with_reducible refine gate_dst (N := 86) rfl ?_); refine Kd.R_lit k54 _ 54 ?hg (N := 86) ?hd (xs := ([(⟨t228, t229⟩ : S54), (⟨t228, t229⟩ : S54)] : List (S54))) (inner := [.int .i64 t228, .int .i64 t229, .int .i64 t228, .int .i64 t229]) (ok := fun _ => True) (okp := fun _ => True) ?hr ?hp (fun _ hk => hk) trivial (Below.refl _ _) (Nat.le_refl _) (by simp) ?_; (case hd => rfl); (case hg => rfl); (case hr => first | (go_simp; done) | (go_simp; rfl)); (case hp => exact (Reps.c2 (show Kd.M k54 _ _ _ (⟨t228, t229⟩ : S54) [.int .i64 t228, .int .i64 t229] from (k54_mkM _ _ _ (⟨t228, t229⟩ : S54) )) (Reps.c2 (show Kd.M k54 _ _ _ (⟨t228, t229⟩ : S54) [.int .i64 t228, .int .i64 t229] from (k54_mkM _ _ _ (⟨t228, t229⟩ : S54) )) (Reps.none _ _)))); intro v243 w67 ho68 hb hg_ hnew_; clear hg_ hnew_; (first | rw [← Ny242.out] at ho68 | (simp only [Int.reduceToNat] at ho68; rw [← Ny242.out] at ho68)); have n0_ := Aside0.mk (Kd.V_elder' (by (with_reducible repeat (first | apply Kd.V_alloc | apply Kd.V_drewN | apply Kd.V_drew)); exact (Kd.V_mono (Kd.V_mono (Kd.V_mono (Kd.V_far (p := ⟨gb226, 2, none⟩) (Kd.V_far (p := ⟨gb226, 1, none⟩) (Kd.V_far (p := ⟨gb226, 0, none⟩) (Kd.V_far (p := ⟨gb237, 2, none⟩) (Kd.V_far (p := ⟨gb237, 1, none⟩) (Kd.V_far (p := ⟨gb237, 0, none⟩) (Kd.V_far (p := ⟨gb236, 1, none⟩) (Kd.V_far (p := ⟨gb236, 0, none⟩) (Kd.V_mono (Kd.V_mono (Kd.V_mono HO_0.out (fun k_ hk => (⟨hk, hk.1.2⟩ : _ ∧ k_ ≠ gb236))) (fun k_ hk => (⟨hk, hk.1.2⟩ : _ ∧ k_ ≠ gb237))) (fun k_ hk => (⟨hk, hk.1.1.1.1.1.2.2.2.2.1⟩ : _ ∧ k_ ≠ gb226))) (fun _ hk => hk.1.1.2) (.int .i64 t228)) (fun _ hk => hk.1.1.2) (.int .i64 t229)) (fun _ hk => hk.1.2) (.slice Ao45 t230.length co45)) (fun _ hk => hk.1.2) (.int .i64 t233)) (fun _ hk => hk.1.2) (.int .i64 t234)) (fun _ hk => hk.2) (.slice Ao45 t230.length co45)) (fun _ hk => hk.2) (.int .i64 t233)) (fun _ hk => hk.2) (.int .i64 t234)) (fun _ h_ => h_.1)) (fun _ h_ => h_.1)) (fun _ h_ => h_.1))) (Kd.R_base ho68) hb); have n1_ := Aside0.mk (Kd.R_elder' (by exact (Kd.R_mono (Kd.R_mono (Kd.R_mono (Kd.R_far (p := ⟨gb226, 2, none⟩) (Kd.R_far (p := ⟨gb226, 1, none⟩) (Kd.R_far (p := ⟨gb226, 0, none⟩) (Kd.R_far (p := ⟨gb237, 2, none⟩) (Kd.R_far (p := ⟨gb237, 1, none⟩) (Kd.R_far (p := ⟨gb237, 0, none⟩) (Kd.R_far (p := ⟨gb236, 1, none⟩) (Kd.R_far (p := ⟨gb236, 0, none⟩) (Kd.R_types (Kd.R_types (Kd.R_mono HO_14.out (fun k_ hk => (⟨hk, hk.2⟩ : _ ∧ k_ ≠ gb236))) BK237.out (by decide)) BK226.out (by decide)) (fun _ hk => hk.1.1.2) (.int .i64 t228)) (fun _ hk => hk.1.1.2) (.int .i64 t229)) (fun _ hk => hk.1.2) (.slice Ao45 t230.length co45)) (fun _ hk => hk.1.2) (.int .i64 t233)) (fun _ hk => hk.1.2) (.int .i64 t234)) (fun _ hk => hk.2) (.slice Ao45 t230.length co45)) (fun _ hk => hk.2) (.int .i64 t233)) (fun _ hk => hk.2) (.int .i64 t234)) (fun _ h_ => h_.1)) (fun _ h_ => h_.1)) (fun _ h_ => h_.1))) (Kd.R_base ho68) hb); have n2_ := Aside0.mk (Kd.V_elder' (by (with_reducible repeat (first | apply Kd.V_alloc | apply Kd.V_drewN | apply Kd.V_drew)); exact (Kd.V_mono (Kd.V_mono (Kd.V_mono (Kd.V_far (p := ⟨gb226, 2, none⟩) (Kd.V_far (p := ⟨gb226, 1, none⟩) (Kd.V_far (p := ⟨gb226, 0, none⟩) (Kd.V_far (p := ⟨gb237, 2, none⟩) (Kd.V_far (p := ⟨gb237, 1, none⟩) (Kd.V_far (p := ⟨gb237, 0, none⟩) (Kd.V_far (p := ⟨gb236, 1, none⟩) (Kd.V_far (p := ⟨gb236, 0, none⟩) (Kd.V_mono (Kd.V_mono (Kd.V_mono HO_227000.out (fun k_ hk => (⟨hk, hk.1.2⟩ : _ ∧ k_ ≠ gb236))) (fun k_ hk => (⟨hk, hk.1.2⟩ : _ ∧ k_ ≠ gb237))) (fun k_ hk => (⟨hk, hk.1.1.1.1.1.2.2.2.2.1⟩ : _ ∧ k_ ≠ gb226))) (fun _ hk => hk.1.1.2) (.int .i64 t228)) (fun _ hk => hk.1.1.2) (.int .i64 t229)) (fun _ hk => hk.1.2) (.slice Ao45 t230.length co45)) (fun _ hk => hk.1.2) (.int .i64 t233)) (fun _ hk => hk.1.2) (.int .i64 t234)) (fun _ hk => hk.2) (.slice Ao45 t230.length co45)) (fun _ hk => hk.2) (.int .i64 t233)) (fun _ hk => hk.2) (.int .i64 t234)) (fun _ h_ => h_.1)) (fun _ h_ => h_.1)) (fun _ h_ => h_.1))) (Kd.R_base ho68) hb); have n3_ := Aside0.mk (Kd.R_below (by exact (Kd.R_mono (Kd.R_mono (Kd.R_mono (Kd.R_far (p := ⟨gb226, 2, none⟩) (Kd.R_far (p := ⟨gb226, 1, none⟩) (Kd.R_far (p := ⟨gb226, 0, none⟩) (Kd.R_far (p := ⟨gb237, 2, none⟩) (Kd.R_far (p := ⟨gb237, 1, none⟩) (Kd.R_far (p := ⟨gb237, 0, none⟩) (Kd.R_far (p := ⟨gb236, 1, none⟩) (Kd.R_far (p := ⟨gb236, 0, none⟩) (Kd.R_types (Kd.R_types (Kd.R_types HO_228000.out BK236.out (by decide)) BK237.out (by decide)) BK226.out (by decide)) (fun _ hk => hk.1.1.2) (.int .i64 t228)) (fun _ hk => hk.1.1.2) (.int .i64 t229)) (fun _ hk => hk.1.2) (.slice Ao45 t230.length co45)) (fun _ hk => hk.1.2) (.int .i64 t233)) (fun _ hk => hk.1.2) (.int .i64 t234)) (fun _ hk => hk.2) (.slice Ao45 t230.length co45)) (fun _ hk => hk.2) (.int .i64 t233)) (fun _ hk => hk.2) (.int .i64 t234)) (fun _ h_ => h_.1)) (fun _ h_ => h_.1)) (fun _ h_ => h_.1))) hb); have n4_ := Aside0.mk (Kd.R_below (by exact (Kd.R_mono (Kd.R_mono (Kd.R_mono (Kd.R_far (p := ⟨gb226, 2, none⟩) (Kd.R_far (p := ⟨gb226, 1, none⟩) (Kd.R_far (p := ⟨gb226, 0, none⟩) (Kd.R_far (p := ⟨gb237, 2, none⟩) (Kd.R_far (p := ⟨gb237, 1, none⟩) (Kd.R_far (p := ⟨gb237, 0, none⟩) (Kd.R_far (p := ⟨gb236, 1, none⟩) (Kd.R_far (p := ⟨gb236, 0, none⟩) (Kd.R_types (Kd.R_types (Kd.R_types HO232.out BK236.out (by decide)) BK237.out (by decide)) BK226.out (by decide)) (fun _ hk => hk.1.1.2) (.int .i64 t228)) (fun _ hk => hk.1.1.2) (.int .i64 t229)) (fun _ hk => hk.1.2) (.slice Ao45 t230.length co45)) (fun _ hk => hk.1.2) (.int .i64 t233)) (fun _ hk => hk.1.2) (.int .i64 t234)) (fun _ hk => hk.2) (.slice Ao45 t230.length co45)) (fun _ hk => hk.2) (.int .i64 t233)) (fun _ hk => hk.2) (.int .i64 t234)) (fun _ h_ => h_.1)) (fun _ h_ => h_.1)) (fun _ h_ => h_.1))) hb); have n5_ := Aside0.mk (Kd.R_lower (Kd.R_newB (Kd.R_new' (Kd.R_newM (M := fun k_ => (w.heap.size ≤ k_)) ho68 (below_size (by repeat (first | (with_reducible first | exact HB.out | apply below_alloc | apply pw_below_drewN | apply below_drew1 | refine below_set ?_ GE221.out | refine below_set ?_ GE226.out | refine below_set ?_ GE227.out | refine below_set ?_ GE236.out | refine below_set ?_ GE237.out) | exact HB.out))) (fun k_ h_ => h_)) (Kd.R_lt (by exact (Kd.R_mono (Kd.R_mono (Kd.R_mono (Kd.R_far (p := ⟨gb226, 2, none⟩) (Kd.R_far (p := ⟨gb226, 1, none⟩) (Kd.R_far (p := ⟨gb226, 0, none⟩) (Kd.R_far (p := ⟨gb237, 2, none⟩) (Kd.R_far (p := ⟨gb237, 1, none⟩) (Kd.R_far (p := ⟨gb237, 0, none⟩) (Kd.R_far (p := ⟨gb236, 1, none⟩) (Kd.R_far (p := ⟨gb236, 0, none⟩) (Kd.R_types (Kd.R_types (Kd.R_mono HO_14.out (fun k_ hk => (⟨hk, hk.2⟩ : _ ∧ k_ ≠ gb236))) BK237.out (by decide)) BK226.out (by decide)) (fun _ hk => hk.1.1.2) (.int .i64 t228)) (fun _ hk => hk.1.1.2) (.int .i64 t229)) (fun _ hk => hk.1.2) (.slice Ao45 t230.length co45)) (fun _ hk => hk.1.2) (.int .i64 t233)) (fun _ hk => hk.1.2) (.int .i64 t234)) (fun _ hk => hk.2) (.slice Ao45 t230.length co45)) (fun _ hk => hk.2) (.int .i64 t233)) (fun _ hk => hk.2) (.int .i64 t234)) (fun _ h_ => h_.1)) (fun _ h_ => h_.1)) (fun _ h_ => h_.1))))) (g := gb236) (o := .cells #[.int .i64 t228, .int .i64 t229] 54 (0, 0)) (by refine blk_far ?_ NB236_226.out _; refine blk_far ?_ NB236_226.out _; refine blk_far ?_ NB236_226.out _; refine blk_far ?_ NB236_237.out _; refine blk_far ?_ NB236_237.out _; refine blk_far ?_ NB236_237.out _; refine blk_put (cs := #[.int .i64 t228, .int .i64 0]) ?_ 1 _ rfl; refine blk_put (cs := #[.int .i64 0, .int .i64 0]) ?_ 0 _ rfl; exact BK236.out)) (below_size (by repeat (first | (with_reducible first | exact HB.out | apply below_alloc | apply pw_below_drewN | apply below_drew1 | refine below_set ?_ GE221.out | refine below_set ?_ GE226.out | refine below_set ?_ GE227.out | refine below_set ?_ GE236.out | refine below_set ?_ GE237.out) | exact HB.out)))); have n6_ := Aside0.mk (blk_below (g := gb221) (o := .cells #[.slice none 0 0, .int .i64 0, .int .i64 0, .bool false] 69 (0, 0)) (by refine blk_far ?_ NB221_226.out _; refine blk_far ?_ NB221_226.out _; refine blk_far ?_ NB221_226.out _; refine blk_far ?_ NB221_237.out _; refine blk_far ?_ NB221_237.out _; refine blk_far ?_ NB221_237.out _; refine blk_far ?_ NB221_236.out _; refine blk_far ?_ NB221_236.out _; exact BK221.out) hb); have n7_ := Aside0.mk (blk_below (g := gb226) (o := .cells #[.slice Ao45 t230.length co45, .int .i64 t233, .int .i64 t234] 55 (0, 0)) (by refine blk_put (cs := #[.slice Ao45 t230.length co45, .int .i64 t233, .int .i64 x227002_2]) ?_ 2 _ rfl; refine blk_put (cs := #[.slice Ao45 t230.length co45, .int .i64 ji23, .int .i64 x227002_2]) ?_ 1 _ rfl; refine blk_put (cs := #[.slice Ao36 x227000_2.length co36, .int .i64 ji23, .int .i64 x227002_2]) ?_ 0 _ rfl; refine blk_far ?_ NB226_237.out _; refine blk_far ?_ NB226_237.out _; refine blk_far ?_ NB226_237.out _; refine blk_far ?_ NB226_236.out _; refine blk_far ?_ NB226_236.out _; exact BK226.out) hb); have n8_ := Aside0.mk (blk_below (g := gb227) (o := .cells #[u228000, .int .i64 x228001_2, .int .i64 x228002_2, .bool false] 69 (0, 0)) (by refine blk_far ?_ NB227_226.out _; refine blk_far ?_ NB227_226.out _; refine blk_far ?_ NB227_226.out _; refine blk_far ?_ NB227_237.out _; refine blk_far ?_ NB227_237.out _; refine blk_far ?_ NB227_237.out _; refine blk_far ?_ NB227_236.out _; refine blk_far ?_ NB227_236.out _; exact BK227.out) hb); have n9_ := Aside0.mk (blk_below (g := gb236) (o := .cells #[.int .i64 t228, .int .i64 t229] 54 (0, 0)) (by refine blk_far ?_ NB236_226.out _; refine blk_far ?_ NB236_226.out _; refine blk_far ?_ NB236_226.out _; refine blk_far ?_ NB236_237.out _; refine blk_far ?_ NB236_237.out _; refine blk_far ?_ NB236_237.out _; refine blk_put (cs := #[.int .i64 t228, .int .i64 0]) ?_ 1 _ rfl; refine blk_put (cs := #[.int .i64 0, .int .i64 0]) ?_ 0 _ rfl; exact BK236.out) hb); have n10_ := Aside0.mk (blk_below (g := gb237) (o := .cells #[.slice Ao45 t230.length co45, .int .i64 t233, .int .i64 t234] 55 (0, 0)) (by refine blk_far ?_ NB237_226.out _; refine blk_far ?_ NB237_226.out _; refine blk_far ?_ NB237_226.out _; refine blk_put (cs := #[.slice Ao45 t230.length co45, .int .i64 t233, .int .i64 0]) ?_ 2 _ rfl; refine blk_put (cs := #[.slice Ao45 t230.length co45, .int .i64 0, .int .i64 0]) ?_ 1 _ rfl; refine blk_put (cs := #[.slice none 0 0, .int .i64 0, .int .i64 0]) ?_ 0 _ rfl; refine blk_far ?_ NB237_236.out _; refine blk_far ?_ NB237_236.out _; exact BK237.out) hb); have n11_ := Aside0.mk (below_step (by repeat (first | (with_reducible first | exact HB.out | apply below_alloc | apply pw_below_drewN | apply below_drew1 | refine below_set ?_ GE221.out | refine below_set ?_ GE226.out | refine below_set ?_ GE227.out | refine below_set ?_ GE236.out | refine below_set ?_ GE237.out) | exact HB.out)) hb); clear HO_0; clear HO_14; clear HO_227000; clear HO_228000; clear HO232; clear BK221; clear BK226; clear BK227; clear BK236; clear BK237; clear HB; have HO_0 := n0_; have HO_14 := n1_; have HO_227000 := n2_; have HO_228000 := n3_; have HO232 := n4_; have HO244 := n5_; have BK221 := n6_; have BK226 := n7_; have BK227 := n8_; have BK236 := n9_; have BK237 := n10_; have HB := n11_; clear n0_ n1_ n2_ n3_ n4_ n5_ n6_ n7_ n8_ n9_ n10_ n11_; clear hb ho68; obtain ⟨Ao70, co70, eo70⟩ := Kd.R_slice HO244.out; subst eo70) | ((with_reducible refine gate_builtin (b := .append) (xs := #[.tmp 83, .tmp 86]) rfl ?_); at_builtin; refine Kd.R_append_rows k54 (w0 := w) w.heap.size rfl (.tmp 83) (.tmp 86) 37 54 (.agg #[(.int .i64 0), (.int .i64 0)]) 16 rfl Try.underlying37 info54 rfl (by decide) (by omega) u14 x14_2 y242 _ _ _ (fun k_ => (w.heap.size ≤ k_) ∧ some k_ ≠ (.slice Ao70 y242.length co70 : Value).ownBlock ∧ k_ ≠ gb236) (fun _ => False) rfl rfl ?aO ?aR (fun _ _ h => h) (fun _ h => h.elim) ?aF ?aB ?aS ?aL ?_; (case aR => repeat (first | exact (Kd.R_reads' HO244.out).2.2 | (with_reducible refine Kd.C_alloc ?_ _) | (with_reducible refine Kd.C_drewN ?_ _) | (with_reducible refine Kd.C_drew ?_))); (case aB => exact (by repeat (first | (with_reducible first | exact HB.out | apply below_alloc | apply pw_below_drewN | apply below_drew1 | refine below_set ?_ GE221.out | refine below_set ?_ GE226.out | refine below_set ?_ GE227.out | refine below_set ?_ GE236.out | refine below_set ?_ GE237.out) | exact HB.out))); (case aF => exact (fun k_ hk => ⟨(Nat.le_trans (below_size (by repeat (first | (with_reducible first | exact HB.out | apply below_alloc | apply pw_below_drewN | apply below_drew1 | refine below_set ?_ GE221.out | refine below_set ?_ GE226.out | refine below_set ?_ GE227.out | refine below_set ?_ GE236.out | refine below_set ?_ GE237.out) | exact HB.out))) hk), Kd.fresh' (Kd.R_lt HO244.out) k_ hk, Kd.freshB (g := gb236) (o := .cells #[.int .i64 t228, .int .i64 t229] 54 (0, 0)) BK236.out k_ hk⟩)); (case aO => exact (by exact Kd.R_mono HO_14.out (fun _ hk => ⟨hk.1.1, ⟨hk.2, hk.1.2⟩⟩))); (case aS => exact (below_size (by repeat (first | (with_reducible first | exact HB.out | apply below_alloc | apply pw_below_drewN | apply below_drew1 | refine below_set ?_ GE221.out | refine below_set ?_ GE226.out | refine below_set ?_ GE227.out | refine below_set ?_ GE236.out | refine below_set ?_ GE237.out) | exact HB.out)))); (case aL => have := LMc61.out; omega); intro v246 w69 ho hb hg hat; rw [← Ny245.out] at ho; have n0_ := Aside0.mk (Kd.V_afterv (ok := (fun k_ => (P0_ k_ ∨ w.heap.size ≤ k_) ∧ some k_ ≠ (u228000 : Value).ownBlock ∧ some k_ ≠ (.slice Ao45 t230.length co45 : Value).ownBlock ∧ some k_ ≠ (.slice Ao70 y242.length co70 : Value).ownBlock ∧ k_ ≠ gb221 ∧ k_ ≠ gb226 ∧ k_ ≠ gb227 ∧ k_ ≠ gb236 ∧ k_ ≠ gb237)) (by (with_reducible repeat (first | apply Kd.V_alloc | apply Kd.V_drewN | apply Kd.V_drew)); exact Kd.V_mono HO_0.out (fun _ hk => ⟨⟨hk.1.1.1.1.1, ⟨hk.1.1.1.1.2.2.1, ⟨hk.1.1.1.2, ⟨hk.2, ⟨hk.1.1.1.1.2.2.2.1, ⟨hk.1.1.1.1.2.2.2.2.1, ⟨hk.1.1.1.1.2.2.2.2.2, ⟨hk.1.1.2, hk.1.2⟩⟩⟩⟩⟩⟩⟩⟩, hk.1.1.1.1.2.1⟩)) hg hat); have n1_ := Aside0.mk (Kd.V_afterv (ok := (fun k_ => (P0_ k_ ∨ w.heap.size ≤ k_) ∧ some k_ ≠ (u228000 : Value).ownBlock ∧ some k_ ≠ (.slice Ao45 t230.length co45 : Value).ownBlock ∧ some k_ ≠ (.slice Ao70 y242.length co70 : Value).ownBlock ∧ k_ ≠ gb221 ∧ k_ ≠ gb226 ∧ k_ ≠ gb227 ∧ k_ ≠ gb236 ∧ k_ ≠ gb237)) (by (with_reducible repeat (first | apply Kd.V_alloc | apply Kd.V_drewN | apply Kd.V_drew)); exact Kd.V_mono HO_227000.out (fun _ hk => ⟨⟨hk.1.1.1.1.1, ⟨hk.1.1.1.1.2.2.1, ⟨hk.1.1.1.2, ⟨hk.2, ⟨hk.1.1.1.1.2.2.2.1, ⟨hk.1.1.1.1.2.2.2.2.1, ⟨hk.1.1.1.1.2.2.2.2.2, ⟨hk.1.1.2, hk.1.2⟩⟩⟩⟩⟩⟩⟩⟩, hk.1.1.1.1.2.1⟩)) hg hat); have n2_ := Aside0.mk (Kd.R_over' HO_228000.out (Kd.R_typed HO_14.out) (by decide) hg); have n3_ := Aside0.mk (blk_grown (g := gb221) (o := .cells #[.slice none 0 0, .int .i64 0, .int .i64 0, .bool false] 69 (0, 0)) BK221.out hg (Kd.R_ne HO_14.out BK221.out (by decide))); have n4_ := Aside0.mk (blk_grown (g := gb226) (o := .cells #[.slice Ao45 t230.length co45, .int .i64 t233, .int .i64 t234] 55 (0, 0)) BK226.out hg (Kd.R_ne HO_14.out BK226.out (by decide))); have n5_ := Aside0.mk (blk_grown (g := gb227) (o := .cells #[u228000, .int .i64 x228001_2, .int .i64 x228002_2, .bool false] 69 (0, 0)) BK227.out hg (Kd.R_ne HO_14.out BK227.out (by decide))); have n6_ := Aside0.mk (Kd.R_over' HO232.out (Kd.R_typed HO_14.out) (by decide) hg); have n7_ := Aside0.mk (blk_grown (g := gb236) (o := .cells #[.int .i64 t228, .int .i64 t229] 54 (0, 0)) BK236.out hg (Kd.R_away HO_14.out (fun _ hk => hk.1.2))); have n8_ := Aside0.mk (blk_grown (g := gb237) (o := .cells #[.slice Ao45 t230.length co45, .int .i64 t233, .int .i64 t234] 55 (0, 0)) BK237.out hg (Kd.R_ne HO_14.out BK237.out (by decide))); have n9_ := Aside0.mk (Kd.R_after (ok := (fun k_ => (w.heap.size ≤ k_) ∧ k_ ≠ gb236)) (by exact Kd.R_mono HO244.out (fun _ hk => ⟨⟨hk.1.1.1, hk.2⟩, hk.1.2⟩)) hg hat); have n10_ := Aside0.mk (hb); have n11_ := Aside0.mk (ho); clear HO_0; clear HO_227000; clear HO_228000; clear BK221; clear BK226; clear BK227; clear HO232; clear BK236; clear BK237; clear HO244; clear HB; clear HO_14; have HO_0 := n0_; have HO_227000 := n1_; have HO_228000 := n2_; have BK221 := n3_; have BK226 := n4_; have BK227 := n5_; have HO232 := n6_; have BK236 := n7_; have BK237 := n8_; have HO244 := n9_; have HB := n10_; have HO247 := n11_; clear n0_ n1_ n2_ n3_ n4_ n5_ n6_ n7_ n8_ n9_ n10_ n11_; clear ho hb hg hat))
                              go_meet
                              case rel => exact ⟨_, (([] : List (S54))), (y245), H', ⟨by have := HJ5.out; have := HK2.out; first | omega | exact Nat.le_refl _⟩, ⟨by (with_reducible repeat (first | apply Kd.V_alloc | apply Kd.V_drewN | apply Kd.V_drew)); exact Kd.V_mono HO_0.out (fun _ hk => ⟨hk.1.1, ⟨(by simp [Value.ownBlock]), ⟨hk.2, ⟨hk.1.2.2.1, ⟨hk.1.2.1, ⟨hk.1.2.2.1, ⟨hk.1.2.2.2.2.1, ⟨hk.1.2.2.2.2.2.1, ⟨hk.1.2.2.2.2.2.2.1, ⟨hk.1.2.2.2.2.2.2.2.1, hk.1.2.2.2.2.2.2.2.2⟩⟩⟩⟩⟩⟩⟩⟩⟩⟩)⟩, ⟨by first | exact Kd.R_nil _ _ _ _ _ | exact Kd.N_nil _ _ _ _ _ | exact Kd.V_nil _ _ _ _ _ | exact Kd.Q_nil _ _ _ _ _ | exact Kd.S_nil _ _ _ _ _⟩, ⟨by exact Kd.R_mono HO247.out (fun _ hk => ⟨hk.1, ⟨(by simp [Value.ownBlock]), hk.2.2⟩⟩)⟩, ⟨by exact Kd.R_mono HO232.out (fun _ hk => ⟨hk.1.1, hk.2⟩)⟩, ⟨by exact Kd.R_mono HO_228000.out (fun _ hk => ⟨hk.1, ⟨hk.2, hk.2⟩⟩)⟩, ⟨by exact Kd.R_mono HO232.out (fun _ hk => ⟨hk.1.1, hk.2⟩)⟩, ⟨by exact BK221.out⟩, ⟨by exact BK226.out⟩, ⟨by exact BK227.out⟩, ⟨by exact BK236.out⟩, ⟨by exact BK237.out⟩, ⟨by repeat (first | (with_reducible first | exact HB.out | apply below_alloc | apply pw_below_drewN | apply below_drew1 | refine below_set ?_ GE221.out | refine below_set ?_ GE226.out | refine below_set ?_ GE227.out | refine below_set ?_ GE236.out | refine below_set ?_ GE237.out) | exact HB.out)⟩⟩
                            · rw [if_neg c61] at H
                              exact absurd H (by simp)
                          · rw [if_neg c60] at H
                            have c60b0 : ((rd l2 (ji27)) == 2) = false := beq_eq_false_iff_ne.mpr c60
                            have c60b1 : ((rd l2 (ji27)) != 2) = true := bne_iff_ne.mpr c60
                            by_cases c71 : (rd l2 (ji27)) = 3
                            · rw [if_pos c71] at H
                              have c71b0 : ((rd l2 (ji27)) == 3) = true := beq_iff_eq.mpr c71
                              have c71b1 : ((rd l2 (ji27)) != 3) = false := bne_eq_false_iff_eq.mpr c71
                              clear c71
                              by_cases c72 : ([] : List (S54)).length < 8796093022208
                              · rw [if_pos c72] at H
                                have LMc72 := Aside0.mk c72
                                clear c72
                                obtain ⟨y248, hy248⟩ : ∃ y_ : List (S54), y_ = (([] : List (S54)) ++ [(⟨t228, t229⟩ : S54)]) := ⟨_, rfl⟩
                                replace H : (impl_TalkAll.j2 k2 l0 a1 l2 l3 a4 y248 (-1) x14_2 t230 t233 t234 x228000_2 x228001_2 x228002_2 false) = some (r1, r2, r3, r4, r5) := by first | (rw [hy248]; with_reducible exact H) | (have H2_ := (Option.bind_some _ _).symm.trans H; rw [hy248]; with_reducible exact H2_) | (have H2_ := (Option.bind_some _ _).symm.trans H; with_reducible exact H2_) | with_reducible exact H | (rw [hy248]; exact H) | exact H
                                have Ny248 := Aside0.mk hy248
                                clear hy248
                                have H' := Aside0.mk H
                                clear H
                                have hnb73 := NB236_221.out
                                have hnc73 := NB221_236.out
                                have hnb74 := NB236_226.out
                                have hnc74 := NB226_236.out
                                have hnb75 := NB236_227.out
                                have hnc75 := NB227_236.out
                                have hnb76 := NB236_237.out
                                have hnc76 := NB237_236.out
                                have hcz77_0 : w39.cell? ⟨gb236, 0, none⟩ = some (.int .i64 0) := (blk_cell BK236.out 0).trans rfl
                                have hcz77_1 : w39.cell? ⟨gb236, 1, none⟩ = some (.int .i64 0) := (blk_cell BK236.out 1).trans rfl
                                have hfz77_0 := blk_frozen BK236.out 0
                                have hfz77_1 := blk_frozen BK236.out 1
                                go_wp2_with (first | ((with_reducible refine gate_builtin (b := .append) (xs := #[.tmp 90, .tmp 92]) rfl ?_); at_builtin; refine Kd.R_append k54 (w0 := w) w.heap.size rfl (.tmp 90) (.tmp 92) 37 54 (.agg #[(.int .i64 0), (.int .i64 0)]) 16 rfl Try.underlying37 info54 rfl (by decide) (by omega) (.slice none 0 0) ([] : List (S54)) (⟨t228, t229⟩ : S54) [.int .i64 t228, .int .i64 t229] (fun k_ => (w.heap.size ≤ k_) ∧ some k_ ≠ (u14 : Value).ownBlock ∧ k_ ≠ gb236) (fun _ => False) rfl (by first | (go_simp; done) | (go_simp; rfl)) ?aP (fun _ hk => hk.elim) ?aF ?aO ?aB ?aS ?aL ?_; (case aP => exact k54_mkM _ _ _ (⟨t228, t229⟩ : S54)); (case aB => exact (by repeat (first | (with_reducible first | exact HB.out | apply below_alloc | apply pw_below_drewN | apply below_drew1 | refine below_set ?_ GE221.out | refine below_set ?_ GE226.out | refine below_set ?_ GE227.out | refine below_set ?_ GE236.out | refine below_set ?_ GE237.out) | exact HB.out))); (case aF => exact (fun k_ hk => ⟨(Nat.le_trans (below_size (by repeat (first | (with_reducible first | exact HB.out | apply below_alloc | apply pw_below_drewN | apply below_drew1 | refine below_set ?_ GE221.out | refine below_set ?_ GE226.out | refine below_set ?_ GE227.out | refine below_set ?_ GE236.out | refine below_set ?_ GE237.out) | exact HB.out))) hk), Kd.fresh' (Kd.R_lt (by exact (Kd.R_mono (Kd.R_mono (Kd.R_mono (Kd.R_far (p := ⟨gb226, 2, none⟩) (Kd.R_far (p := ⟨gb226, 1, none⟩) (Kd.R_far (p := ⟨gb226, 0, none⟩) (Kd.R_far (p := ⟨gb237, 2, none⟩) (Kd.R_far (p := ⟨gb237, 1, none⟩) (Kd.R_far (p := ⟨gb237, 0, none⟩) (Kd.R_far (p := ⟨gb236, 1, none⟩) (Kd.R_far (p := ⟨gb236, 0, none⟩) (Kd.R_types (Kd.R_types (Kd.R_mono HO_14.out (fun k_ hk => (⟨hk, hk.2⟩ : _ ∧ k_ ≠ gb236))) BK237.out (by decide)) BK226.out (by decide)) (fun _ hk => hk.1.1.2) (.int .i64 t228)) (fun _ hk => hk.1.1.2) (.int .i64 t229)) (fun _ hk => hk.1.2) (.slice Ao45 t230.length co45)) (fun _ hk => hk.1.2) (.int .i64 t233)) (fun _ hk => hk.1.2) (.int .i64 t234)) (fun _ hk => hk.2) (.slice Ao45 t230.length co45)) (fun _ hk => hk.2) (.int .i64 t233)) (fun _ hk => hk.2) (.int .i64 t234)) (fun _ h_ => h_.1)) (fun _ h_ => h_.1)) (fun _ h_ => h_.1)))) k_ hk, Kd.freshB (g := gb236) (o := .cells #[.int .i64 t228, .int .i64 t229] 54 (0, 0)) (by refine blk_far ?_ NB236_226.out _; refine blk_far ?_ NB236_226.out _; refine blk_far ?_ NB236_226.out _; refine blk_far ?_ NB236_237.out _; refine blk_far ?_ NB236_237.out _; refine blk_far ?_ NB236_237.out _; refine blk_put (cs := #[.int .i64 t228, .int .i64 0]) ?_ 1 _ rfl; refine blk_put (cs := #[.int .i64 0, .int .i64 0]) ?_ 0 _ rfl; exact BK236.out) k_ hk⟩)); (case aO => exact ((Kd.R_nil _ _ _ _ (fun k_ => (w.heap.size ≤ k_) ∧ some k_ ≠ (u14 : Value).ownBlock ∧ k_ ≠ gb236)))); (case aS => exact (below_size (by repeat (first | (with_reducible first | exact HB.out | apply below_alloc | apply pw_below_drewN | apply below_drew1 | refine below_set ?_ GE221.out | refine below_set ?_ GE226.out | refine below_set ?_ GE227.out | refine below_set ?_ GE236.out | refine below_set ?_ GE237.out) | exact HB.out)))); (case aL => have := LMc72.out; omega); intro v249 w78 ho hb hg hat; rw [← Ny248.out] at ho; have n0_ := Aside0.mk (Kd.V_afterv (Kd.V_apart_nil (by (with_reducible repeat (first | apply Kd.V_alloc | apply Kd.V_drewN | apply Kd.V_drew)); exact (Kd.V_mono (Kd.V_mono (Kd.V_mono (Kd.V_far (p := ⟨gb226, 2, none⟩) (Kd.V_far (p := ⟨gb226, 1, none⟩) (Kd.V_far (p := ⟨gb226, 0, none⟩) (Kd.V_far (p := ⟨gb237, 2, none⟩) (Kd.V_far (p := ⟨gb237, 1, none⟩) (Kd.V_far (p := ⟨gb237, 0, none⟩) (Kd.V_far (p := ⟨gb236, 1, none⟩) (Kd.V_far (p := ⟨gb236, 0, none⟩) (Kd.V_mono (Kd.V_mono (Kd.V_mono HO_0.out (fun k_ hk => (⟨hk, hk.1.2⟩ : _ ∧ k_ ≠ gb236))) (fun k_ hk => (⟨hk, hk.1.2⟩ : _ ∧ k_ ≠ gb237))) (fun k_ hk => (⟨hk, hk.1.1.1.1.1.2.2.2.2.1⟩ : _ ∧ k_ ≠ gb226))) (fun _ hk => hk.1.1.2) (.int .i64 t228)) (fun _ hk => hk.1.1.2) (.int .i64 t229)) (fun _ hk => hk.1.2) (.slice Ao45 t230.length co45)) (fun _ hk => hk.1.2) (.int .i64 t233)) (fun _ hk => hk.1.2) (.int .i64 t234)) (fun _ hk => hk.2) (.slice Ao45 t230.length co45)) (fun _ hk => hk.2) (.int .i64 t233)) (fun _ hk => hk.2) (.int .i64 t234)) (fun _ h_ => h_.1)) (fun _ h_ => h_.1)) (fun _ h_ => h_.1)))) hg hat); have n1_ := Aside0.mk (Kd.R_after (Kd.R_apart_nil (by exact (Kd.R_mono (Kd.R_mono (Kd.R_mono (Kd.R_far (p := ⟨gb226, 2, none⟩) (Kd.R_far (p := ⟨gb226, 1, none⟩) (Kd.R_far (p := ⟨gb226, 0, none⟩) (Kd.R_far (p := ⟨gb237, 2, none⟩) (Kd.R_far (p := ⟨gb237, 1, none⟩) (Kd.R_far (p := ⟨gb237, 0, none⟩) (Kd.R_far (p := ⟨gb236, 1, none⟩) (Kd.R_far (p := ⟨gb236, 0, none⟩) (Kd.R_types (Kd.R_types (Kd.R_mono HO_14.out (fun k_ hk => (⟨hk, hk.2⟩ : _ ∧ k_ ≠ gb236))) BK237.out (by decide)) BK226.out (by decide)) (fun _ hk => hk.1.1.2) (.int .i64 t228)) (fun _ hk => hk.1.1.2) (.int .i64 t229)) (fun _ hk => hk.1.2) (.slice Ao45 t230.length co45)) (fun _ hk => hk.1.2) (.int .i64 t233)) (fun _ hk => hk.1.2) (.int .i64 t234)) (fun _ hk => hk.2) (.slice Ao45 t230.length co45)) (fun _ hk => hk.2) (.int .i64 t233)) (fun _ hk => hk.2) (.int .i64 t234)) (fun _ h_ => h_.1)) (fun _ h_ => h_.1)) (fun _ h_ => h_.1)))) hg hat); have n2_ := Aside0.mk (Kd.V_afterv (Kd.V_apart_nil (by (with_reducible repeat (first | apply Kd.V_alloc | apply Kd.V_drewN | apply Kd.V_drew)); exact (Kd.V_mono (Kd.V_mono (Kd.V_mono (Kd.V_far (p := ⟨gb226, 2, none⟩) (Kd.V_far (p := ⟨gb226, 1, none⟩) (Kd.V_far (p := ⟨gb226, 0, none⟩) (Kd.V_far (p := ⟨gb237, 2, none⟩) (Kd.V_far (p := ⟨gb237, 1, none⟩) (Kd.V_far (p := ⟨gb237, 0, none⟩) (Kd.V_far (p := ⟨gb236, 1, none⟩) (Kd.V_far (p := ⟨gb236, 0, none⟩) (Kd.V_mono (Kd.V_mono (Kd.V_mono HO_227000.out (fun k_ hk => (⟨hk, hk.1.2⟩ : _ ∧ k_ ≠ gb236))) (fun k_ hk => (⟨hk, hk.1.2⟩ : _ ∧ k_ ≠ gb237))) (fun k_ hk => (⟨hk, hk.1.1.1.1.1.2.2.2.2.1⟩ : _ ∧ k_ ≠ gb226))) (fun _ hk => hk.1.1.2) (.int .i64 t228)) (fun _ hk => hk.1.1.2) (.int .i64 t229)) (fun _ hk => hk.1.2) (.slice Ao45 t230.length co45)) (fun _ hk => hk.1.2) (.int .i64 t233)) (fun _ hk => hk.1.2) (.int .i64 t234)) (fun _ hk => hk.2) (.slice Ao45 t230.length co45)) (fun _ hk => hk.2) (.int .i64 t233)) (fun _ hk => hk.2) (.int .i64 t234)) (fun _ h_ => h_.1)) (fun _ h_ => h_.1)) (fun _ h_ => h_.1)))) hg hat); have n3_ := Aside0.mk (Kd.R_grown (by exact (Kd.R_mono (Kd.R_mono (Kd.R_mono (Kd.R_far (p := ⟨gb226, 2, none⟩) (Kd.R_far (p := ⟨gb226, 1, none⟩) (Kd.R_far (p := ⟨gb226, 0, none⟩) (Kd.R_far (p := ⟨gb237, 2, none⟩) (Kd.R_far (p := ⟨gb237, 1, none⟩) (Kd.R_far (p := ⟨gb237, 0, none⟩) (Kd.R_far (p := ⟨gb236, 1, none⟩) (Kd.R_far (p := ⟨gb236, 0, none⟩) (Kd.R_types (Kd.R_types (Kd.R_types HO_228000.out BK236.out (by decide)) BK237.out (by decide)) BK226.out (by decide)) (fun _ hk => hk.1.1.2) (.int .i64 t228)) (fun _ hk => hk.1.1.2) (.int .i64 t229)) (fun _ hk => hk.1.2) (.slice Ao45 t230.length co45)) (fun _ hk => hk.1.2) (.int .i64 t233)) (fun _ hk => hk.1.2) (.int .i64 t234)) (fun _ hk => hk.2) (.slice Ao45 t230.length co45)) (fun _ hk => hk.2) (.int .i64 t233)) (fun _ hk => hk.2) (.int .i64 t234)) (fun _ h_ => h_.1)) (fun _ h_ => h_.1)) (fun _ h_ => h_.1))) hg (fun _ _ => by simp [Value.ownBlock])); have n4_ := Aside0.mk (blk_grown (g := gb221) (o := .cells #[.slice none 0 0, .int .i64 0, .int .i64 0, .bool false] 69 (0, 0)) (by refine blk_far ?_ NB221_226.out _; refine blk_far ?_ NB221_226.out _; refine blk_far ?_ NB221_226.out _; refine blk_far ?_ NB221_237.out _; refine blk_far ?_ NB221_237.out _; refine blk_far ?_ NB221_237.out _; refine blk_far ?_ NB221_236.out _; refine blk_far ?_ NB221_236.out _; exact BK221.out) hg (by simp [Value.ownBlock])); have n5_ := Aside0.mk (blk_grown (g := gb226) (o := .cells #[.slice Ao45 t230.length co45, .int .i64 t233, .int .i64 t234] 55 (0, 0)) (by refine blk_put (cs := #[.slice Ao45 t230.length co45, .int .i64 t233, .int .i64 x227002_2]) ?_ 2 _ rfl; refine blk_put (cs := #[.slice Ao45 t230.length co45, .int .i64 ji23, .int .i64 x227002_2]) ?_ 1 _ rfl; refine blk_put (cs := #[.slice Ao36 x227000_2.length co36, .int .i64 ji23, .int .i64 x227002_2]) ?_ 0 _ rfl; refine blk_far ?_ NB226_237.out _; refine blk_far ?_ NB226_237.out _; refine blk_far ?_ NB226_237.out _; refine blk_far ?_ NB226_236.out _; refine blk_far ?_ NB226_236.out _; exact BK226.out) hg (by simp [Value.ownBlock])); have n6_ := Aside0.mk (blk_grown (g := gb227) (o := .cells #[u228000, .int .i64 x228001_2, .int .i64 x228002_2, .bool false] 69 (0, 0)) (by refine blk_far ?_ NB227_226.out _; refine blk_far ?_ NB227_226.out _; refine blk_far ?_ NB227_226.out _; refine blk_far ?_ NB227_237.out _; refine blk_far ?_ NB227_237.out _; refine blk_far ?_ NB227_237.out _; refine blk_far ?_ NB227_236.out _; refine blk_far ?_ NB227_236.out _; exact BK227.out) hg (by simp [Value.ownBlock])); have n7_ := Aside0.mk (Kd.R_grown (by exact (Kd.R_mono (Kd.R_mono (Kd.R_mono (Kd.R_far (p := ⟨gb226, 2, none⟩) (Kd.R_far (p := ⟨gb226, 1, none⟩) (Kd.R_far (p := ⟨gb226, 0, none⟩) (Kd.R_far (p := ⟨gb237, 2, none⟩) (Kd.R_far (p := ⟨gb237, 1, none⟩) (Kd.R_far (p := ⟨gb237, 0, none⟩) (Kd.R_far (p := ⟨gb236, 1, none⟩) (Kd.R_far (p := ⟨gb236, 0, none⟩) (Kd.R_types (Kd.R_types (Kd.R_types HO232.out BK236.out (by decide)) BK237.out (by decide)) BK226.out (by decide)) (fun _ hk => hk.1.1.2) (.int .i64 t228)) (fun _ hk => hk.1.1.2) (.int .i64 t229)) (fun _ hk => hk.1.2) (.slice Ao45 t230.length co45)) (fun _ hk => hk.1.2) (.int .i64 t233)) (fun _ hk => hk.1.2) (.int .i64 t234)) (fun _ hk => hk.2) (.slice Ao45 t230.length co45)) (fun _ hk => hk.2) (.int .i64 t233)) (fun _ hk => hk.2) (.int .i64 t234)) (fun _ h_ => h_.1)) (fun _ h_ => h_.1)) (fun _ h_ => h_.1))) hg (fun _ _ => by simp [Value.ownBlock])); have n8_ := Aside0.mk (blk_grown (g := gb236) (o := .cells #[.int .i64 t228, .int .i64 t229] 54 (0, 0)) (by refine blk_far ?_ NB236_226.out _; refine blk_far ?_ NB236_226.out _; refine blk_far ?_ NB236_226.out _; refine blk_far ?_ NB236_237.out _; refine blk_far ?_ NB236_237.out _; refine blk_far ?_ NB236_237.out _; refine blk_put (cs := #[.int .i64 t228, .int .i64 0]) ?_ 1 _ rfl; refine blk_put (cs := #[.int .i64 0, .int .i64 0]) ?_ 0 _ rfl; exact BK236.out) hg (by simp [Value.ownBlock])); have n9_ := Aside0.mk (blk_grown (g := gb237) (o := .cells #[.slice Ao45 t230.length co45, .int .i64 t233, .int .i64 t234] 55 (0, 0)) (by refine blk_far ?_ NB237_226.out _; refine blk_far ?_ NB237_226.out _; refine blk_far ?_ NB237_226.out _; refine blk_put (cs := #[.slice Ao45 t230.length co45, .int .i64 t233, .int .i64 0]) ?_ 2 _ rfl; refine blk_put (cs := #[.slice Ao45 t230.length co45, .int .i64 0, .int .i64 0]) ?_ 1 _ rfl; refine blk_put (cs := #[.slice none 0 0, .int .i64 0, .int .i64 0]) ?_ 0 _ rfl; refine blk_far ?_ NB237_236.out _; refine blk_far ?_ NB237_236.out _; exact BK237.out) hg (by simp [Value.ownBlock])); have n10_ := Aside0.mk (hb); have n11_ := Aside0.mk (ho); clear HO_0; clear HO_14; clear HO_227000; clear HO_228000; clear BK221; clear BK226; clear BK227; clear HO232; clear BK236; clear BK237; clear HB; have HO_0 := n0_; have HO_14 := n1_; have HO_227000 := n2_; have HO_228000 := n3_; have BK221 := n4_; have BK226 := n5_; have BK227 := n6_; have HO232 := n7_; have BK236 := n8_; have BK237 := n9_; have HB := n10_; have HO250 := n11_; clear n0_ n1_ n2_ n3_ n4_ n5_ n6_ n7_ n8_ n9_ n10_ n11_; clear ho hb hg hat))
                                go_meet
                                case rel => exact ⟨_, (y248), (x14_2), H', ⟨by have := HJ5.out; have := HK2.out; first | omega | exact Nat.le_refl _⟩, ⟨by (with_reducible repeat (first | apply Kd.V_alloc | apply Kd.V_drewN | apply Kd.V_drew)); exact Kd.V_mono HO_0.out (fun _ hk => ⟨hk.1.1.1.1.1, ⟨hk.2, ⟨hk.1.1.1.1.2.1, ⟨hk.1.1.1.2, ⟨hk.1.1.1.1.2.2.1, ⟨hk.1.1.1.2, ⟨hk.1.1.1.1.2.2.2.1, ⟨hk.1.1.1.1.2.2.2.2.1, ⟨hk.1.1.1.1.2.2.2.2.2, ⟨hk.1.1.2, hk.1.2⟩⟩⟩⟩⟩⟩⟩⟩⟩⟩)⟩, ⟨by exact HO250.out⟩, ⟨by exact Kd.R_mono HO_14.out (fun _ hk => ⟨hk.1.1, ⟨hk.2, hk.1.2⟩⟩)⟩, ⟨by exact Kd.R_mono HO232.out (fun _ hk => ⟨hk.1.1, hk.2⟩)⟩, ⟨by exact Kd.R_mono HO_228000.out (fun _ hk => ⟨hk.1, ⟨hk.2, hk.2⟩⟩)⟩, ⟨by exact Kd.R_mono HO232.out (fun _ hk => ⟨hk.1.1, hk.2⟩)⟩, ⟨by exact BK221.out⟩, ⟨by exact BK226.out⟩, ⟨by exact BK227.out⟩, ⟨by exact BK236.out⟩, ⟨by exact BK237.out⟩, ⟨by repeat (first | (with_reducible first | exact HB.out | apply below_alloc | apply pw_below_drewN | apply below_drew1 | refine below_set ?_ GE221.out | refine below_set ?_ GE226.out | refine below_set ?_ GE227.out | refine below_set ?_ GE236.out | refine below_set ?_ GE237.out) | exact HB.out)⟩⟩
                              · rw [if_neg c72] at H
                                exact absurd H (by simp)
                            · rw [if_neg c71] at H
                              have c71b0 : ((rd l2 (ji27)) == 3) = false := beq_eq_false_iff_ne.mpr c71
                              have c71b1 : ((rd l2 (ji27)) != 3) = true := bne_iff_ne.mpr c71
                              have H' := Aside0.mk H
                              clear H
                              go_wp2
                              go_meet
                              case rel => exact ⟨_, (([] : List (S54))), (x14_2), H', ⟨by have := HJ5.out; have := HK2.out; first | omega | exact Nat.le_refl _⟩, ⟨by (with_reducible repeat (first | apply Kd.V_alloc | apply Kd.V_drewN | apply Kd.V_drew)); exact Kd.V_mono (Kd.V_far (p := ⟨gb226, 2, none⟩) (Kd.V_far (p := ⟨gb226, 1, none⟩) (Kd.V_far (p := ⟨gb226, 0, none⟩) (Kd.V_far (p := ⟨gb237, 2, none⟩) (Kd.V_far (p := ⟨gb237, 1, none⟩) (Kd.V_far (p := ⟨gb237, 0, none⟩) (Kd.V_far (p := ⟨gb236, 1, none⟩) (Kd.V_far (p := ⟨gb236, 0, none⟩) (Kd.V_mono (Kd.V_mono (Kd.V_mono HO_0.out (fun k_ hk => (⟨hk, hk.1.2⟩ : _ ∧ k_ ≠ gb236))) (fun k_ hk => (⟨hk, hk.1.2⟩ : _ ∧ k_ ≠ gb237))) (fun k_ hk => (⟨hk, hk.1.1.1.1.1.2.2.2.2.1⟩ : _ ∧ k_ ≠ gb226))) (fun _ hk => hk.1.1.2) (.int .i64 t228)) (fun _ hk => hk.1.1.2) (.int .i64 t229)) (fun _ hk => hk.1.2) (.slice Ao45 t230.length co45)) (fun _ hk => hk.1.2) (.int .i64 t233)) (fun _ hk => hk.1.2) (.int .i64 t234)) (fun _ hk => hk.2) (.slice Ao45 t230.length co45)) (fun _ hk => hk.2) (.int .i64 t233)) (fun _ hk => hk.2) (.int .i64 t234)) (fun _ hk => ⟨hk.1.1.1.1.1.1.1, ⟨(by simp [Value.ownBlock]), ⟨hk.1.1.1.1.1.1.2.1, ⟨hk.1.1.1.1.1.2, ⟨hk.1.1.1.1.1.1.2.2.1, ⟨hk.1.1.1.1.1.2, ⟨hk.1.1.1.1.1.1.2.2.2.1, ⟨hk.1.1.1.1.1.1.2.2.2.2.1, ⟨hk.1.1.1.1.1.1.2.2.2.2.2, ⟨hk.1.1.1.1.2, hk.1.1.1.2⟩⟩⟩⟩⟩⟩⟩⟩⟩⟩)⟩, ⟨by first | exact Kd.R_nil _ _ _ _ _ | exact Kd.N_nil _ _ _ _ _ | exact Kd.V_nil _ _ _ _ _ | exact Kd.Q_nil _ _ _ _ _ | exact Kd.S_nil _ _ _ _ _⟩, ⟨by exact Kd.R_mono (Kd.R_far (p := ⟨gb226, 2, none⟩) (Kd.R_far (p := ⟨gb226, 1, none⟩) (Kd.R_far (p := ⟨gb226, 0, none⟩) (Kd.R_far (p := ⟨gb237, 2, none⟩) (Kd.R_far (p := ⟨gb237, 1, none⟩) (Kd.R_far (p := ⟨gb237, 0, none⟩) (Kd.R_far (p := ⟨gb236, 1, none⟩) (Kd.R_far (p := ⟨gb236, 0, none⟩) (Kd.R_types (Kd.R_types (Kd.R_mono HO_14.out (fun k_ hk => (⟨hk, hk.2⟩ : _ ∧ k_ ≠ gb236))) BK237.out (by decide)) BK226.out (by decide)) (fun _ hk => hk.1.1.2) (.int .i64 t228)) (fun _ hk => hk.1.1.2) (.int .i64 t229)) (fun _ hk => hk.1.2) (.slice Ao45 t230.length co45)) (fun _ hk => hk.1.2) (.int .i64 t233)) (fun _ hk => hk.1.2) (.int .i64 t234)) (fun _ hk => hk.2) (.slice Ao45 t230.length co45)) (fun _ hk => hk.2) (.int .i64 t233)) (fun _ hk => hk.2) (.int .i64 t234)) (fun _ hk => ⟨hk.1.1.1.1, ⟨(by simp [Value.ownBlock]), hk.1.1.1.2⟩⟩)⟩, ⟨by exact Kd.R_mono (Kd.R_far (p := ⟨gb226, 2, none⟩) (Kd.R_far (p := ⟨gb226, 1, none⟩) (Kd.R_far (p := ⟨gb226, 0, none⟩) (Kd.R_far (p := ⟨gb237, 2, none⟩) (Kd.R_far (p := ⟨gb237, 1, none⟩) (Kd.R_far (p := ⟨gb237, 0, none⟩) (Kd.R_far (p := ⟨gb236, 1, none⟩) (Kd.R_far (p := ⟨gb236, 0, none⟩) (Kd.R_types (Kd.R_types (Kd.R_types HO232.out BK236.out (by decide)) BK237.out (by decide)) BK226.out (by decide)) (fun _ hk => hk.1.1.2) (.int .i64 t228)) (fun _ hk => hk.1.1.2) (.int .i64 t229)) (fun _ hk => hk.1.2) (.slice Ao45 t230.length co45)) (fun _ hk => hk.1.2) (.int .i64 t233)) (fun _ hk => hk.1.2) (.int .i64 t234)) (fun _ hk => hk.2) (.slice Ao45 t230.length co45)) (fun _ hk => hk.2) (.int .i64 t233)) (fun _ hk => hk.2) (.int .i64 t234)) (fun _ hk => ⟨hk.1.1.1.1.1, hk.1.1.1.2⟩)⟩, ⟨by exact Kd.R_mono (Kd.R_far (p := ⟨gb226, 2, none⟩) (Kd.R_far (p := ⟨gb226, 1, none⟩) (Kd.R_far (p := ⟨gb226, 0, none⟩) (Kd.R_far (p := ⟨gb237, 2, none⟩) (Kd.R_far (p := ⟨gb237, 1, none⟩) (Kd.R_far (p := ⟨gb237, 0, none⟩) (Kd.R_far (p := ⟨gb236, 1, none⟩) (Kd.R_far (p := ⟨gb236, 0, none⟩) (Kd.R_types (Kd.R_types (Kd.R_types HO_228000.out BK236.out (by decide)) BK237.out (by decide)) BK226.out (by decide)) (fun _ hk => hk.1.1.2) (.int .i64 t228)) (fun _ hk => hk.1.1.2) (.int .i64 t229)) (fun _ hk => hk.1.2) (.slice Ao45 t230.length co45)) (fun _ hk => hk.1.2) (.int .i64 t233)) (fun _ hk => hk.1.2) (.int .i64 t234)) (fun _ hk => hk.2) (.slice Ao45 t230.length co45)) (fun _ hk => hk.2) (.int .i64 t233)) (fun _ hk => hk.2) (.int .i64 t234)) (fun _ hk => ⟨hk.1.1.1.1, ⟨hk.1.1.1.2, hk.1.1.1.2⟩⟩)⟩, ⟨by exact Kd.R_mono (Kd.R_far (p := ⟨gb226, 2, none⟩) (Kd.R_far (p := ⟨gb226, 1, none⟩) (Kd.R_far (p := ⟨gb226, 0, none⟩) (Kd.R_far (p := ⟨gb237, 2, none⟩) (Kd.R_far (p := ⟨gb237, 1, none⟩) (Kd.R_far (p := ⟨gb237, 0, none⟩) (Kd.R_far (p := ⟨gb236, 1, none⟩) (Kd.R_far (p := ⟨gb236, 0, none⟩) (Kd.R_types (Kd.R_types (Kd.R_types HO232.out BK236.out (by decide)) BK237.out (by decide)) BK226.out (by decide)) (fun _ hk => hk.1.1.2) (.int .i64 t228)) (fun _ hk => hk.1.1.2) (.int .i64 t229)) (fun _ hk => hk.1.2) (.slice Ao45 t230.length co45)) (fun _ hk => hk.1.2) (.int .i64 t233)) (fun _ hk => hk.1.2) (.int .i64 t234)) (fun _ hk => hk.2) (.slice Ao45 t230.length co45)) (fun _ hk => hk.2) (.int .i64 t233)) (fun _ hk => hk.2) (.int .i64 t234)) (fun _ hk => ⟨hk.1.1.1.1.1, hk.1.1.1.2⟩)⟩, ⟨by refine blk_far ?_ NB221_226.out _; refine blk_far ?_ NB221_226.out _; refine blk_far ?_ NB221_226.out _; refine blk_far ?_ NB221_237.out _; refine blk_far ?_ NB221_237.out _; refine blk_far ?_ NB221_237.out _; refine blk_far ?_ NB221_236.out _; refine blk_far ?_ NB221_236.out _; exact BK221.out⟩, ⟨by refine blk_put (cs := #[.slice Ao45 t230.length co45, .int .i64 t233, .int .i64 x227002_2]) ?_ 2 _ rfl; refine blk_put (cs := #[.slice Ao45 t230.length co45, .int .i64 ji23, .int .i64 x227002_2]) ?_ 1 _ rfl; refine blk_put (cs := #[.slice Ao36 x227000_2.length co36, .int .i64 ji23, .int .i64 x227002_2]) ?_ 0 _ rfl; refine blk_far ?_ NB226_237.out _; refine blk_far ?_ NB226_237.out _; refine blk_far ?_ NB226_237.out _; refine blk_far ?_ NB226_236.out _; refine blk_far ?_ NB226_236.out _; exact BK226.out⟩, ⟨by refine blk_far ?_ NB227_226.out _; refine blk_far ?_ NB227_226.out _; refine blk_far ?_ NB227_226.out _; refine blk_far ?_ NB227_237.out _; refine blk_far ?_ NB227_237.out _; refine blk_far ?_ NB227_237.out _; refine blk_far ?_ NB227_236.out _; refine blk_far ?_ NB227_236.out _; exact BK227.out⟩, ⟨by refine blk_far ?_ NB236_226.out _; refine blk_far ?_ NB236_226.out _; refine blk_far ?_ NB236_226.out _; refine blk_far ?_ NB236_237.out _; refine blk_far ?_ NB236_237.out _; refine blk_far ?_ NB236_237.out _; refine blk_put (cs := #[.int .i64 t228, .int .i64 0]) ?_ 1 _ rfl; refine blk_put (cs := #[.int .i64 0, .int .i64 0]) ?_ 0 _ rfl; exact BK236.out⟩, ⟨by refine blk_far ?_ NB237_226.out _; refine blk_far ?_ NB237_226.out _; refine blk_far ?_ NB237_226.out _; refine blk_put (cs := #[.slice Ao45 t230.length co45, .int .i64 t233, .int .i64 0]) ?_ 2 _ rfl; refine blk_put (cs := #[.slice Ao45 t230.length co45, .int .i64 0, .int .i64 0]) ?_ 1 _ rfl; refine blk_put (cs := #[.slice none 0 0, .int .i64 0, .int .i64 0]) ?_ 0 _ rfl; refine blk_far ?_ NB237_236.out _; refine blk_far ?_ NB237_236.out _; exact BK237.out⟩, ⟨by repeat (first | (with_reducible first | exact HB.out | apply below_alloc | apply pw_below_drewN | apply below_drew1 | refine below_set ?_ GE221.out | refine below_set ?_ GE226.out | refine below_set ?_ GE227.out | refine below_set ?_ GE236.out | refine below_set ?_ GE237.out) | exact HB.out)⟩⟩
                      case rest =>
                        clear HC30
                        try clear c1
                        try clear c2
                        try clear p2
                        try clear q2
                        try clear hx2
                        try clear c3
                        try clear c4
                        try clear c5
                        try clear c6
                        try clear c7
                        try clear c8
                        try clear c8b0
                        try clear c8b1
                        try clear c10
                        try clear c12
                        try clear c14
                        try clear c16
                        try clear c19
                        try clear c22
                        try clear c22b0
                        try clear p23
                        try clear q23
                        try clear hx23
                        try clear c25
                        try clear c26
                        try clear c26b0
                        try clear c26b1
                        try clear c26b2
                        try clear c28
                        try clear c28b0
                        try clear c29
                        try clear c29b0
                        try clear c31
                        try clear c32
                        try clear c34
                        try clear c40
                        try clear c41
                        try clear c42
                        try clear c43
                        try clear c46
                        try clear c47
                        try clear c48
                        try clear c52
                        try clear c52b0
                        try clear c52b1
                        try clear c53
                        try clear c54
                        try clear c55
                        try clear c56
                        try clear c57
                        try clear c60
                        try clear c60b0
                        try clear c60b1
                        try clear c61
                        try clear c62
                        try clear c63
                        try clear c64
                        try clear c65
                        try clear c71
                        try clear c71b0
                        try clear c71b1
                        try clear c72
                        try clear c73
                        try clear c74
                        try clear c75
                        try clear c76
                        try clear hcz17_0
                        try clear hcz17_1
                        try clear hcz17_2
                        try clear hcz17_3
                        try clear hcz20_0
                        try clear hcz20_1
                        try clear hcz20_2
                        try clear hcz33_0
                        try clear hcz33_1
                        try clear hcz33_2
                        try clear hcz33_3
                        try clear hcz35_0
                        try clear hcz35_1
                        try clear hcz35_2
                        try clear hcz44_0
                        try clear hcz44_1
                        try clear hcz49_0
                        try clear hcz49_1
                        try clear hcz49_2
                        try clear hcz50_0
                        try clear hcz50_1
                        try clear hcz50_2
                        try clear hcz51_0
                        try clear hcz51_1
                        try clear hcz51_2
                        try clear hcz51_3
                        try clear hcz58_0
                        try clear hcz58_1
                        try clear hcz66_0
                        try clear hcz66_1
                        try clear hcz77_0
                        try clear hcz77_1
                        try clear hfz17_0
                        try clear hfz17_1
                        try clear hfz17_2
                        try clear hfz17_3
                        try clear hfz20_0
                        try clear hfz20_1
                        try clear hfz20_2
                        try clear hfz33_0
                        try clear hfz33_1
                        try clear hfz33_2
                        try clear hfz33_3
                        try clear hfz35_0
                        try clear hfz35_1
                        try clear hfz35_2
                        try clear hfz44_0
                        try clear hfz44_1
                        try clear hfz49_0
                        try clear hfz49_1
                        try clear hfz49_2
                        try clear hfz50_0
                        try clear hfz50_1
                        try clear hfz50_2
                        try clear hfz51_0
                        try clear hfz51_1
                        try clear hfz51_2
                        try clear hfz51_3
                        try clear hfz58_0
                        try clear hfz58_1
                        try clear hfz66_0
                        try clear hfz66_1
                        try clear hfz77_0
                        try clear hfz77_1
                        try clear hx238_0
                        try clear p2
                        try clear p238
                        try clear q238
                        obtain ⟨kq, x14_29, x19_29, HA, HJ29, HO_0, HO_14, HO_19, HO_227000, HO_228000, HO_238000, BK221, BK226, BK227, BK236, BK237, HB⟩ := hcut
                        cases kq with
                        | zero => exact absurd HA.out (by simp [impl_TalkAll.j2])
                        | succ kj29 =>
                          have H := HA.out
                          clear HA
                          simp only [impl_TalkAll.j2] at H
                          replace H := Option.bind_eq_some_iff.mp H
                          obtain ⟨⟨t251, t252⟩, A790, H⟩ := H
                          replace H : (if (l3.length : Int) = 0 then (none) else (if 0 ≤ (Int.tmod x228002_2 (l3.length : Int)) then (if (Int.tmod x228002_2 (l3.length : Int)) < (l3.length : Int) then (if (rd l3 (Int.tmod x228002_2 (l3.length : Int))) = 0 then (impl_TalkAll.j3 kj29 l0 a1 l2 l3 a4 x14_29 (-1) t252 (rd l3 (Int.tmod x228002_2 (l3.length : Int))) ((rd l3 (Int.tmod x228002_2 (l3.length : Int))) == 0) t230 t233 t234 t251 (wrap64 (x228001_2 + 1)) x228002_2 false) else (impl_TalkAll.j3 kj29 l0 a1 l2 l3 a4 x14_29 (-1) t252 (rd l3 (Int.tmod x228002_2 (l3.length : Int))) ((rd l3 (Int.tmod x228002_2 (l3.length : Int))) == 2) t230 t233 t234 t251 (wrap64 (x228001_2 + 1)) x228002_2 false)) else (none)) else (none))) = some (r1, r2, r3, r4, r5) := H
                          have A79 := Aside0.mk A790
                          clear A790
                          by_cases c80 : (l3.length : Int) = 0
                          · rw [if_pos c80] at H
                            exact absurd H (by simp)
                          · rw [if_neg c80] at H
                            have c80b0 : ((l3.length : Int) == 0) = false := beq_eq_false_iff_ne.mpr c80
                            have c80b1 : ((l3.length : Int) != 0) = true := bne_iff_ne.mpr c80
                            have c80b2 : ¬ (l3 = []) := fun h_ => c80 (by rw [h_]; rfl)
                            obtain ⟨ji81, hji81⟩ : ∃ j_ : Int, (Int.tmod x228002_2 (l3.length : Int)) = j_ := ⟨_, rfl⟩
                            replace H : (if 0 ≤ (ji81) then (if (ji81) < (l3.length : Int) then (if (rd l3 (ji81)) = 0 then (impl_TalkAll.j3 kj29 l0 a1 l2 l3 a4 x14_29 (-1) t252 (rd l3 (ji81)) ((rd l3 (ji81)) == 0) t230 t233 t234 t251 (wrap64 (x228001_2 + 1)) x228002_2 false) else (impl_TalkAll.j3 kj29 l0 a1 l2 l3 a4 x14_29 (-1) t252 (rd l3 (ji81)) ((rd l3 (ji81)) == 2) t230 t233 t234 t251 (wrap64 (x228001_2 + 1)) x228002_2 false)) else (none)) else (none)) = some (r1, r2, r3, r4, r5) := by first | (rw [hji81] at H; exact H) | (simp only [hji81] at H ⊢; exact H)
                            (try rw [hji81] at A79)
                            by_cases c82 : 0 ≤ (ji81)
                            · rw [if_pos c82] at H
                              have c82b0 : decide (0 ≤ (ji81)) = true := decide_eq_true c82
                              clear c82
                              by_cases c83 : (ji81) < (l3.length : Int)
                              · rw [if_pos c83] at H
                                have c83b0 : decide ((ji81) < (l3.length : Int)) = true := decide_eq_true c83
                                clear c83
                                have HC84 := Aside0.mk H
                                clear H
                                have hnb85 := NB227_221.out
                                have hnc85 := NB221_227.out
                                have hnb86 := NB227_226.out
                                have hnc86 := NB226_227.out
                                have hnb87 := NB227_236.out
                                have hnc87 := NB236_227.out
                                have hnb88 := NB227_237.out
                                have hnc88 := NB237_227.out
                                have hcz89_0 : wc.cell? ⟨gb227, 0, none⟩ = some (u228000) := (blk_cell BK227.out 0).trans rfl
                                have hcz89_1 : wc.cell? ⟨gb227, 1, none⟩ = some (.int .i64 x228001_2) := (blk_cell BK227.out 1).trans rfl
                                have hcz89_2 : wc.cell? ⟨gb227, 2, none⟩ = some (.int .i64 x228002_2) := (blk_cell BK227.out 2).trans rfl
                                have hcz89_3 : wc.cell? ⟨gb227, 3, none⟩ = some (.bool false) := (blk_cell BK227.out 3).trans rfl
                                have hfz89_0 := blk_frozen BK227.out 0
                                have hfz89_1 := blk_frozen BK227.out 1
                                have hfz89_2 := blk_frozen BK227.out 2
                                have hfz89_3 := blk_frozen BK227.out 3
                                obtain ⟨Ao90, co90, eo90⟩ := Kd.R_slice HO_228000.out
                                subst eo90
                                obtain ⟨Ao91, co91, eo91⟩ := Kd.R_slice HO_19.out
                                subst eo91
                                go_upto_if 114 with (first | ((with_reducible refine gate_callee (f := 22) rfl ?_); refine goesL_ (some 102) rfl rfl Try.func22 (by kernel_rfl) rfl #[.slice Ao90 x228000_2.length co90, .slice Ao91 x19_29.length co91] rfl (by (try simp only [List.map_toArray, List.map_cons, List.map_nil]); first | done | rfl | (simp only [List.length_drop, List.length_take]; rfl)) ?_; (with_reducible refine (impl_TakeParcels.calls kj29 _ _ x228000_2 _ _ x19_29 t251 t252 _ ?side1 ?side2 ?side3 ?side4 A79.out).mono ?_); (case side1 => refine (Kd.R_reads' (e := 3) (base := w.heap.size) (ok := fun k_ => ((w.heap.size ≤ k_) ∧ (some k_ ≠ (.slice Ao45 t230.length co45 : Value).ownBlock ∧ some k_ ≠ (.slice Ao45 t230.length co45 : Value).ownBlock))) (n := x228000_2.length) (c := co90) ?_).2.2; exact (by exact (Kd.R_mono (Kd.R_far (p := ⟨gb227, 1, none⟩) (Kd.R_types HO_228000.out BK227.out (by decide)) (fun _ hk => hk.2) (.int .i64 (wrap64 (x228001_2 + 1)))) (fun _ h_ => h_.1)))); (case side2 => exact (Kd.R_reads' HO_228000.out).2.1); (case side3 => refine (Kd.R_reads' (e := 54) (base := w.heap.size) (ok := fun k_ => ((w.heap.size ≤ k_) ∧ (some k_ ≠ (u14 : Value).ownBlock ∧ k_ ≠ gb236))) (n := x19_29.length) (c := co91) ?_).2.2; exact (by exact (Kd.R_mono (Kd.R_far (p := ⟨gb227, 1, none⟩) (Kd.R_types HO_19.out BK227.out (by decide)) (fun _ hk => hk.2) (.int .i64 (wrap64 (x228001_2 + 1)))) (fun _ h_ => h_.1)))); (case side4 => exact (Kd.R_reads' HO_19.out).2.1); rintro e w92 ⟨v253, rfl, ho0, hb⟩; refine ⟨_, rfl, ?_⟩; have n0_ := Aside0.mk (Kd.V_elder' (by (with_reducible repeat (first | apply Kd.V_alloc | apply Kd.V_drewN | apply Kd.V_drew)); exact (Kd.V_mono (Kd.V_far (p := ⟨gb227, 1, none⟩) (Kd.V_mono HO_0.out (fun k_ hk => (⟨hk, hk.2.2.2.2.2.2.2.2.1⟩ : _ ∧ k_ ≠ gb227))) (fun _ hk => hk.2) (.int .i64 (wrap64 (x228001_2 + 1)))) (fun _ h_ => h_.1))) (Kd.R_base ho0) hb); have n1_ := Aside0.mk (Kd.R_below (by exact (Kd.R_mono (Kd.R_far (p := ⟨gb227, 1, none⟩) (Kd.R_types HO_14.out BK227.out (by decide)) (fun _ hk => hk.2) (.int .i64 (wrap64 (x228001_2 + 1)))) (fun _ h_ => h_.1))) hb); have n2_ := Aside0.mk (Kd.R_below (by exact (Kd.R_mono (Kd.R_far (p := ⟨gb227, 1, none⟩) (Kd.R_types HO_19.out BK227.out (by decide)) (fun _ hk => hk.2) (.int .i64 (wrap64 (x228001_2 + 1)))) (fun _ h_ => h_.1))) hb); have n3_ := Aside0.mk (Kd.R_elder' (by exact (Kd.R_mono (Kd.R_far (p := ⟨gb227, 1, none⟩) (Kd.R_types HO_227000.out BK227.out (by decide)) (fun _ hk => hk.2) (.int .i64 (wrap64 (x228001_2 + 1)))) (fun _ h_ => h_.1))) (Kd.R_base ho0) hb); have n4_ := Aside0.mk (Kd.R_elder' (by exact (Kd.R_mono (Kd.R_far (p := ⟨gb227, 1, none⟩) (Kd.R_types HO_228000.out BK227.out (by decide)) (fun _ hk => hk.2) (.int .i64 (wrap64 (x228001_2 + 1)))) (fun _ h_ => h_.1))) (Kd.R_base ho0) hb); have n5_ := Aside0.mk (Kd.R_elder' (by exact (Kd.R_mono (Kd.R_far (p := ⟨gb227, 1, none⟩) (Kd.R_types HO_238000.out BK227.out (by decide)) (fun _ hk => hk.2) (.int .i64 (wrap64 (x228001_2 + 1)))) (fun _ h_ => h_.1))) (Kd.R_base ho0) hb); have n6_ := Aside0.mk (Kd.R_lower (Kd.R_new' (Kd.R_new' (Kd.R_new' (Kd.R_newM (M := fun k_ => (w.heap.size ≤ k_)) ho0 (below_size (by repeat (first | (with_reducible first | exact HB.out | apply below_alloc | apply pw_below_drewN | apply below_drew1 | refine below_set ?_ GE221.out | refine below_set ?_ GE226.out | refine below_set ?_ GE227.out | refine below_set ?_ GE236.out | refine below_set ?_ GE237.out) | exact HB.out))) (fun k_ h_ => h_)) (Kd.R_lt (by exact (Kd.R_mono (Kd.R_far (p := ⟨gb227, 1, none⟩) (Kd.R_types HO_227000.out BK227.out (by decide)) (fun _ hk => hk.2) (.int .i64 (wrap64 (x228001_2 + 1)))) (fun _ h_ => h_.1))))) (Kd.R_lt (by exact (Kd.R_mono (Kd.R_far (p := ⟨gb227, 1, none⟩) (Kd.R_types HO_228000.out BK227.out (by decide)) (fun _ hk => hk.2) (.int .i64 (wrap64 (x228001_2 + 1)))) (fun _ h_ => h_.1))))) (Kd.R_lt (by exact (Kd.R_mono (Kd.R_far (p := ⟨gb227, 1, none⟩) (Kd.R_types HO_238000.out BK227.out (by decide)) (fun _ hk => hk.2) (.int .i64 (wrap64 (x228001_2 + 1)))) (fun _ h_ => h_.1))))) (below_size (by repeat (first | (with_reducible first | exact HB.out | apply below_alloc | apply pw_below_drewN | apply below_drew1 | refine below_set ?_ GE221.out | refine below_set ?_ GE226.out | refine below_set ?_ GE227.out | refine below_set ?_ GE236.out | refine below_set ?_ GE237.out) | exact HB.out)))); have n7_ := Aside0.mk (blk_below (g := gb221) (o := .cells #[.slice none 0 0, .int .i64 0, .int .i64 0, .bool false] 69 (0, 0)) (by refine blk_far ?_ NB221_227.out _; exact BK221.out) hb); have n8_ := Aside0.mk (blk_below (g := gb226) (o := .cells #[.slice Ao45 t230.length co45, .int .i64 t233, .int .i64 t234] 55 (0, 0)) (by refine blk_far ?_ NB226_227.out _; exact BK226.out) hb); have n9_ := Aside0.mk (blk_below (g := gb227) (o := .cells #[.slice Ao90 x228000_2.length co90, .int .i64 (wrap64 (x228001_2 + 1)), .int .i64 x228002_2, .bool false] 69 (0, 0)) (by refine blk_put (cs := #[.slice Ao90 x228000_2.length co90, .int .i64 x228001_2, .int .i64 x228002_2, .bool false]) ?_ 1 _ rfl; exact BK227.out) hb); have n10_ := Aside0.mk (blk_below (g := gb236) (o := .cells #[.int .i64 t228, .int .i64 t229] 54 (0, 0)) (by refine blk_far ?_ NB236_227.out _; exact BK236.out) hb); have n11_ := Aside0.mk (blk_below (g := gb237) (o := .cells #[.slice Ao45 t230.length co45, .int .i64 t233, .int .i64 t234] 55 (0, 0)) (by refine blk_far ?_ NB237_227.out _; exact BK237.out) hb); have n12_ := Aside0.mk (below_step (by repeat (first | (with_reducible first | exact HB.out | apply below_alloc | apply pw_below_drewN | apply below_drew1 | refine below_set ?_ GE221.out | refine below_set ?_ GE226.out | refine below_set ?_ GE227.out | refine below_set ?_ GE236.out | refine below_set ?_ GE237.out) | exact HB.out)) hb); clear HO_0; clear HO_14; clear HO_19; clear HO_227000; clear HO_228000; clear HO_238000; clear BK221; clear BK226; clear BK227; clear BK236; clear BK237; clear HB; have HO_0 := n0_; have HO_14 := n1_; have HO_19 := n2_; have HO_227000 := n3_; have HO_228000 := n4_; have HO_238000 := n5_; have HO254 := n6_; have BK221 := n7_; have BK226 := n8_; have BK227 := n9_; have BK236 := n10_; have BK237 := n11_; have HB := n12_; clear n0_ n1_ n2_ n3_ n4_ n5_ n6_ n7_ n8_ n9_ n10_ n11_ n12_; (try clear hb); (try clear hb2); (try clear hk); (try clear hi); (try clear ho0); obtain ⟨Ao93, co93, eo93⟩ := Kd.R_slice HO254.out; subst eo93; have hcz94_0 : w92.cell? ⟨gb227, 0, none⟩ = some (.slice Ao90 x228000_2.length co90) := (blk_cell BK227.out 0).trans rfl; have hcz94_1 : w92.cell? ⟨gb227, 1, none⟩ = some (.int .i64 (wrap64 (x228001_2 + 1))) := (blk_cell BK227.out 1).trans rfl; have hcz94_2 : w92.cell? ⟨gb227, 2, none⟩ = some (.int .i64 x228002_2) := (blk_cell BK227.out 2).trans rfl; have hcz94_3 : w92.cell? ⟨gb227, 3, none⟩ = some (.bool false) := (blk_cell BK227.out 3).trans rfl; have hfz94_0 := blk_frozen BK227.out 0; have hfz94_1 := blk_frozen BK227.out 1; have hfz94_2 := blk_frozen BK227.out 2; have hfz94_3 := blk_frozen BK227.out 3; have p255 : 0 ≤ ((ji81) : Int) := of_decide_eq_true (by first | (with_reducible assumption) | assumption); have q255 : (ji81) < (l3.length : Int) := of_decide_eq_true (by first | (with_reducible assumption) | assumption); obtain ⟨ad255, e255, hx255_0⟩ := Kd.at_int HR3.out (ji81) p255 q255; cases e255; have hn255_0 : ad255.block ≠ gb227 := Nat.ne_of_lt (Nat.lt_of_lt_of_le (by have := World.block_lt_of_cell? _ _ hx255_0; first | rwa [add_block] at this | exact this) GW227.out); (first | replace hx255_0 := (HB.out.cell (World.block_lt_of_cell? w _ hx255_0)).trans hx255_0 | skip); replace hx255_0 := (cell_far (p := ⟨gb227, 0, none⟩) (by first | (rw [add_block]; exact hn255_0) | (show (Addr.add _ _).block ≠ _; rw [add_block]; exact hn255_0) | exact hn255_0) (.slice Ao93 t251.length co93)).trans hx255_0; clear hn255_0; replace p255 := eq_true p255; replace q255 := eq_true q255))
                                (try simp only [Act.put, List.setIfInBounds_toArray, List.set_cons_zero, List.set_cons_succ])
                                go_cut [114] (fun v114 wc => ∃ (kq : Nat) (x114_83 : Bool), v114 = .bool x114_83 ∧ Aside0 (impl_TalkAll.j3 kq l0 a1 l2 l3 a4 x14_29 (-1) t252 (rd l3 (ji81)) x114_83 t230 t233 t234 t251 (wrap64 (x228001_2 + 1)) x228002_2 false = some (r1, r2, r3, r4, r5)) ∧ Aside0 (kq ≤ kj29) ∧ Aside0 (Kd.V (Kd.int .i64) 3 wc w.heap.size (fun k_ => (P0_ k_ ∨ w.heap.size ≤ k_) ∧ some k_ ≠ (u14 : Value).ownBlock ∧ some k_ ≠ ((.slice Ao45 t230.length co45) : Value).ownBlock ∧ some k_ ≠ ((.slice Ao93 t251.length co93) : Value).ownBlock ∧ some k_ ≠ ((.slice Ao45 t230.length co45) : Value).ownBlock ∧ k_ ≠ gb221 ∧ k_ ≠ gb226 ∧ k_ ≠ gb227 ∧ k_ ≠ gb236 ∧ k_ ≠ gb237) (.slice A0 l0.length c0) l0) ∧ Aside0 (Kd.R k54 54 wc w.heap.size (fun k_ => (w.heap.size ≤ k_) ∧ k_ ≠ gb236) u14 x14_29) ∧ Aside0 (Kd.R (Kd.int .i64) 3 wc w.heap.size (fun k_ => (w.heap.size ≤ k_) ∧ some k_ ≠ ((.slice Ao93 t251.length co93) : Value).ownBlock) (.slice Ao45 t230.length co45) t230) ∧ Aside0 (Kd.R (Kd.int .i64) 3 wc w.heap.size (fun k_ => (w.heap.size ≤ k_) ∧ some k_ ≠ ((.slice Ao45 t230.length co45) : Value).ownBlock ∧ some k_ ≠ ((.slice Ao45 t230.length co45) : Value).ownBlock) (.slice Ao93 t251.length co93) t251) ∧ Aside0 (Kd.R (Kd.int .i64) 3 wc w.heap.size (fun k_ => (w.heap.size ≤ k_) ∧ some k_ ≠ ((.slice Ao93 t251.length co93) : Value).ownBlock) (.slice Ao45 t230.length co45) t230) ∧ Aside0 (wc.heap[gb221]? = some (.cells #[(.slice none 0 0), .int .i64 0, .int .i64 0, .bool false] 69 (0, 0))) ∧ Aside0 (wc.heap[gb226]? = some (.cells #[(.slice Ao45 t230.length co45), .int .i64 t233, .int .i64 t234] 55 (0, 0))) ∧ Aside0 (wc.heap[gb227]? = some (.cells #[(.slice Ao93 t251.length co93), .int .i64 (wrap64 (x228001_2 + 1)), .int .i64 x228002_2, .bool false] 69 (0, 0))) ∧ Aside0 (wc.heap[gb236]? = some (.cells #[.int .i64 t228, .int .i64 t229] 54 (0, 0))) ∧ Aside0 (wc.heap[gb237]? = some (.cells #[(.slice Ao45 t230.length co45), .int .i64 t233, .int .i64 t234] 55 (0, 0))) ∧ Aside0 (Below w.heap.size w wc))
                                case first =>
                                  have H := HC84.out
                                  clear HC84
                                  by_cases c95 : (rd l3 (ji81)) = 0
                                  · rw [if_pos c95] at H
                                    have c95b0 : ((rd l3 (ji81)) == 0) = true := beq_iff_eq.mpr c95
                                    have c95b1 : ((rd l3 (ji81)) != 0) = false := bne_eq_false_iff_eq.mpr c95
                                    clear c95
                                    (first | rw [c95b0] | (simp only [i64_w, i32_w]; rw [c95b0]) | skip)
                                    have H' := Aside0.mk H
                                    clear H
                                    go_wp2
                                    go_meet
                                    case rel => exact ⟨_, (((rd l3 (ji81)) == 0)), (by first | rfl | (simp; done) | (refine congrArg Value.bool (Eq.symm ?_); assumption) | (simp only [← hji81] <;> (first | rfl | (simp; done))) | (simp [*]; done)), H', ⟨by have := HJ5.out; have := HK2.out; have := HJ29.out; first | omega | exact Nat.le_refl _⟩, ⟨by (with_reducible repeat (first | apply Kd.V_alloc | apply Kd.V_drewN | apply Kd.V_drew)); exact Kd.V_mono (Kd.V_far (p := ⟨gb227, 0, none⟩) (Kd.V_mono HO_0.out (fun k_ hk => (⟨hk, hk.1.2.2.2.2.2.2.2.2.1⟩ : _ ∧ k_ ≠ gb227))) (fun _ hk => hk.2) (.slice Ao93 t251.length co93)) (fun _ hk => ⟨hk.1.1.1, ⟨hk.1.1.2.1, ⟨hk.1.1.2.2.2.1, ⟨hk.1.2, ⟨hk.1.1.2.2.2.2.2.1, ⟨hk.1.1.2.2.2.2.2.2.1, ⟨hk.1.1.2.2.2.2.2.2.2.1, ⟨hk.1.1.2.2.2.2.2.2.2.2.1, ⟨hk.1.1.2.2.2.2.2.2.2.2.2.1, hk.1.1.2.2.2.2.2.2.2.2.2.2⟩⟩⟩⟩⟩⟩⟩⟩⟩)⟩, ⟨by exact Kd.R_mono (Kd.R_far (p := ⟨gb227, 0, none⟩) (Kd.R_types HO_14.out BK227.out (by decide)) (fun _ hk => hk.2) (.slice Ao93 t251.length co93)) (fun _ hk => ⟨hk.1.1, hk.1.2.2⟩)⟩, ⟨by exact Kd.R_mono (Kd.R_far (p := ⟨gb227, 0, none⟩) (Kd.R_types HO_227000.out BK227.out (by decide)) (fun _ hk => hk.2) (.slice Ao93 t251.length co93)) (fun _ hk => ⟨hk.1.1.1, hk.1.2⟩)⟩, ⟨by exact Kd.R_mono (Kd.R_far (p := ⟨gb227, 0, none⟩) (Kd.R_types HO254.out BK227.out (by decide)) (fun _ hk => hk.2) (.slice Ao93 t251.length co93)) (fun _ hk => ⟨hk.1.1.1.1.1, ⟨hk.1.1.1.2, hk.1.2⟩⟩)⟩, ⟨by exact Kd.R_mono (Kd.R_far (p := ⟨gb227, 0, none⟩) (Kd.R_types HO_238000.out BK227.out (by decide)) (fun _ hk => hk.2) (.slice Ao93 t251.length co93)) (fun _ hk => ⟨hk.1.1.1, hk.1.2⟩)⟩, ⟨by refine blk_far ?_ NB221_227.out _; exact BK221.out⟩, ⟨by refine blk_far ?_ NB226_227.out _; exact BK226.out⟩, ⟨by refine blk_put (cs := #[.slice Ao90 x228000_2.length co90, .int .i64 (wrap64 (x228001_2 + 1)), .int .i64 x228002_2, .bool false]) ?_ 0 _ rfl; exact BK227.out⟩, ⟨by refine blk_far ?_ NB236_227.out _; exact BK236.out⟩, ⟨by refine blk_far ?_ NB237_227.out _; exact BK237.out⟩, ⟨by repeat (first | (with_reducible first | exact HB.out | apply below_alloc | apply pw_below_drewN | apply below_drew1 | refine below_set ?_ GE221.out | refine below_set ?_ GE226.out | refine below_set ?_ GE227.out | refine below_set ?_ GE236.out | refine below_set ?_ GE237.out) | exact HB.out)⟩⟩
                                  · rw [if_neg c95] at H
                                    have c95b0 : ((rd l3 (ji81)) == 0) = false := beq_eq_false_iff_ne.mpr c95
                                    have c95b1 : ((rd l3 (ji81)) != 0) = true := bne_iff_ne.mpr c95
                                    (first | rw [c95b0] | (simp only [i64_w, i32_w]; rw [c95b0]) | skip)
                                    have H' := Aside0.mk H
                                    clear H
                                    go_wp2
                                    go_meet
                                    case rel => exact ⟨_, (((rd l3 (ji81)) == 2)), (by first | rfl | (simp; done) | (refine congrArg Value.bool (Eq.symm ?_); assumption) | (simp only [← hji81] <;> (first | rfl | (simp; done))) | (simp [*]; done)), H', ⟨by have := HJ5.out; have := HK2.out; have := HJ29.out; first | omega | exact Nat.le_refl _⟩, ⟨by (with_reducible repeat (first | apply Kd.V_alloc | apply Kd.V_drewN | apply Kd.V_drew)); exact Kd.V_mono (Kd.V_far (p := ⟨gb227, 0, none⟩) (Kd.V_mono HO_0.out (fun k_ hk => (⟨hk, hk.1.2.2.2.2.2.2.2.2.1⟩ : _ ∧ k_ ≠ gb227))) (fun _ hk => hk.2) (.slice Ao93 t251.length co93)) (fun _ hk => ⟨hk.1.1.1, ⟨hk.1.1.2.1, ⟨hk.1.1.2.2.2.1, ⟨hk.1.2, ⟨hk.1.1.2.2.2.2.2.1, ⟨hk.1.1.2.2.2.2.2.2.1, ⟨hk.1.1.2.2.2.2.2.2.2.1, ⟨hk.1.1.2.2.2.2.2.2.2.2.1, ⟨hk.1.1.2.2.2.2.2.2.2.2.2.1, hk.1.1.2.2.2.2.2.2.2.2.2.2⟩⟩⟩⟩⟩⟩⟩⟩⟩)⟩, ⟨by exact Kd.R_mono (Kd.R_far (p := ⟨gb227, 0, none⟩) (Kd.R_types HO_14.out BK227.out (by decide)) (fun _ hk => hk.2) (.slice Ao93 t251.length co93)) (fun _ hk => ⟨hk.1.1, hk.1.2.2⟩)⟩, ⟨by exact Kd.R_mono (Kd.R_far (p := ⟨gb227, 0, none⟩) (Kd.R_types HO_227000.out BK227.out (by decide)) (fun _ hk => hk.2) (.slice Ao93 t251.length co93)) (fun _ hk => ⟨hk.1.1.1, hk.1.2⟩)⟩, ⟨by exact Kd.R_mono (Kd.R_far (p := ⟨gb227, 0, none⟩) (Kd.R_types HO254.out BK227.out (by decide)) (fun _ hk => hk.2) (.slice Ao93 t251.length co93)) (fun _ hk => ⟨hk.1.1.1.1.1, ⟨hk.1.1.1.2, hk.1.2⟩⟩)⟩, ⟨by exact Kd.R_mono (Kd.R_far (p := ⟨gb227, 0, none⟩) (Kd.R_types HO_238000.out BK227.out (by decide)) (fun _ hk => hk.2) (.slice Ao93 t251.length co93)) (fun _ hk => ⟨hk.1.1.1, hk.1.2⟩)⟩, ⟨by refine blk_far ?_ NB221_227.out _; exact BK221.out⟩, ⟨by refine blk_far ?_ NB226_227.out _; exact BK226.out⟩, ⟨by refine blk_put (cs := #[.slice Ao90 x228000_2.length co90, .int .i64 (wrap64 (x228001_2 + 1)), .int .i64 x228002_2, .bool false]) ?_ 0 _ rfl; exact BK227.out⟩, ⟨by refine blk_far ?_ NB236_227.out _; exact BK236.out⟩, ⟨by refine blk_far ?_ NB237_227.out _; exact BK237.out⟩, ⟨by repeat (first | (with_reducible first | exact HB.out | apply below_alloc | apply pw_below_drewN | apply below_drew1 | refine below_set ?_ GE221.out | refine below_set ?_ GE226.out | refine below_set ?_ GE227.out | refine below_set ?_ GE236.out | refine below_set ?_ GE237.out) | exact HB.out)⟩⟩
                                case rest =>
                                  clear HC84
                                  try clear c1
                                  try clear c2
                                  try clear p2
                                  try clear q2
                                  try clear hx2
                                  try clear c3
                                  try clear c4
                                  try clear c5
                                  try clear c6
                                  try clear p6
                                  try clear c7
                                  try clear c8
                                  try clear c8b0
                                  try clear c8b1
                                  try clear c9
                                  try clear c10
                                  try clear c12
                                  try clear c14
                                  try clear c16
                                  try clear c19
                                  try clear c22
                                  try clear c22b0
                                  try clear p23
                                  try clear q23
                                  try clear hx23
                                  try clear c25
                                  try clear p25
                                  try clear q25
                                  try clear hx25
                                  try clear c26
                                  try clear c26b0
                                  try clear c26b1
                                  try clear c26b2
                                  try clear c28
                                  try clear c28b0
                                  try clear c29
                                  try clear c29b0
                                  try clear c31
                                  try clear c32
                                  try clear c34
                                  try clear c40
                                  try clear c41
                                  try clear c42
                                  try clear c43
                                  try clear c46
                                  try clear c47
                                  try clear c48
                                  try clear c52
                                  try clear c52b0
                                  try clear c52b1
                                  try clear c53
                                  try clear c54
                                  try clear c55
                                  try clear c56
                                  try clear c57
                                  try clear c60
                                  try clear c60b0
                                  try clear c60b1
                                  try clear c61
                                  try clear c62
                                  try clear c63
                                  try clear c64
                                  try clear p64
                                  try clear c65
                                  try clear c71
                                  try clear c71b0
                                  try clear c71b1
                                  try clear c72
                                  try clear c73
                                  try clear c74
                                  try clear c75
                                  try clear c76
                                  try clear c80
                                  try clear c80b0
                                  try clear c80b1
                                  try clear c80b2
                                  try clear c82
                                  try clear c82b0
                                  try clear c83
                                  try clear c83b0
                                  try clear c85
                                  try clear c86
                                  try clear c87
                                  try clear c88
                                  try clear c95
                                  try clear c95b0
                                  try clear c95b1
                                  try clear hcz17_0
                                  try clear hcz17_1
                                  try clear hcz17_2
                                  try clear hcz17_3
                                  try clear hcz20_0
                                  try clear hcz20_1
                                  try clear hcz20_2
                                  try clear hcz33_0
                                  try clear hcz33_1
                                  try clear hcz33_2
                                  try clear hcz33_3
                                  try clear hcz35_0
                                  try clear hcz35_1
                                  try clear hcz35_2
                                  try clear hcz44_0
                                  try clear hcz44_1
                                  try clear hcz49_0
                                  try clear hcz49_1
                                  try clear hcz49_2
                                  try clear hcz50_0
                                  try clear hcz50_1
                                  try clear hcz50_2
                                  try clear hcz51_0
                                  try clear hcz51_1
                                  try clear hcz51_2
                                  try clear hcz51_3
                                  try clear hcz58_0
                                  try clear hcz58_1
                                  try clear hcz66_0
                                  try clear hcz66_1
                                  try clear hcz77_0
                                  try clear hcz77_1
                                  try clear hcz89_0
                                  try clear hcz89_1
                                  try clear hcz89_2
                                  try clear hcz89_3
                                  try clear hcz94_0
                                  try clear hcz94_1
                                  try clear hcz94_2
                                  try clear hcz94_3
                                  try clear hfz17_0
                                  try clear hfz17_1
                                  try clear hfz17_2
                                  try clear hfz17_3
                                  try clear hfz20_0
                                  try clear hfz20_1
                                  try clear hfz20_2
                                  try clear hfz33_0
                                  try clear hfz33_1
                                  try clear hfz33_2
                                  try clear hfz33_3
                                  try clear hfz35_0
                                  try clear hfz35_1
                                  try clear hfz35_2
                                  try clear hfz44_0
                                  try clear hfz44_1
                                  try clear hfz49_0
                                  try clear hfz49_1
                                  try clear hfz49_2
                                  try clear hfz50_0
                                  try clear hfz50_1
                                  try clear hfz50_2
                                  try clear hfz51_0
                                  try clear hfz51_1
                                  try clear hfz51_2
                                  try clear hfz51_3
                                  try clear hfz58_0
                                  try clear hfz58_1
                                  try clear hfz66_0
                                  try clear hfz66_1
                                  try clear hfz77_0
                                  try clear hfz77_1
                                  try clear hfz89_0
                                  try clear hfz89_1
                                  try clear hfz89_2
                                  try clear hfz89_3
                                  try clear hfz94_0
                                  try clear hfz94_1
                                  try clear hfz94_2
                                  try clear hfz94_3
                                  try clear hx238_0
                                  try clear hx255_0
                                  try clear p2
                                  try clear p23
                                  try clear p238
                                  try clear p255
                                  try clear q2
                                  try clear q23
                                  try clear q238
                                  try clear q255
                                  obtain ⟨kq, x114_83, rfl, HA, HJ83, HO_0, HO_14, HO_227000, HO_228000, HO_238000, BK221, BK226, BK227, BK236, BK237, HB⟩ := hcut
                                  cases kq with
                                  | zero => exact absurd HA.out (by simp [impl_TalkAll.j3])
                                  | succ kj83 =>
                                    have H := HA.out
                                    clear HA
                                    simp only [impl_TalkAll.j3] at H
                                    by_cases c96 : x114_83 = true
                                    · subst c96
                                      have H1 : (impl_TalkAll.l0 kj83 l0 a1 l2 l3 a4 x14_29 (-1) t230 (mx t233 t252) t234 t251 (wrap64 (x228001_2 + 1)) (wrap64 (x228002_2 + 1)) false) = some (r1, r2, r3, r4, r5) := by rw [if_pos rfl] at H; exact H
                                      clear H
                                      have H := H1
                                      clear H1
                                      obtain ⟨ji97, hji97⟩ : ∃ j_ : Int, (mx t233 t252) = j_ := ⟨_, rfl⟩
                                      replace H : (impl_TalkAll.l0 kj83 l0 a1 l2 l3 a4 x14_29 (-1) t230 ji97 t234 t251 (wrap64 (x228001_2 + 1)) (wrap64 (x228002_2 + 1)) false) = some (r1, r2, r3, r4, r5) := by first | (rw [hji97] at H; exact H) | (simp only [hji97] at H ⊢; exact H)
                                      have hji97_ : (if t233 < t252 then t252 else t233) = ji97 := hji97
                                      have H' := Aside0.mk H
                                      clear H
                                      have hnb98 := NB226_221.out
                                      have hnc98 := NB221_226.out
                                      have hnb99 := NB226_227.out
                                      have hnc99 := NB227_226.out
                                      have hnb100 := NB226_236.out
                                      have hnc100 := NB236_226.out
                                      have hnb101 := NB226_237.out
                                      have hnc101 := NB237_226.out
                                      have hcz102_0 : wc.cell? ⟨gb226, 0, none⟩ = some (.slice Ao45 t230.length co45) := (blk_cell BK226.out 0).trans rfl
                                      have hcz102_1 : wc.cell? ⟨gb226, 1, none⟩ = some (.int .i64 t233) := (blk_cell BK226.out 1).trans rfl
                                      have hcz102_2 : wc.cell? ⟨gb226, 2, none⟩ = some (.int .i64 t234) := (blk_cell BK226.out 2).trans rfl
                                      have hfz102_0 := blk_frozen BK226.out 0
                                      have hfz102_1 := blk_frozen BK226.out 1
                                      have hfz102_2 := blk_frozen BK226.out 2
                                      have hnb103 := NB227_221.out
                                      have hnc103 := NB221_227.out
                                      have hnb104 := NB227_236.out
                                      have hnc104 := NB236_227.out
                                      have hnb105 := NB227_237.out
                                      have hnc105 := NB237_227.out
                                      have hcz106_0 : wc.cell? ⟨gb227, 0, none⟩ = some (.slice Ao93 t251.length co93) := (blk_cell BK227.out 0).trans rfl
                                      have hcz106_1 : wc.cell? ⟨gb227, 1, none⟩ = some (.int .i64 (wrap64 (x228001_2 + 1))) := (blk_cell BK227.out 1).trans rfl
                                      have hcz106_2 : wc.cell? ⟨gb227, 2, none⟩ = some (.int .i64 x228002_2) := (blk_cell BK227.out 2).trans rfl
                                      have hcz106_3 : wc.cell? ⟨gb227, 3, none⟩ = some (.bool false) := (blk_cell BK227.out 3).trans rfl
                                      have hfz106_0 := blk_frozen BK227.out 0
                                      have hfz106_1 := blk_frozen BK227.out 1
                                      have hfz106_2 := blk_frozen BK227.out 2
                                      have hfz106_3 := blk_frozen BK227.out 3
                                      go_wp2
                                      go_roundg kj83
                                      case measure => have := HJ5.out; have := HK2.out; have := HJ29.out; have := HJ83.out; omega
                                      case rel => exact ⟨(x14_29), ((-1)), (t230), (ji97), (t234), (t251), ((wrap64 (x228001_2 + 1))), (wrap64 (x228002_2 + 1)), (.slice Ao45 t230.length co45), (.slice Ao93 t251.length co93), (by first | rfl | (simp; done) | (simp [*]; done)), H', ⟨by have := HJ5.out; have := HK2.out; have := HJ29.out; have := HJ83.out; omega⟩, ⟨by (with_reducible repeat (first | apply Kd.V_alloc | apply Kd.V_drewN | apply Kd.V_drew)); exact Kd.V_mono (Kd.V_far (p := ⟨gb227, 2, none⟩) (Kd.V_far (p := ⟨gb226, 1, none⟩) (Kd.V_mono (Kd.V_mono HO_0.out (fun k_ hk => (⟨hk, hk.2.2.2.2.2.2.1⟩ : _ ∧ k_ ≠ gb226))) (fun k_ hk => (⟨hk, hk.1.2.2.2.2.2.2.2.1⟩ : _ ∧ k_ ≠ gb227))) (fun _ hk => hk.1.2) (.int .i64 ji97)) (fun _ hk => hk.2) (.int .i64 (wrap64 (x228002_2 + 1)))) (fun _ hk => ⟨hk.1.1.1, ⟨hk.1.1.2.1, ⟨hk.1.1.2.2.2.1, ⟨hk.1.1.2.2.2.2.2.1, ⟨hk.1.1.2.2.2.2.2.2.1, hk.1.1.2.2.2.2.2.2.2.1⟩⟩⟩⟩⟩)⟩, ⟨by exact Kd.R_mono (Kd.R_far (p := ⟨gb227, 2, none⟩) (Kd.R_far (p := ⟨gb226, 1, none⟩) (Kd.R_types (Kd.R_types HO_14.out BK226.out (by decide)) BK227.out (by decide)) (fun _ hk => hk.1.2) (.int .i64 ji97)) (fun _ hk => hk.2) (.int .i64 (wrap64 (x228002_2 + 1)))) (fun _ hk => hk.1.1.1)⟩, ⟨by exact Kd.V_mono (Kd.R_V (Kd.R_far (p := ⟨gb227, 2, none⟩) (Kd.R_far (p := ⟨gb226, 1, none⟩) (Kd.R_types (Kd.R_types (Kd.R_types (Kd.R_types (Kd.R_types (Kd.R_apart' HO_227000.out (Kd.R_typed HO_14.out) (by decide)) BK221.out (by decide)) BK226.out (by decide)) BK227.out (by decide)) BK226.out (by decide)) BK227.out (by decide)) (fun _ hk => hk.1.2) (.int .i64 ji97)) (fun _ hk => hk.2) (.int .i64 (wrap64 (x228002_2 + 1))))) (fun _ hk => ⟨.inr hk.1.1.1.1.1.1.1, ⟨hk.1.1.1.1.1.2, ⟨hk.1.1.1.1.1.1.2, ⟨hk.1.1.1.1.2, ⟨hk.1.1.1.2, hk.1.1.2⟩⟩⟩⟩⟩)⟩, ⟨by exact Kd.R_mono (Kd.R_far (p := ⟨gb227, 2, none⟩) (Kd.R_far (p := ⟨gb226, 1, none⟩) (Kd.R_types (Kd.R_types HO_228000.out BK226.out (by decide)) BK227.out (by decide)) (fun _ hk => hk.1.2) (.int .i64 ji97)) (fun _ hk => hk.2) (.int .i64 (wrap64 (x228002_2 + 1)))) (fun _ hk => hk.1.1.1)⟩, ⟨by refine blk_far ?_ NB221_227.out _; refine blk_far ?_ NB221_226.out _; exact BK221.out⟩, ⟨by refine blk_far ?_ NB226_227.out _; refine blk_put (cs := #[.slice Ao45 t230.length co45, .int .i64 t233, .int .i64 t234]) ?_ 1 _ rfl; exact BK226.out⟩, ⟨by refine blk_put (cs := #[.slice Ao93 t251.length co93, .int .i64 (wrap64 (x228001_2 + 1)), .int .i64 x228002_2, .bool false]) ?_ 2 _ rfl; refine blk_far ?_ NB227_226.out _; exact BK227.out⟩, ⟨by repeat (first | (with_reducible first | exact HB.out | apply below_alloc | apply pw_below_drewN | apply below_drew1 | refine below_set ?_ GE221.out | refine below_set ?_ GE226.out | refine below_set ?_ GE227.out | refine below_set ?_ GE236.out | refine below_set ?_ GE237.out) | exact HB.out)⟩⟩
                                    · replace c96 := Bool.eq_false_iff.mpr c96
                                      subst c96
                                      have H1 : (if (rd l3 (ji81)) = 3 then (impl_TalkAll.l0 kj83 l0 a1 l2 l3 a4 x14_29 t252 t230 t233 t234 t251 (wrap64 (x228001_2 + 1)) (wrap64 (x228002_2 + 1)) false) else (impl_TalkAll.l0 kj83 l0 a1 l2 l3 a4 x14_29 (-1) t230 t233 t234 t251 (wrap64 (x228001_2 + 1)) (wrap64 (x228002_2 + 1)) false)) = some (r1, r2, r3, r4, r5) := by rw [if_neg (show ¬ (false = true) by decide)] at H; exact H
                                      clear H
                                      have H := H1
                                      clear H1
                                      by_cases c107 : (rd l3 (ji81)) = 3
                                      · rw [if_pos c107] at H
                                        have c107b0 : ((rd l3 (ji81)) == 3) = true := beq_iff_eq.mpr c107
                                        have c107b1 : ((rd l3 (ji81)) != 3) = false := bne_eq_false_iff_eq.mpr c107
                                        clear c107
                                        have H' := Aside0.mk H
                                        clear H
                                        have hnb108 := NB227_221.out
                                        have hnc108 := NB221_227.out
                                        have hnb109 := NB227_226.out
                                        have hnc109 := NB226_227.out
                                        have hnb110 := NB227_236.out
                                        have hnc110 := NB236_227.out
                                        have hnb111 := NB227_237.out
                                        have hnc111 := NB237_227.out
                                        have hcz112_0 : wc.cell? ⟨gb227, 0, none⟩ = some (.slice Ao93 t251.length co93) := (blk_cell BK227.out 0).trans rfl
                                        have hcz112_1 : wc.cell? ⟨gb227, 1, none⟩ = some (.int .i64 (wrap64 (x228001_2 + 1))) := (blk_cell BK227.out 1).trans rfl
                                        have hcz112_2 : wc.cell? ⟨gb227, 2, none⟩ = some (.int .i64 x228002_2) := (blk_cell BK227.out 2).trans rfl
                                        have hcz112_3 : wc.cell? ⟨gb227, 3, none⟩ = some (.bool false) := (blk_cell BK227.out 3).trans rfl
                                        have hfz112_0 := blk_frozen BK227.out 0
                                        have hfz112_1 := blk_frozen BK227.out 1
                                        have hfz112_2 := blk_frozen BK227.out 2
                                        have hfz112_3 := blk_frozen BK227.out 3
                                        go_wp2
                                        go_roundg kj83
                                        case measure => have := HJ5.out; have := HK2.out; have := HJ29.out; have := HJ83.out; omega
                                        case rel => exact ⟨(x14_29), (t252), (t230), (t233), (t234), (t251), ((wrap64 (x228001_2 + 1))), (wrap64 (x228002_2 + 1)), (.slice Ao45 t230.length co45), (.slice Ao93 t251.length co93), (by first | rfl | (simp; done) | (simp [*]; done)), H', ⟨by have := HJ5.out; have := HK2.out; have := HJ29.out; have := HJ83.out; omega⟩, ⟨by (with_reducible repeat (first | apply Kd.V_alloc | apply Kd.V_drewN | apply Kd.V_drew)); exact Kd.V_mono (Kd.V_far (p := ⟨gb227, 2, none⟩) (Kd.V_mono HO_0.out (fun k_ hk => (⟨hk, hk.2.2.2.2.2.2.2.1⟩ : _ ∧ k_ ≠ gb227))) (fun _ hk => hk.2) (.int .i64 (wrap64 (x228002_2 + 1)))) (fun _ hk => ⟨hk.1.1, ⟨hk.1.2.1, ⟨hk.1.2.2.2.1, ⟨hk.1.2.2.2.2.2.1, ⟨hk.1.2.2.2.2.2.2.1, hk.1.2.2.2.2.2.2.2.1⟩⟩⟩⟩⟩)⟩, ⟨by exact Kd.R_mono (Kd.R_far (p := ⟨gb227, 2, none⟩) (Kd.R_types HO_14.out BK227.out (by decide)) (fun _ hk => hk.2) (.int .i64 (wrap64 (x228002_2 + 1)))) (fun _ hk => hk.1.1)⟩, ⟨by exact Kd.V_mono (Kd.R_V (Kd.R_far (p := ⟨gb227, 2, none⟩) (Kd.R_types (Kd.R_types (Kd.R_types (Kd.R_types (Kd.R_apart' HO_227000.out (Kd.R_typed HO_14.out) (by decide)) BK221.out (by decide)) BK226.out (by decide)) BK227.out (by decide)) BK227.out (by decide)) (fun _ hk => hk.2) (.int .i64 (wrap64 (x228002_2 + 1))))) (fun _ hk => ⟨.inr hk.1.1.1.1.1.1, ⟨hk.1.1.1.1.2, ⟨hk.1.1.1.1.1.2, ⟨hk.1.1.1.2, ⟨hk.1.1.2, hk.1.2⟩⟩⟩⟩⟩)⟩, ⟨by exact Kd.R_mono (Kd.R_far (p := ⟨gb227, 2, none⟩) (Kd.R_types HO_228000.out BK227.out (by decide)) (fun _ hk => hk.2) (.int .i64 (wrap64 (x228002_2 + 1)))) (fun _ hk => hk.1.1)⟩, ⟨by refine blk_far ?_ NB221_227.out _; exact BK221.out⟩, ⟨by refine blk_far ?_ NB226_227.out _; exact BK226.out⟩, ⟨by refine blk_put (cs := #[.slice Ao93 t251.length co93, .int .i64 (wrap64 (x228001_2 + 1)), .int .i64 x228002_2, .bool false]) ?_ 2 _ rfl; exact BK227.out⟩, ⟨by repeat (first | (with_reducible first | exact HB.out | apply below_alloc | apply pw_below_drewN | apply below_drew1 | refine below_set ?_ GE221.out | refine below_set ?_ GE226.out | refine below_set ?_ GE227.out | refine below_set ?_ GE236.out | refine below_set ?_ GE237.out) | exact HB.out)⟩⟩
                                      · rw [if_neg c107] at H
                                        have c107b0 : ((rd l3 (ji81)) == 3) = false := beq_eq_false_iff_ne.mpr c107
                                        have c107b1 : ((rd l3 (ji81)) != 3) = true := bne_iff_ne.mpr c107
                                        have H' := Aside0.mk H
                                        clear H
                                        have hnb113 := NB227_221.out
                                        have hnc113 := NB221_227.out
                                        have hnb114 := NB227_226.out
                                        have hnc114 := NB226_227.out
                                        have hnb115 := NB227_236.out
                                        have hnc115 := NB236_227.out
                                        have hnb116 := NB227_237.out
                                        have hnc116 := NB237_227.out
                                        have hcz117_0 : wc.cell? ⟨gb227, 0, none⟩ = some (.slice Ao93 t251.length co93) := (blk_cell BK227.out 0).trans rfl
                                        have hcz117_1 : wc.cell? ⟨gb227, 1, none⟩ = some (.int .i64 (wrap64 (x228001_2 + 1))) := (blk_cell BK227.out 1).trans rfl
                                        have hcz117_2 : wc.cell? ⟨gb227, 2, none⟩ = some (.int .i64 x228002_2) := (blk_cell BK227.out 2).trans rfl
                                        have hcz117_3 : wc.cell? ⟨gb227, 3, none⟩ = some (.bool false) := (blk_cell BK227.out 3).trans rfl
                                        have hfz117_0 := blk_frozen BK227.out 0
                                        have hfz117_1 := blk_frozen BK227.out 1
                                        have hfz117_2 := blk_frozen BK227.out 2
                                        have hfz117_3 := blk_frozen BK227.out 3
                                        go_wp2
                                        go_roundg kj83
                                        case measure => have := HJ5.out; have := HK2.out; have := HJ29.out; have := HJ83.out; omega
                                        case rel => exact ⟨(x14_29), ((-1)), (t230), (t233), (t234), (t251), ((wrap64 (x228001_2 + 1))), (wrap64 (x228002_2 + 1)), (.slice Ao45 t230.length co45), (.slice Ao93 t251.length co93), (by first | rfl | (simp; done) | (simp [*]; done)), H', ⟨by have := HJ5.out; have := HK2.out; have := HJ29.out; have := HJ83.out; omega⟩, ⟨by (with_reducible repeat (first | apply Kd.V_alloc | apply Kd.V_drewN | apply Kd.V_drew)); exact Kd.V_mono (Kd.V_far (p := ⟨gb227, 2, none⟩) (Kd.V_mono HO_0.out (fun k_ hk => (⟨hk, hk.2.2.2.2.2.2.2.1⟩ : _ ∧ k_ ≠ gb227))) (fun _ hk => hk.2) (.int .i64 (wrap64 (x228002_2 + 1)))) (fun _ hk => ⟨hk.1.1, ⟨hk.1.2.1, ⟨hk.1.2.2.2.1, ⟨hk.1.2.2.2.2.2.1, ⟨hk.1.2.2.2.2.2.2.1, hk.1.2.2.2.2.2.2.2.1⟩⟩⟩⟩⟩)⟩, ⟨by exact Kd.R_mono (Kd.R_far (p := ⟨gb227, 2, none⟩) (Kd.R_types HO_14.out BK227.out (by decide)) (fun _ hk => hk.2) (.int .i64 (wrap64 (x228002_2 + 1)))) (fun _ hk => hk.1.1)⟩, ⟨by exact Kd.V_mono (Kd.R_V (Kd.R_far (p := ⟨gb227, 2, none⟩) (Kd.R_types (Kd.R_types (Kd.R_types (Kd.R_types (Kd.R_apart' HO_227000.out (Kd.R_typed HO_14.out) (by decide)) BK221.out (by decide)) BK226.out (by decide)) BK227.out (by decide)) BK227.out (by decide)) (fun _ hk => hk.2) (.int .i64 (wrap64 (x228002_2 + 1))))) (fun _ hk => ⟨.inr hk.1.1.1.1.1.1, ⟨hk.1.1.1.1.2, ⟨hk.1.1.1.1.1.2, ⟨hk.1.1.1.2, ⟨hk.1.1.2, hk.1.2⟩⟩⟩⟩⟩)⟩, ⟨by exact Kd.R_mono (Kd.R_far (p := ⟨gb227, 2, none⟩) (Kd.R_types HO_228000.out BK227.out (by decide)) (fun _ hk => hk.2) (.int .i64 (wrap64 (x228002_2 + 1)))) (fun _ hk => hk.1.1)⟩, ⟨by refine blk_far ?_ NB221_227.out _; exact BK221.out⟩, ⟨by refine blk_far ?_ NB226_227.out _; exact BK226.out⟩, ⟨by refine blk_put (cs := #[.slice Ao93 t251.length co93, .int .i64 (wrap64 (x228001_2 + 1)), .int .i64 x228002_2, .bool false]) ?_ 2 _ rfl; exact BK227.out⟩, ⟨by repeat (first | (with_reducible first | exact HB.out | apply below_alloc | apply pw_below_drewN | apply below_drew1 | refine below_set ?_ GE221.out | refine below_set ?_ GE226.out | refine below_set ?_ GE227.out | refine below_set ?_ GE236.out | refine below_set ?_ GE237.out) | exact HB.out)⟩⟩
                              · rw [if_neg c83] at H
                                exact absurd H (by simp)
                            · rw [if_neg c82] at H
                              exact absurd H (by simp)
                    · rw [if_neg c29] at H
                      exact absurd H (by simp)
                  · rw [if_neg c28] at H
                    exact absurd H (by simp)
              · replace c25 := Bool.eq_false_iff.mpr c25
                subst c25
                have H1 : (some (x228000_2, x228001_2, x228002_2, ((mx (ji23) (-1)) == (l0.length : Int)), true)) = some (r1, r2, r3, r4, r5) := by rw [if_neg (show ¬ (false = true) by decide)] at H; exact H
                clear H
                have H := H1
                clear H1
                obtain ⟨ji118, hji118⟩ : ∃ j_ : Int, (mx (ji23) (-1)) = j_ := ⟨_, rfl⟩
                replace H : (some (x228000_2, x228001_2, x228002_2, ((ji118) == (l0.length : Int)), true)) = some (r1, r2, r3, r4, r5) := by first | (rw [hji118] at H; exact H) | (simp only [hji118] at H ⊢; exact H)
                (try rw [hji118] at A24)
                have hji118_ : (if (ji23) < (-1) then (-1) else (ji23)) = ji118 := hji118
                simp only [Option.some.injEq, Prod.mk.injEq] at H
                obtain ⟨rfl, rfl, rfl, rfl, rfl⟩ := H
                have hnb119 := NB227_221.out
                have hnc119 := NB221_227.out
                have hnb120 := NB227_226.out
                have hnc120 := NB226_227.out
                have hcz121_0 : wr.cell? ⟨gb227, 0, none⟩ = some (u228000) := (blk_cell BK227.out 0).trans rfl
                have hcz121_1 : wr.cell? ⟨gb227, 1, none⟩ = some (.int .i64 x228001_2) := (blk_cell BK227.out 1).trans rfl
                have hcz121_2 : wr.cell? ⟨gb227, 2, none⟩ = some (.int .i64 x228002_2) := (blk_cell BK227.out 2).trans rfl
                have hcz121_3 : wr.cell? ⟨gb227, 3, none⟩ = some (.bool false) := (blk_cell BK227.out 3).trans rfl
                have hfz121_0 := blk_frozen BK227.out 0
                have hfz121_1 := blk_frozen BK227.out 1
                have hfz121_2 := blk_frozen BK227.out 2
                have hfz121_3 := blk_frozen BK227.out 3
                have hnb122 := NB226_221.out
                have hnc122 := NB221_226.out
                have hcz123_0 : wr.cell? ⟨gb226, 0, none⟩ = some (u227000) := (blk_cell BK226.out 0).trans rfl
                have hcz123_1 : wr.cell? ⟨gb226, 1, none⟩ = some (.int .i64 x227001_2) := (blk_cell BK226.out 1).trans rfl
                have hcz123_2 : wr.cell? ⟨gb226, 2, none⟩ = some (.int .i64 x227002_2) := (blk_cell BK226.out 2).trans rfl
                have hfz123_0 := blk_frozen BK226.out 0
                have hfz123_1 := blk_frozen BK226.out 1
                have hfz123_2 := blk_frozen BK226.out 2
                obtain ⟨Ao124, co124, eo124⟩ := Kd.V_slice HO_227000.out
                subst eo124
                go_wp2_with (first | ((with_reducible refine gate_callee (f := 32) rfl ?_); refine goesL_ (some 59) rfl rfl Try.func32 (by kernel_rfl) rfl #[.agg #[.slice Ao124 x227000_2.length co124, .int .i64 ji23, .int .i64 x227002_2], .int .i64 a1] rfl (by (try simp only [List.map_toArray, List.map_cons, List.map_nil]); first | done | (simp only [hji23]; rfl) | rfl | (simp only [List.length_drop, List.length_take]; rfl)) ?_; (with_reducible refine (impl_SendNext.calls k2 _ _ x227000_2 ji23 x227002_2 a1 t228 t229 t230 t233 t234 false _ ?side1 ?side2 A24.out).mono ?_); (case side1 => refine (Kd.V_reads' (e := 3) (base := w.heap.size) (ok := fun k_ => ((P0_ k_ ∨ w.heap.size ≤ k_) ∧ (some k_ ≠ (u14 : Value).ownBlock ∧ (some k_ ≠ (u228000 : Value).ownBlock ∧ (k_ ≠ gb221 ∧ (k_ ≠ gb226 ∧ k_ ≠ gb227)))))) (n := x227000_2.length) (c := co124) ?_).2.2; exact (by (with_reducible repeat (first | apply Kd.V_alloc | apply Kd.V_drewN | apply Kd.V_drew)); exact (Kd.V_mono (Kd.V_far (p := ⟨gb226, 1, none⟩) (Kd.V_mono HO_227000.out (fun k_ hk => (⟨hk, hk.2.2.2.2.1⟩ : _ ∧ k_ ≠ gb226))) (fun _ hk => hk.2) (.int .i64 ji23)) (fun _ h_ => h_.1)))); (case side2 => exact (Kd.V_reads' HO_227000.out).2.1); rintro e w125 ⟨v231, rfl, ho0, hb⟩; refine ⟨_, rfl, ?_⟩; have n0_ := Aside0.mk (Kd.V_elder' (by (with_reducible repeat (first | apply Kd.V_alloc | apply Kd.V_drewN | apply Kd.V_drew)); exact (Kd.V_mono (Kd.V_far (p := ⟨gb226, 1, none⟩) (Kd.V_mono HO_0.out (fun k_ hk => (⟨hk, hk.2.2.2.2.1⟩ : _ ∧ k_ ≠ gb226))) (fun _ hk => hk.2) (.int .i64 ji23)) (fun _ h_ => h_.1))) (Kd.R_base ho0) hb); have n1_ := Aside0.mk (Kd.R_below (by exact (Kd.R_mono (Kd.R_far (p := ⟨gb226, 1, none⟩) (Kd.R_types HO_14.out BK226.out (by decide)) (fun _ hk => hk.2) (.int .i64 ji23)) (fun _ h_ => h_.1))) hb); have n2_ := Aside0.mk (Kd.V_elder' (by (with_reducible repeat (first | apply Kd.V_alloc | apply Kd.V_drewN | apply Kd.V_drew)); exact (Kd.V_mono (Kd.V_far (p := ⟨gb226, 1, none⟩) (Kd.V_mono HO_227000.out (fun k_ hk => (⟨hk, hk.2.2.2.2.1⟩ : _ ∧ k_ ≠ gb226))) (fun _ hk => hk.2) (.int .i64 ji23)) (fun _ h_ => h_.1))) (Kd.R_base ho0) hb); have n3_ := Aside0.mk (Kd.R_elder' (by exact (Kd.R_mono (Kd.R_far (p := ⟨gb226, 1, none⟩) (Kd.R_types HO_228000.out BK226.out (by decide)) (fun _ hk => hk.2) (.int .i64 ji23)) (fun _ h_ => h_.1))) (Kd.R_base ho0) hb); have n4_ := Aside0.mk (Kd.R_lower (Kd.R_new' (Kd.R_newM (M := fun k_ => (w.heap.size ≤ k_)) ho0 (below_size (by repeat (first | (with_reducible first | exact HB.out | apply below_alloc | apply pw_below_drewN | apply below_drew1 | refine below_set ?_ GE221.out | refine below_set ?_ GE226.out | refine below_set ?_ GE227.out) | exact HB.out))) (fun k_ h_ => h_)) (Kd.R_lt (by exact (Kd.R_mono (Kd.R_far (p := ⟨gb226, 1, none⟩) (Kd.R_types HO_228000.out BK226.out (by decide)) (fun _ hk => hk.2) (.int .i64 ji23)) (fun _ h_ => h_.1))))) (below_size (by repeat (first | (with_reducible first | exact HB.out | apply below_alloc | apply pw_below_drewN | apply below_drew1 | refine below_set ?_ GE221.out | refine below_set ?_ GE226.out | refine below_set ?_ GE227.out) | exact HB.out)))); have n5_ := Aside0.mk (blk_below (g := gb221) (o := .cells #[.slice none 0 0, .int .i64 0, .int .i64 0, .bool false] 69 (0, 0)) (by refine blk_far ?_ NB221_226.out _; exact BK221.out) hb); have n6_ := Aside0.mk (blk_below (g := gb226) (o := .cells #[.slice Ao124 x227000_2.length co124, .int .i64 ji23, .int .i64 x227002_2] 55 (0, 0)) (by refine blk_put (cs := #[.slice Ao124 x227000_2.length co124, .int .i64 x227001_2, .int .i64 x227002_2]) ?_ 1 _ rfl; exact BK226.out) hb); have n7_ := Aside0.mk (blk_below (g := gb227) (o := .cells #[u228000, .int .i64 x228001_2, .int .i64 x228002_2, .bool false] 69 (0, 0)) (by refine blk_far ?_ NB227_226.out _; exact BK227.out) hb); have n8_ := Aside0.mk (below_step (by repeat (first | (with_reducible first | exact HB.out | apply below_alloc | apply pw_below_drewN | apply below_drew1 | refine below_set ?_ GE221.out | refine below_set ?_ GE226.out | refine below_set ?_ GE227.out) | exact HB.out)) hb); clear HO_0; clear HO_14; clear HO_227000; clear HO_228000; clear BK221; clear BK226; clear BK227; clear HB; have HO_0 := n0_; have HO_14 := n1_; have HO_227000 := n2_; have HO_228000 := n3_; have HO232 := n4_; have BK221 := n5_; have BK226 := n6_; have BK227 := n7_; have HB := n8_; clear n0_ n1_ n2_ n3_ n4_ n5_ n6_ n7_ n8_; (try clear hb); (try clear hb2); (try clear hk); (try clear hi); (try clear ho0)) | ((with_reducible refine gate_dst (N := 16) rfl ?_); refine box_event ?hg (N := 16) ?hd (cs := #[.int .i64 0, .int .i64 0]) (t := 54) ?hr ?_; (case hd => rfl); (case hg => rfl); (case hr => first | (go_simp; done) | (go_simp; rfl)); intro gb236 hg w126 hbox hb; have n0_ := Aside0.mk (Kd.V_below (Kd.V_elderB (by (with_reducible repeat (first | apply Kd.V_alloc | apply Kd.V_drewN | apply Kd.V_drew)); exact HO_0.out) gb236 (Nat.le_of_eq hg.symm)) hb); have n1_ := Aside0.mk (Kd.R_below (Kd.R_elderB HO_14.out gb236 (Nat.le_of_eq hg.symm)) hb); have n2_ := Aside0.mk (Kd.V_below (Kd.V_elderB (by (with_reducible repeat (first | apply Kd.V_alloc | apply Kd.V_drewN | apply Kd.V_drew)); exact HO_227000.out) gb236 (Nat.le_of_eq hg.symm)) hb); have n3_ := Aside0.mk (Kd.R_below HO_228000.out hb); have n4_ := Aside0.mk (Kd.R_below HO232.out hb); have n5_ := Aside0.mk (blk_below (g := gb221) (o := .cells #[.slice none 0 0, .int .i64 0, .int .i64 0, .bool false] 69 (0, 0)) BK221.out hb); have n6_ := Aside0.mk (blk_below (g := gb226) (o := .cells #[.slice Ao124 x227000_2.length co124, .int .i64 ji23, .int .i64 x227002_2] 55 (0, 0)) BK226.out hb); have n7_ := Aside0.mk (blk_below (g := gb227) (o := .cells #[u228000, .int .i64 x228001_2, .int .i64 x228002_2, .bool false] 69 (0, 0)) BK227.out hb); have n8_ := Aside0.mk (below_step (by repeat (first | (with_reducible first | exact HB.out | apply below_alloc | apply pw_below_drewN | apply below_drew1 | refine below_set ?_ GE221.out | refine below_set ?_ GE226.out | refine below_set ?_ GE227.out) | exact HB.out)) hb); have n9_ := Aside0.mk (hbox); have n10_ := Aside0.mk ((by rw [hg]; exact (below_size (by repeat (first | (with_reducible first | exact HB.out | apply below_alloc | apply pw_below_drewN | apply below_drew1 | refine below_set ?_ GE221.out | refine below_set ?_ GE226.out | refine below_set ?_ GE227.out) | exact HB.out))) : w.heap.size ≤ gb236)); have n11_ := Aside0.mk ((by rw [hg]; exact (below_size (by repeat (first | (with_reducible first | exact HB.out | apply below_alloc | apply pw_below_drewN | apply below_drew1 | refine below_set ?_ GE221.out | refine below_set ?_ GE226.out | refine below_set ?_ GE227.out) | exact HB.out))) : w.heap.size ≤ gb236)); have n12_ := Aside0.mk ((by rw [hg]; exact Nat.ne_of_lt (blk_lt (g := gb221) (o := .cells #[.slice none 0 0, .int .i64 0, .int .i64 0, .bool false] 69 (0, 0)) BK221.out) : gb221 ≠ gb236)); have n13_ := Aside0.mk ((by rw [hg]; exact Nat.ne_of_gt (blk_lt (g := gb221) (o := .cells #[.slice none 0 0, .int .i64 0, .int .i64 0, .bool false] 69 (0, 0)) BK221.out) : gb236 ≠ gb221)); have n14_ := Aside0.mk ((by rw [hg]; exact Nat.ne_of_lt (blk_lt (g := gb226) (o := .cells #[.slice Ao124 x227000_2.length co124, .int .i64 ji23, .int .i64 x227002_2] 55 (0, 0)) BK226.out) : gb226 ≠ gb236)); have n15_ := Aside0.mk ((by rw [hg]; exact Nat.ne_of_gt (blk_lt (g := gb226) (o := .cells #[.slice Ao124 x227000_2.length co124, .int .i64 ji23, .int .i64 x227002_2] 55 (0, 0)) BK226.out) : gb236 ≠ gb226)); have n16_ := Aside0.mk ((by rw [hg]; exact Nat.ne_of_lt (blk_lt (g := gb227) (o := .cells #[u228000, .int .i64 x228001_2, .int .i64 x228002_2, .bool false] 69 (0, 0)) BK227.out) : gb227 ≠ gb236)); have n17_ := Aside0.mk ((by rw [hg]; exact Nat.ne_of_gt (blk_lt (g := gb227) (o := .cells #[u228000, .int .i64 x228001_2, .int .i64 x228002_2, .bool false] 69 (0, 0)) BK227.out) : gb236 ≠ gb227)); clear HO_0; clear HO_14; clear HO_227000; clear HO_228000; clear HO232; clear BK221; clear BK226; clear BK227; clear HB; have HO_0 := n0_; have HO_14 := n1_; have HO_227000 := n2_; have HO_228000 := n3_; have HO232 := n4_; have BK221 := n5_; have BK226 := n6_; have BK227 := n7_; have HB := n8_; have BK236 := n9_; have GW236 := n10_; have GE236 := n11_; have NB221_236 := n12_; have NB236_221 := n13_; have NB226_236 := n14_; have NB236_226 := n15_; have NB227_236 := n16_; have NB236_227 := n17_; clear n0_ n1_ n2_ n3_ n4_ n5_ n6_ n7_ n8_ n9_ n10_ n11_ n12_ n13_ n14_ n15_ n16_ n17_; clear hb hbox hg) | ((with_reducible refine gate_dst (N := 17) rfl ?_); refine box_event ?hg (N := 17) ?hd (cs := #[.slice none 0 0, .int .i64 0, .int .i64 0]) (t := 55) ?hr ?_; (case hd => rfl); (case hg => rfl); (case hr => first | (go_simp; done) | (go_simp; rfl)); intro gb237 hg w127 hbox hb; have n0_ := Aside0.mk (Kd.V_below (Kd.V_elderB (by (with_reducible repeat (first | apply Kd.V_alloc | apply Kd.V_drewN | apply Kd.V_drew)); exact HO_0.out) gb237 (Nat.le_of_eq hg.symm)) hb); have n1_ := Aside0.mk (Kd.R_below HO_14.out hb); have n2_ := Aside0.mk (Kd.V_below (Kd.V_elderB (by (with_reducible repeat (first | apply Kd.V_alloc | apply Kd.V_drewN | apply Kd.V_drew)); exact HO_227000.out) gb237 (Nat.le_of_eq hg.symm)) hb); have n3_ := Aside0.mk (Kd.R_below HO_228000.out hb); have n4_ := Aside0.mk (Kd.R_below HO232.out hb); have n5_ := Aside0.mk (blk_below (g := gb221) (o := .cells #[.slice none 0 0, .int .i64 0, .int .i64 0, .bool false] 69 (0, 0)) BK221.out hb); have n6_ := Aside0.mk (blk_below (g := gb226) (o := .cells #[.slice Ao124 x227000_2.length co124, .int .i64 ji23, .int .i64 x227002_2] 55 (0, 0)) BK226.out hb); have n7_ := Aside0.mk (blk_below (g := gb227) (o := .cells #[u228000, .int .i64 x228001_2, .int .i64 x228002_2, .bool false] 69 (0, 0)) BK227.out hb); have n8_ := Aside0.mk (blk_below (g := gb236) (o := .cells #[.int .i64 0, .int .i64 0] 54 (0, 0)) BK236.out hb); have n9_ := Aside0.mk (below_step (by repeat (first | (with_reducible first | exact HB.out | apply below_alloc | apply pw_below_drewN | apply below_drew1 | refine below_set ?_ GE221.out | refine below_set ?_ GE226.out | refine below_set ?_ GE227.out | refine below_set ?_ GE236.out) | exact HB.out)) hb); have n10_ := Aside0.mk (hbox); have n11_ := Aside0.mk ((by rw [hg]; exact (below_size (by repeat (first | (with_reducible first | exact HB.out | apply below_alloc | apply pw_below_drewN | apply below_drew1 | refine below_set ?_ GE221.out | refine below_set ?_ GE226.out | refine below_set ?_ GE227.out | refine below_set ?_ GE236.out) | exact HB.out))) : w.heap.size ≤ gb237)); have n12_ := Aside0.mk ((by rw [hg]; exact (below_size (by repeat (first | (with_reducible first | exact HB.out | apply below_alloc | apply pw_below_drewN | apply below_drew1 | refine below_set ?_ GE221.out | refine below_set ?_ GE226.out | refine below_set ?_ GE227.out | refine below_set ?_ GE236.out) | exact HB.out))) : w.heap.size ≤ gb237)); have n13_ := Aside0.mk ((by rw [hg]; exact Nat.ne_of_lt (blk_lt (g := gb221) (o := .cells #[.slice none 0 0, .int .i64 0, .int .i64 0, .bool false] 69 (0, 0)) BK221.out) : gb221 ≠ gb237)); have n14_ := Aside0.mk ((by rw [hg]; exact Nat.ne_of_gt (blk_lt (g := gb221) (o := .cells #[.slice none 0 0, .int .i64 0, .int .i64 0, .bool false] 69 (0, 0)) BK221.out) : gb237 ≠ gb221)); have n15_ := Aside0.mk ((by rw [hg]; exact Nat.ne_of_lt (blk_lt (g := gb226) (o := .cells #[.slice Ao124 x227000_2.length co124, .int .i64 ji23, .int .i64 x227002_2] 55 (0, 0)) BK226.out) : gb226 ≠ gb237)); have n16_ := Aside0.mk ((by rw [hg]; exact Nat.ne_of_gt (blk_lt (g := gb226) (o := .cells #[.slice Ao124 x227000_2.length co124, .int .i64 ji23, .int .i64 x227002_2] 55 (0, 0)) BK226.out) : gb237 ≠ gb226)); have n17_ := Aside0.mk ((by rw [hg]; exact Nat.ne_of_lt (blk_lt (g := gb227) (o := .cells #[u228000, .int .i64 x228001_2, .int .i64 x228002_2, .bool false] 69 (0, 0)) BK227.out) : gb227 ≠ gb237)); have n18_ := Aside0.mk ((by rw [hg]; exact Nat.ne_of_gt (blk_lt (g := gb227) (o := .cells #[u228000, .int .i64 x228001_2, .int .i64 x228002_2, .bool false] 69 (0, 0)) BK227.out) : gb237 ≠ gb227)); have n19_ := Aside0.mk ((by rw [hg]; exact Nat.ne_of_lt (blk_lt (g := gb236) (o := .cells #[.int .i64 0, .int .i64 0] 54 (0, 0)) BK236.out) : gb236 ≠ gb237)); have n20_ := Aside0.mk ((by rw [hg]; exact Nat.ne_of_gt (blk_lt (g := gb236) (o := .cells #[.int .i64 0, .int .i64 0] 54 (0, 0)) BK236.out) : gb237 ≠ gb236)); clear HO_0; clear HO_14; clear HO_227000; clear HO_228000; clear HO232; clear BK221; clear BK226; clear BK227; clear BK236; clear HB; have HO_0 := n0_; have HO_14 := n1_; have HO_227000 := n2_; have HO_228000 := n3_; have HO232 := n4_; have BK221 := n5_; have BK226 := n6_; have BK227 := n7_; have BK236 := n8_; have HB := n9_; have BK237 := n10_; have GW237 := n11_; have GE237 := n12_; have NB221_237 := n13_; have NB237_221 := n14_; have NB226_237 := n15_; have NB237_226 := n16_; have NB227_237 := n17_; have NB237_227 := n18_; have NB236_237 := n19_; have NB237_236 := n20_; clear n0_ n1_ n2_ n3_ n4_ n5_ n6_ n7_ n8_ n9_ n10_ n11_ n12_ n13_ n14_ n15_ n16_ n17_ n18_ n19_ n20_; clear hb hbox hg; have hnb128 := NB236_221.out; have hnc128 := NB221_236.out; have hnb129 := NB236_226.out; have hnc129 := NB226_236.out; have hnb130 := NB236_227.out; have hnc130 := NB227_236.out; have hnb131 := NB236_237.out; have hnc131 := NB237_236.out; have hcz132_0 : w127.cell? ⟨gb236, 0, none⟩ = some (.int .i64 0) := (blk_cell BK236.out 0).trans rfl; have hcz132_1 : w127.cell? ⟨gb236, 1, none⟩ = some (.int .i64 0) := (blk_cell BK236.out 1).trans rfl; have hfz132_0 := blk_frozen BK236.out 0; have hfz132_1 := blk_frozen BK236.out 1; obtain ⟨Ao133, co133, eo133⟩ := Kd.R_slice HO232.out; subst eo133; have hnb134 := NB237_221.out; have hnc134 := NB221_237.out; have hnb135 := NB237_226.out; have hnc135 := NB226_237.out; have hnb136 := NB237_227.out; have hnc136 := NB227_237.out; have hcz137_0 : w127.cell? ⟨gb237, 0, none⟩ = some (.slice none 0 0) := (blk_cell BK237.out 0).trans rfl; have hcz137_1 : w127.cell? ⟨gb237, 1, none⟩ = some (.int .i64 0) := (blk_cell BK237.out 1).trans rfl; have hcz137_2 : w127.cell? ⟨gb237, 2, none⟩ = some (.int .i64 0) := (blk_cell BK237.out 2).trans rfl; have hfz137_0 := blk_frozen BK237.out 0; have hfz137_1 := blk_frozen BK237.out 1; have hfz137_2 := blk_frozen BK237.out 2; have hcz138_0 : w127.cell? ⟨gb226, 0, none⟩ = some (.slice Ao124 x227000_2.length co124) := (blk_cell BK226.out 0).trans rfl; have hcz138_1 : w127.cell? ⟨gb226, 1, none⟩ = some (.int .i64 ji23) := (blk_cell BK226.out 1).trans rfl; have hcz138_2 : w127.cell? ⟨gb226, 2, none⟩ = some (.int .i64 x227002_2) := (blk_cell BK226.out 2).trans rfl; have hfz138_0 := blk_frozen BK226.out 0; have hfz138_1 := blk_frozen BK226.out 1; have hfz138_2 := blk_frozen BK226.out 2; have hcz139_0 : w127.cell? ⟨gb227, 0, none⟩ = some (u228000) := (blk_cell BK227.out 0).trans rfl; have hcz139_1 : w127.cell? ⟨gb227, 1, none⟩ = some (.int .i64 x228001_2) := (blk_cell BK227.out 1).trans rfl; have hcz139_2 : w127.cell? ⟨gb227, 2, none⟩ = some (.int .i64 x228002_2) := (blk_cell BK227.out 2).trans rfl; have hcz139_3 : w127.cell? ⟨gb227, 3, none⟩ = some (.bool false) := (blk_cell BK227.out 3).trans rfl; have hfz139_0 := blk_frozen BK227.out 0; have hfz139_1 := blk_frozen BK227.out 1; have hfz139_2 := blk_frozen BK227.out 2; have hfz139_3 := blk_frozen BK227.out 3; obtain ⟨Ao140, co140, eo140⟩ := Kd.R_slice HO_228000.out; subst eo140; have hcz141_0 : w127.cell? ⟨gb221, 0, none⟩ = some (.slice none 0 0) := (blk_cell BK221.out 0).trans rfl; have hcz141_1 : w127.cell? ⟨gb221, 1, none⟩ = some (.int .i64 0) := (blk_cell BK221.out 1).trans rfl; have hcz141_2 : w127.cell? ⟨gb221, 2, none⟩ = some (.int .i64 0) := (blk_cell BK221.out 2).trans rfl; have hcz141_3 : w127.cell? ⟨gb221, 3, none⟩ = some (.bool false) := (blk_cell BK221.out 3).trans rfl; have hfz141_0 := blk_frozen BK221.out 0; have hfz141_1 := blk_frozen BK221.out 1; have hfz141_2 := blk_frozen BK221.out 2; have hfz141_3 := blk_frozen BK221.out 3))
                refine bodyPost_ret (results_ct rfl _ _ gb221 69 #[.slice Ao140 x228000_2.length co140, .int .i64 x228001_2, .int .i64 x228002_2, .bool ((ji118) == (l0.length : Int))] (0, 0) _ rfl (by refine blk_put (cs := #[.slice Ao140 x228000_2.length co140, .int .i64 x228001_2, .int .i64 x228002_2, .bool false]) ?_ 3 _ rfl; refine blk_put (cs := #[.slice Ao140 x228000_2.length co140, .int .i64 x228001_2, .int .i64 0, .bool false]) ?_ 2 _ rfl; refine blk_put (cs := #[.slice Ao140 x228000_2.length co140, .int .i64 0, .int .i64 0, .bool false]) ?_ 1 _ rfl; refine blk_put (cs := #[.slice none 0 0, .int .i64 0, .int .i64 0, .bool false]) ?_ 0 _ rfl; refine blk_far ?_ NB221_227.out _; refine blk_far ?_ NB221_237.out _; refine blk_far ?_ NB221_237.out _; refine blk_far ?_ NB221_237.out _; refine blk_far ?_ NB221_236.out _; refine blk_far ?_ NB221_236.out _; exact BK221.out) Try.underlying69 rfl (by kernel_rfl)) rfl ?_
                exact ⟨_, by first | rfl | (simp [errW_none, errW_some] <;> rfl) | (simp only [← hji23, ← hji118]; first | rfl | (simp [errW_none, errW_some] <;> rfl)) | (simp [*, errW_none, errW_some] <;> rfl), by exact Kd.R_mono (Kd.R_far (p := ⟨gb221, 3, none⟩) (Kd.R_far (p := ⟨gb221, 2, none⟩) (Kd.R_far (p := ⟨gb221, 1, none⟩) (Kd.R_far (p := ⟨gb221, 0, none⟩) (Kd.R_far (p := ⟨gb227, 3, none⟩) (Kd.R_far (p := ⟨gb237, 2, none⟩) (Kd.R_far (p := ⟨gb237, 1, none⟩) (Kd.R_far (p := ⟨gb237, 0, none⟩) (Kd.R_far (p := ⟨gb236, 1, none⟩) (Kd.R_far (p := ⟨gb236, 0, none⟩) (Kd.R_types (Kd.R_types (Kd.R_types (Kd.R_types HO_228000.out BK236.out (by decide)) BK237.out (by decide)) BK227.out (by decide)) BK221.out (by decide)) (fun _ hk => hk.1.1.1.2) (.int .i64 t228)) (fun _ hk => hk.1.1.1.2) (.int .i64 t229)) (fun _ hk => hk.1.1.2) (.slice Ao133 t230.length co133)) (fun _ hk => hk.1.1.2) (.int .i64 t233)) (fun _ hk => hk.1.1.2) (.int .i64 t234)) (fun _ hk => hk.1.2) (.bool ((ji118) == (l0.length : Int)))) (fun _ hk => hk.2) (.slice Ao140 x228000_2.length co140)) (fun _ hk => hk.2) (.int .i64 x228001_2)) (fun _ hk => hk.2) (.int .i64 x228002_2)) (fun _ hk => hk.2) (.bool ((ji118) == (l0.length : Int)))) (fun _ hk => hk.1.1.1.1.1), by repeat (first | (with_reducible first | exact HB.out | apply below_alloc | apply pw_below_drewN | apply below_drew1 | refine below_set ?_ GE221.out | refine below_set ?_ GE226.out | refine below_set ?_ GE227.out | refine below_set ?_ GE236.out | refine below_set ?_ GE237.out) | exact HB.out)⟩
            · rw [if_neg c22] at H
              have c22b0 : decide (x228002_2 < a4) = false := decide_eq_false c22
              clear c22
              obtain ⟨ji142, hji142⟩ : ∃ j_ : Int, (mx x227001_2 x15_2) = j_ := ⟨_, rfl⟩
              replace H : (some (x228000_2, x228001_2, x228002_2, ((ji142) == (l0.length : Int)), true)) = some (r1, r2, r3, r4, r5) := by first | (rw [hji142] at H; exact H) | (simp only [hji142] at H ⊢; exact H)
              have hji142_ : (if x227001_2 < x15_2 then x15_2 else x227001_2) = ji142 := hji142
              simp only [Option.some.injEq, Prod.mk.injEq] at H
              obtain ⟨rfl, rfl, rfl, rfl, rfl⟩ := H
              have hnb143 := NB227_221.out
              have hnc143 := NB221_227.out
              have hnb144 := NB227_226.out
              have hnc144 := NB226_227.out
              have hcz145_0 : wr.cell? ⟨gb227, 0, none⟩ = some (u228000) := (blk_cell BK227.out 0).trans rfl
              have hcz145_1 : wr.cell? ⟨gb227, 1, none⟩ = some (.int .i64 x228001_2) := (blk_cell BK227.out 1).trans rfl
              have hcz145_2 : wr.cell? ⟨gb227, 2, none⟩ = some (.int .i64 x228002_2) := (blk_cell BK227.out 2).trans rfl
              have hcz145_3 : wr.cell? ⟨gb227, 3, none⟩ = some (.bool false) := (blk_cell BK227.out 3).trans rfl
              have hfz145_0 := blk_frozen BK227.out 0
              have hfz145_1 := blk_frozen BK227.out 1
              have hfz145_2 := blk_frozen BK227.out 2
              have hfz145_3 := blk_frozen BK227.out 3
              have hnb146 := NB226_221.out
              have hnc146 := NB221_226.out
              have hcz147_0 : wr.cell? ⟨gb226, 0, none⟩ = some (u227000) := (blk_cell BK226.out 0).trans rfl
              have hcz147_1 : wr.cell? ⟨gb226, 1, none⟩ = some (.int .i64 x227001_2) := (blk_cell BK226.out 1).trans rfl
              have hcz147_2 : wr.cell? ⟨gb226, 2, none⟩ = some (.int .i64 x227002_2) := (blk_cell BK226.out 2).trans rfl
              have hfz147_0 := blk_frozen BK226.out 0
              have hfz147_1 := blk_frozen BK226.out 1
              have hfz147_2 := blk_frozen BK226.out 2
              obtain ⟨Ao148, co148, eo148⟩ := Kd.R_slice HO_228000.out
              subst eo148
              have hcz149_0 : wr.cell? ⟨gb221, 0, none⟩ = some (.slice none 0 0) := (blk_cell BK221.out 0).trans rfl
              have hcz149_1 : wr.cell? ⟨gb221, 1, none⟩ = some (.int .i64 0) := (blk_cell BK221.out 1).trans rfl
              have hcz149_2 : wr.cell? ⟨gb221, 2, none⟩ = some (.int .i64 0) := (blk_cell BK221.out 2).trans rfl
              have hcz149_3 : wr.cell? ⟨gb221, 3, none⟩ = some (.bool false) := (blk_cell BK221.out 3).trans rfl
              have hfz149_0 := blk_frozen BK221.out 0
              have hfz149_1 := blk_frozen BK221.out 1
              have hfz149_2 := blk_frozen BK221.out 2
              have hfz149_3 := blk_frozen BK221.out 3
              go_wp2
              refine bodyPost_ret (results_ct rfl _ _ gb221 69 #[.slice Ao148 x228000_2.length co148, .int .i64 x228001_2, .int .i64 x228002_2, .bool ((ji142) == (l0.length : Int))] (0, 0) _ rfl (by refine blk_put (cs := #[.slice Ao148 x228000_2.length co148, .int .i64 x228001_2, .int .i64 x228002_2, .bool false]) ?_ 3 _ rfl; refine blk_put (cs := #[.slice Ao148 x228000_2.length co148, .int .i64 x228001_2, .int .i64 0, .bool false]) ?_ 2 _ rfl; refine blk_put (cs := #[.slice Ao148 x228000_2.length co148, .int .i64 0, .int .i64 0, .bool false]) ?_ 1 _ rfl; refine blk_put (cs := #[.slice none 0 0, .int .i64 0, .int .i64 0, .bool false]) ?_ 0 _ rfl; refine blk_far ?_ NB221_227.out _; exact BK221.out) Try.underlying69 rfl (by kernel_rfl)) rfl ?_
              exact ⟨_, by first | rfl | (simp [errW_none, errW_some] <;> rfl) | (simp only [← hji142]; first | rfl | (simp [errW_none, errW_some] <;> rfl)) | (simp [*, errW_none, errW_some] <;> rfl), by exact Kd.R_mono (Kd.R_far (p := ⟨gb221, 3, none⟩) (Kd.R_far (p := ⟨gb221, 2, none⟩) (Kd.R_far (p := ⟨gb221, 1, none⟩) (Kd.R_far (p := ⟨gb221, 0, none⟩) (Kd.R_far (p := ⟨gb227, 3, none⟩) (Kd.R_types (Kd.R_types HO_228000.out BK227.out (by decide)) BK221.out (by decide)) (fun _ hk => hk.1.2) (.bool ((ji142) == (l0.length : Int)))) (fun _ hk => hk.2) (.slice Ao148 x228000_2.length co148)) (fun _ hk => hk.2) (.int .i64 x228001_2)) (fun _ hk => hk.2) (.int .i64 x228002_2)) (fun _ hk => hk.2) (.bool ((ji142) == (l0.length : Int)))) (fun _ hk => hk.1.1), by repeat (first | (with_reducible first | exact HB.out | apply below_alloc | apply pw_below_drewN | apply below_drew1 | refine below_set ?_ GE221.out | refine below_set ?_ GE226.out | refine below_set ?_ GE227.out) | exact HB.out)⟩

end Go.Proofs.Ytmlejakajcmbdaa.PFnExactTalkAll
