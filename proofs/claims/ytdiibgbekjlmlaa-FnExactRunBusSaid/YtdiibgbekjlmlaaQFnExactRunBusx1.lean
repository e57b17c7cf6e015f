-- Written by this session's own program for the law FnExactRunBus; it began as the print's text.
import Derived.Test.YtdiibgbekjlmlaaQFnExactRunBusx0
namespace Go.Proofs.Ytdiibgbekjlmlaa.PFnExactRunBus
open Go.RowKit Go.Proofs.YtdiibgbekjlmlaaW.PrintWords Go.Proofs.YtdiibgbekjlmlaaW.PrintLast Go.Proofs.YtdiibgbekjlmlaaW.PrintMore
open Go.Proofs.YtdiibgbekjlmlaaW.PrintWords renaming below_alloc → zA, pw_below_drewN → zN, below_drew1 → zD, below_set → zS, below_size → zZ, below_step → zP, blk_below → zB, blk_put → zU
open Go.Proofs.YtdiibgbekjlmlaaW.PrintWords.Aside0 renaming mk → aM
open Go.Proofs.YtdiibgbekjlmlaaW.PrintWords.Kd renaming C_alloc → cA, C_drewN → cN, C_drew → cD
attribute [local go_sem] max2_int min2_int max_two min_two max_three min_three max_four min_four   -- for this text's walks alone
set_option linter.unusedVariables false
set_option linter.unusedSimpArgs false

theorem of_ite_none1 {α : Type} {c : Prop} [Decidable c] {x : Option α} {r : α} (h : (if c then x else none) = some r) : c ∧ x = some r := by
 by_cases hc : c
 · exact ⟨hc, by rw [if_pos hc] at h; exact h⟩
 · rw [if_neg hc] at h; exact absurd h (by simp)

/-! ### laws_szByteS: function 43 -/
def laws_szByteS.f (l0 : List Int) (a1 : Int) : Option (Int) := if (wrap64 (a1 - (l0.length : Int))) < 0 then (some (-1)) else (some (wrap64 (a1 - (l0.length : Int))))
set_option maxHeartbeats 8000000 in
set_option maxRecDepth 100000 in
theorem laws_szByteS.calls (A0 : Option Addr) (c0 : Nat) (l0 : List Int) (a1 : Int) (r : Int) (w : World) (hr0 : Kd.C (Kd.int .u8) w A0 l0.length l0) (hc0 : l0.length ≤ c0) (h : laws_szByteS.f l0 a1 = some r) :
 Calls Try.prog 43 #[.slice A0 l0.length c0, .int .i64 a1] w fun e w' => e = .returned (.int .i64 r) ∧ Drawn0 w w' := by
 have HR0 := aM hr0
 have HC0 := aM hc0
 clear hr0 hc0
 have H : (if (wrap64 (a1 - (l0.length : Int))) < 0 then (some (-1)) else (some (wrap64 (a1 - (l0.length : Int))))) = some r := h
 clear h
 by_cases c3 : (wrap64 (a1 - (l0.length : Int))) < 0
 · rw [if_pos c3] at H
   (have c3b0 := decide_eq_true c3); clear c3; (obtain rfl := Option.some.inj H)
   go_enter Try.func43, Try.ntmps43
   go_wp2
   go_ret
   exact ⟨by first | rfl | (simp; done) | (simp [*]; done), by repeat (first | exact Drawn0.refl _ | apply Drawn0.step)⟩
 · rw [if_neg c3] at H
   (have c3b0 := decide_eq_false c3); clear c3; (obtain rfl := Option.some.inj H)
   go_enter Try.func43, Try.ntmps43
   go_wp2
   go_ret
   exact ⟨by first | rfl | (simp; done) | (simp [*]; done), by repeat (first | exact Drawn0.refl _ | apply Drawn0.step)⟩

/-! ### laws_szFrame: function 40 -/
def laws_szFrame.f (a0_0 : Int) (l0_1 : List Int) (a1 : Int) : Option (Int) := (laws_szByteS.f l0_1 a1).bind fun t102 => (if t102 < 0 then (some (-1)) else (some t102))
set_option maxHeartbeats 8000000 in
set_option maxRecDepth 100000 in
theorem laws_szFrame.calls (a0_0 : Int) (A0_1 : Option Addr) (c0_1 : Nat) (l0_1 : List Int) (a1 : Int) (r : Int) (w : World) (hr0_1 : Kd.C (Kd.int .u8) w A0_1 l0_1.length l0_1) (hc0_1 : l0_1.length ≤ c0_1) (h : laws_szFrame.f a0_0 l0_1 a1 = some r) :
 Calls Try.prog 40 #[.agg #[.int .i64 a0_0, .slice A0_1 l0_1.length c0_1], .int .i64 a1] w fun e w' => e = .returned (.int .i64 r) ∧ Below w.heap.size w w' := by
 have hu69 := Try.underlying69
 have HR0_1 := aM hr0_1
 have HC0_1 := aM hc0_1
 clear hr0_1 hc0_1
 have HB := aM (Below.refl w.heap.size w)
 have H : ((laws_szByteS.f l0_1 a1).bind fun t102 => (if t102 < 0 then (some (-1)) else (some t102))) = some r := h
 clear h
 replace H := Option.bind_eq_some_iff.mp H
 obtain ⟨t102, A30, H⟩ := H
 replace H : (if t102 < 0 then (some (-1)) else (some t102)) = some r := H
 have A3 := aM A30
 clear A30
 by_cases c4 : t102 < 0
 · rw [if_pos c4] at H
   (have c4b0 := decide_eq_true c4); clear c4; (obtain rfl := Option.some.inj H)
   go_enter Try.func40, Try.ntmps40
   go_wp2_with (first | ((with_reducible refine gate_dst (N := 2) rfl ?_); refine box_event ?hg (N := 2) ?hd (cs := #[.int .i64 a0_0, .slice A0_1 l0_1.length c0_1]) (t := 69) ?hr ?_; (case hd => rfl); (case hg => rfl); (case hr => first | (go_simp; done) | (go_simp; rfl)); intro gb101 hg w5 hbox hb; have n0_ := aM (zP (by repeat (with_reducible first | exact HB.out | apply zA | apply zN | apply zD)) hb); have n1_ := aM (hbox); have n2_ := aM ((by rw [hg]; exact (zZ (by repeat (with_reducible first | exact HB.out | apply zA | apply zN | apply zD))) : w.heap.size ≤ gb101)); have n3_ := n2_; clear HB; have HB := n0_; have BK101 := n1_; have GW101 := n2_; have GE101 := n3_; clear n0_ n1_ n2_ n3_; clear hb hbox hg; obtain ⟨a6_0, a6_1, b6_0, b6_1⟩ := cz2 BK101.out) | ((with_reducible refine gate_callee (f := 43) rfl ?_); refine goesL_ (some 8) rfl rfl Try.func43 (by kernel_rfl) rfl #[.slice A0_1 l0_1.length c0_1, .int .i64 a1] rfl (by simp only [List.map_toArray, List.map_cons, List.map_nil]; rfl) ?_; (with_reducible refine (laws_szByteS.calls _ _ l0_1 a1 t102 _ ?side1 ?side2 A3.out).mono ?_); (case side1 => repeat (first | exact (Kd.C_below HR0_1.out HB.out) | (with_reducible first | refine cA ?_ _ | refine cN ?_ _ | refine cD ?_))); (case side2 => exact HC0_1.out); rintro e w' ⟨rfl, ⟨nd, rfl⟩⟩; refine ⟨_, rfl, ?_⟩))
   go_ret
   exact ⟨by first | rfl | (simp [errW_none, errW_some] <;> rfl) | (simp [*, errW_none, errW_some] <;> rfl), by repeat (with_reducible first | exact HB.out | apply zA | apply zN | apply zD | refine zS ?_ GE101.out)⟩
 · rw [if_neg c4] at H
   (have c4b0 := decide_eq_false c4); clear c4; (obtain rfl := Option.some.inj H)
   go_enter Try.func40, Try.ntmps40
   go_wp2_with (first | ((with_reducible refine gate_dst (N := 2) rfl ?_); refine box_event ?hg (N := 2) ?hd (cs := #[.int .i64 a0_0, .slice A0_1 l0_1.length c0_1]) (t := 69) ?hr ?_; (case hd => rfl); (case hg => rfl); (case hr => first | (go_simp; done) | (go_simp; rfl)); intro gb101 hg w7 hbox hb; have n0_ := aM (zP (by repeat (with_reducible first | exact HB.out | apply zA | apply zN | apply zD)) hb); have n1_ := aM (hbox); have n2_ := aM ((by rw [hg]; exact (zZ (by repeat (with_reducible first | exact HB.out | apply zA | apply zN | apply zD))) : w.heap.size ≤ gb101)); have n3_ := n2_; clear HB; have HB := n0_; have BK101 := n1_; have GW101 := n2_; have GE101 := n3_; clear n0_ n1_ n2_ n3_; clear hb hbox hg; obtain ⟨a8_0, a8_1, b8_0, b8_1⟩ := cz2 BK101.out) | ((with_reducible refine gate_callee (f := 43) rfl ?_); refine goesL_ (some 8) rfl rfl Try.func43 (by kernel_rfl) rfl #[.slice A0_1 l0_1.length c0_1, .int .i64 a1] rfl (by simp only [List.map_toArray, List.map_cons, List.map_nil]; rfl) ?_; (with_reducible refine (laws_szByteS.calls _ _ l0_1 a1 t102 _ ?side1 ?side2 A3.out).mono ?_); (case side1 => repeat (first | exact (Kd.C_below HR0_1.out HB.out) | (with_reducible first | refine cA ?_ _ | refine cN ?_ _ | refine cD ?_))); (case side2 => exact HC0_1.out); rintro e w' ⟨rfl, ⟨nd, rfl⟩⟩; refine ⟨_, rfl, ?_⟩))
   go_ret
   exact ⟨by first | rfl | (simp [errW_none, errW_some] <;> rfl) | (simp [*, errW_none, errW_some] <;> rfl), by repeat (with_reducible first | exact HB.out | apply zA | apply zN | apply zD | refine zS ?_ GE101.out)⟩

/-! ### laws_szFrameS: function 32 -/
def laws_szFrameS.l0 : Nat → List (S69) → Int → Int → Option (Int)
 | 0, _, _, _ => none
 | k + 1, x0, x1, x5 => if x5 < (x0.length : Int) then (if 0 ≤ x5 then ((laws_szFrame.f ((rd_T69 x0 x5).f0) ((rd_T69 x0 x5).f1) x1).bind fun t104 => (if t104 < 0 then (some (-1)) else (laws_szFrameS.l0 k x0 t104 (wrap64 (x5 + 1))))) else (none)) else (some x1)
def laws_szFrameS.f (k : Nat) (l0 : List (S69)) (a1 : Int) : Option (Int) := if (wrap64 (a1 - (l0.length : Int))) < 0 then (some (-1)) else (laws_szFrameS.l0 k l0 (wrap64 (a1 - (l0.length : Int))) 0)
set_option maxHeartbeats 8000000 in
set_option maxRecDepth 100000 in
theorem laws_szFrameS.calls (k : Nat) (A0 : Option Addr) (c0 : Nat) (l0 : List (S69)) (a1 : Int) (r : Int) (w : World) (hr0 : Kd.C k69 w A0 l0.length l0) (hc0 : l0.length ≤ c0) (h : laws_szFrameS.f k l0 a1 = some r) :
 Calls Try.prog 32 #[.slice A0 l0.length c0, .int .i64 a1] w fun e w' => e = .returned (.int .i64 r) ∧ Below w.heap.size w w' := by
 have hu69 := Try.underlying69
 have HR0 := aM hr0
 have HC0 := aM hc0
 clear hr0 hc0
 have HB := aM (Below.refl w.heap.size w)
 have H : (if (wrap64 (a1 - (l0.length : Int))) < 0 then (some (-1)) else (laws_szFrameS.l0 k l0 (wrap64 (a1 - (l0.length : Int))) 0)) = some r := h
 clear h
 by_cases c3 : (wrap64 (a1 - (l0.length : Int))) < 0
 · rw [if_pos c3] at H
   (have c3b0 := decide_eq_true c3); clear c3; (obtain rfl := Option.some.inj H)
   go_enter Try.func32, Try.ntmps32
   go_wp2
   go_ret
   exact ⟨by first | rfl | (simp [errW_none, errW_some] <;> rfl) | (simp [*, errW_none, errW_some] <;> rfl), by repeat (with_reducible first | exact HB.out | apply zA | apply zN | apply zD)⟩
 · rw [if_neg c3] at H
   (have c3b0 := decide_eq_false c3); clear c3; (have H' := aM H); clear H
   go_enter Try.func32, Try.ntmps32
   go_wp2
   go_loopg [1, 5] k (fun kq v1 v5 w' => ∃ (x1_1 : Int) (x5_1 : Int), v1 = .int .i64 x1_1 ∧ v5 = .int .i64 x5_1 ∧ Aside0 (laws_szFrameS.l0 kq l0 x1_1 x5_1 = some r) ∧ Aside0 (kq ≤ k) ∧ Aside0 (Below w.heap.size w w'))
   case atStart => exact ⟨(wrap64 (a1 - (l0.length : Int))), (0), (by first | rfl | simp | simp [*]), (by first | rfl | simp | simp [*]), H', ⟨Nat.le_refl _⟩, ⟨by repeat (with_reducible first | exact HB.out | apply zA | apply zN | apply zD)⟩⟩
   case round =>
    clear H'; (obtain ⟨x1_1, x5_1, rfl, rfl, HA, HK1, HB⟩ := hrel)
    cases gk with
    | zero => exact absurd HA.out (by simp [laws_szFrameS.l0])
    | succ k1 =>
     have H := HA.out; clear HA; (simp only [laws_szFrameS.l0] at H)
     by_cases c4 : x5_1 < (l0.length : Int)
     · rw [if_pos c4] at H
       (have c4b0 := decide_eq_true c4); clear c4; (obtain ⟨c5, H⟩ := of_ite_none1 H); (have c5b0 := decide_eq_true c5); clear c5; (replace H := Option.bind_eq_some_iff.mp H); (obtain ⟨t104, A60, H⟩ := H); (replace H : (if t104 < 0 then (some (-1)) else (laws_szFrameS.l0 k1 l0 t104 (wrap64 (x5_1 + 1)))) = some r := H); (have A6 := aM A60); clear A60
       by_cases c7 : t104 < 0
       · rw [if_pos c7] at H
         (have c7b0 := decide_eq_true c7); clear c7; (obtain rfl := Option.some.inj H); (have p103 : 0 ≤ (x5_1 : Int) := od (by assumption)); (have q103 : x5_1 < (l0.length : Int) := od (by assumption)); (obtain ⟨ad103, A103_1, c103_1, e103, hx103_0, hx103_1, hl103_1, hi103_1⟩ := at_T69 HR0.out x5_1 p103 q103)
         cases e103
         (first | replace hx103_0 := (HB.out.cell (World.block_lt_of_cell? w _ hx103_0)).trans hx103_0 | skip)
         (first | replace hx103_1 := (HB.out.cell (World.block_lt_of_cell? w _ hx103_1)).trans hx103_1 | skip)
         (have HR103_1 := aM hi103_1); (have HC103_1 := aM hl103_1); clear hi103_1 hl103_1; (replace p103 := eq_true p103); (replace q103 := eq_true q103)
         go_wp2_with (first | ((with_reducible refine gate_callee (f := 40) rfl ?_); refine goesL_ (some 23) rfl rfl Try.func40 (by kernel_rfl) rfl #[.agg #[.int .i64 ((rd_T69 l0 x5_1).f0), .slice A103_1 ((rd_T69 l0 x5_1).f1).length c103_1], .int .i64 x1_1] rfl (by simp only [List.map_toArray, List.map_cons, List.map_nil]; rfl) ?_; (with_reducible refine (laws_szFrame.calls ((rd_T69 l0 x5_1).f0) _ _ ((rd_T69 l0 x5_1).f1) x1_1 t104 _ ?side1 ?side2 A6.out).mono ?_); (case side1 => repeat (first | exact (Kd.C_below HR103_1.out HB.out) | (with_reducible first | refine cA ?_ _ | refine cN ?_ _ | refine cD ?_))); (case side2 => exact HC103_1.out); rintro e w8 ⟨rfl, hb⟩; refine ⟨_, rfl, ?_⟩; have n0_ := aM (zP (by repeat (with_reducible first | exact HB.out | apply zA | apply zN | apply zD)) hb); clear HB; have HB := n0_; clear n0_; ))
         go_ret
         exact ⟨by first | rfl | (simp [errW_none, errW_some] <;> rfl) | (simp [*, errW_none, errW_some] <;> rfl), by repeat (with_reducible first | exact HB.out | apply zA | apply zN | apply zD)⟩
       · rw [if_neg c7] at H
         (have c7b0 := decide_eq_false c7); clear c7; (have H' := aM H); clear H; (have p103 : 0 ≤ (x5_1 : Int) := od (by assumption)); (have q103 : x5_1 < (l0.length : Int) := od (by assumption)); (obtain ⟨ad103, A103_1, c103_1, e103, hx103_0, hx103_1, hl103_1, hi103_1⟩ := at_T69 HR0.out x5_1 p103 q103)
         cases e103
         (first | replace hx103_0 := (HB.out.cell (World.block_lt_of_cell? w _ hx103_0)).trans hx103_0 | skip)
         (first | replace hx103_1 := (HB.out.cell (World.block_lt_of_cell? w _ hx103_1)).trans hx103_1 | skip)
         (have HR103_1 := aM hi103_1); (have HC103_1 := aM hl103_1); clear hi103_1 hl103_1; (replace p103 := eq_true p103); (replace q103 := eq_true q103)
         go_wp2_with (first | ((with_reducible refine gate_callee (f := 40) rfl ?_); refine goesL_ (some 23) rfl rfl Try.func40 (by kernel_rfl) rfl #[.agg #[.int .i64 ((rd_T69 l0 x5_1).f0), .slice A103_1 ((rd_T69 l0 x5_1).f1).length c103_1], .int .i64 x1_1] rfl (by simp only [List.map_toArray, List.map_cons, List.map_nil]; rfl) ?_; (with_reducible refine (laws_szFrame.calls ((rd_T69 l0 x5_1).f0) _ _ ((rd_T69 l0 x5_1).f1) x1_1 t104 _ ?side1 ?side2 A6.out).mono ?_); (case side1 => repeat (first | exact (Kd.C_below HR103_1.out HB.out) | (with_reducible first | refine cA ?_ _ | refine cN ?_ _ | refine cD ?_))); (case side2 => exact HC103_1.out); rintro e w9 ⟨rfl, hb⟩; refine ⟨_, rfl, ?_⟩; have n0_ := aM (zP (by repeat (with_reducible first | exact HB.out | apply zA | apply zN | apply zD)) hb); clear HB; have HB := n0_; clear n0_; ))
         go_roundg k1
         case measure => have := HK1.out; omega
         case rel => exact ⟨(t104), (wrap64 (x5_1 + 1)), (by first | rfl | simp | simp [*]), (by first | rfl | simp | simp [*]), H', ⟨by have := HK1.out; omega⟩, ⟨by repeat (with_reducible first | exact HB.out | apply zA | apply zN | apply zD)⟩⟩
     · rw [if_neg c4] at H
       (have c4b0 := decide_eq_false c4); clear c4; (obtain rfl := Option.some.inj H)
       go_wp2
       go_ret
       exact ⟨by first | rfl | (simp [errW_none, errW_some] <;> rfl) | (simp [*, errW_none, errW_some] <;> rfl), by repeat (with_reducible first | exact HB.out | apply zA | apply zN | apply zD)⟩

/-! ### laws_szTalker: function 17 -/
def laws_szTalker.f (k : Nat) (l0_0 : List (S69)) (a0_1 : Int) (a0_2 : Int) (a0_3 : Bool) (a1 : Int) : Option (Int) := (laws_szFrameS.f k l0_0 a1).bind fun t106 => (if t106 < 0 then (some (-1)) else (some t106))
set_option maxHeartbeats 8000000 in
set_option maxRecDepth 100000 in
theorem laws_szTalker.calls (k : Nat) (A0_0 : Option Addr) (c0_0 : Nat) (l0_0 : List (S69)) (a0_1 : Int) (a0_2 : Int) (a0_3 : Bool) (a1 : Int) (r : Int) (w : World) (hr0_0 : Kd.C k69 w A0_0 l0_0.length l0_0) (hc0_0 : l0_0.length ≤ c0_0) (h : laws_szTalker.f k l0_0 a0_1 a0_2 a0_3 a1 = some r) :
 Calls Try.prog 17 #[.agg #[.slice A0_0 l0_0.length c0_0, .int .i64 a0_1, .int .i64 a0_2, .bool a0_3], .int .i64 a1] w fun e w' => e = .returned (.int .i64 r) ∧ Below w.heap.size w w' := by
 have hu41 := Try.underlying41
 have HR0_0 := aM hr0_0
 have HC0_0 := aM hc0_0
 clear hr0_0 hc0_0
 have HB := aM (Below.refl w.heap.size w)
 have H : ((laws_szFrameS.f k l0_0 a1).bind fun t106 => (if t106 < 0 then (some (-1)) else (some t106))) = some r := h
 clear h
 replace H := Option.bind_eq_some_iff.mp H
 obtain ⟨t106, A30, H⟩ := H
 replace H : (if t106 < 0 then (some (-1)) else (some t106)) = some r := H
 have A3 := aM A30
 clear A30
 by_cases c4 : t106 < 0
 · rw [if_pos c4] at H
   (have c4b0 := decide_eq_true c4); clear c4; (obtain rfl := Option.some.inj H)
   go_enter Try.func17, Try.ntmps17
   go_wp2_with (first | ((with_reducible refine gate_dst (N := 2) rfl ?_); refine box_event ?hg (N := 2) ?hd (cs := #[.slice A0_0 l0_0.length c0_0, .int .i64 a0_1, .int .i64 a0_2, .bool a0_3]) (t := 41) ?hr ?_; (case hd => rfl); (case hg => rfl); (case hr => first | (go_simp; done) | (go_simp; rfl)); intro gb105 hg w5 hbox hb; have n0_ := aM (zP (by repeat (with_reducible first | exact HB.out | apply zA | apply zN | apply zD)) hb); have n1_ := aM (hbox); have n2_ := aM ((by rw [hg]; exact (zZ (by repeat (with_reducible first | exact HB.out | apply zA | apply zN | apply zD))) : w.heap.size ≤ gb105)); have n3_ := n2_; clear HB; have HB := n0_; have BK105 := n1_; have GW105 := n2_; have GE105 := n3_; clear n0_ n1_ n2_ n3_; clear hb hbox hg; obtain ⟨a6_0, a6_1, a6_2, a6_3, b6_0, b6_1, b6_2, b6_3⟩ := cz4 BK105.out) | ((with_reducible refine gate_callee (f := 32) rfl ?_); refine goesL_ (some 8) rfl rfl Try.func32 (by kernel_rfl) rfl #[.slice A0_0 l0_0.length c0_0, .int .i64 a1] rfl (by simp only [List.map_toArray, List.map_cons, List.map_nil]; rfl) ?_; (with_reducible refine (laws_szFrameS.calls k _ _ l0_0 a1 t106 _ ?side1 ?side2 A3.out).mono ?_); (case side1 => repeat (first | exact (Kd.C_below HR0_0.out HB.out) | (with_reducible first | refine cA ?_ _ | refine cN ?_ _ | refine cD ?_))); (case side2 => exact HC0_0.out); rintro e w7 ⟨rfl, hb⟩; refine ⟨_, rfl, ?_⟩; have n0_ := aM (zB (g := gb105) (o := .cells #[.slice A0_0 l0_0.length c0_0, .int .i64 a0_1, .int .i64 a0_2, .bool a0_3] 41 (0, 0)) BK105.out hb); have n1_ := aM (zP (by repeat (with_reducible first | exact HB.out | apply zA | apply zN | apply zD | refine zS ?_ GE105.out)) hb); clear BK105; clear HB; have BK105 := n0_; have HB := n1_; clear n0_ n1_; ))
   go_ret
   exact ⟨by first | rfl | (simp [errW_none, errW_some] <;> rfl) | (simp [*, errW_none, errW_some] <;> rfl), by repeat (with_reducible first | exact HB.out | apply zA | apply zN | apply zD | refine zS ?_ GE105.out)⟩
 · rw [if_neg c4] at H
   (have c4b0 := decide_eq_false c4); clear c4; (obtain rfl := Option.some.inj H)
   go_enter Try.func17, Try.ntmps17
   go_wp2_with (first | ((with_reducible refine gate_dst (N := 2) rfl ?_); refine box_event ?hg (N := 2) ?hd (cs := #[.slice A0_0 l0_0.length c0_0, .int .i64 a0_1, .int .i64 a0_2, .bool a0_3]) (t := 41) ?hr ?_; (case hd => rfl); (case hg => rfl); (case hr => first | (go_simp; done) | (go_simp; rfl)); intro gb105 hg w8 hbox hb; have n0_ := aM (zP (by repeat (with_reducible first | exact HB.out | apply zA | apply zN | apply zD)) hb); have n1_ := aM (hbox); have n2_ := aM ((by rw [hg]; exact (zZ (by repeat (with_reducible first | exact HB.out | apply zA | apply zN | apply zD))) : w.heap.size ≤ gb105)); have n3_ := n2_; clear HB; have HB := n0_; have BK105 := n1_; have GW105 := n2_; have GE105 := n3_; clear n0_ n1_ n2_ n3_; clear hb hbox hg; obtain ⟨a9_0, a9_1, a9_2, a9_3, b9_0, b9_1, b9_2, b9_3⟩ := cz4 BK105.out) | ((with_reducible refine gate_callee (f := 32) rfl ?_); refine goesL_ (some 8) rfl rfl Try.func32 (by kernel_rfl) rfl #[.slice A0_0 l0_0.length c0_0, .int .i64 a1] rfl (by simp only [List.map_toArray, List.map_cons, List.map_nil]; rfl) ?_; (with_reducible refine (laws_szFrameS.calls k _ _ l0_0 a1 t106 _ ?side1 ?side2 A3.out).mono ?_); (case side1 => repeat (first | exact (Kd.C_below HR0_0.out HB.out) | (with_reducible first | refine cA ?_ _ | refine cN ?_ _ | refine cD ?_))); (case side2 => exact HC0_0.out); rintro e w10 ⟨rfl, hb⟩; refine ⟨_, rfl, ?_⟩; have n0_ := aM (zB (g := gb105) (o := .cells #[.slice A0_0 l0_0.length c0_0, .int .i64 a0_1, .int .i64 a0_2, .bool a0_3] 41 (0, 0)) BK105.out hb); have n1_ := aM (zP (by repeat (with_reducible first | exact HB.out | apply zA | apply zN | apply zD | refine zS ?_ GE105.out)) hb); clear BK105; clear HB; have BK105 := n0_; have HB := n1_; clear n0_ n1_; ))
   go_ret
   exact ⟨by first | rfl | (simp [errW_none, errW_some] <;> rfl) | (simp [*, errW_none, errW_some] <;> rfl), by repeat (with_reducible first | exact HB.out | apply zA | apply zN | apply zD | refine zS ?_ GE105.out)⟩

/-! ### laws_szTalkerS: function 4 -/
def laws_szTalkerS.l0 : Nat → List (S41) → Int → Int → Option (Int)
 | 0, _, _, _ => none
 | k + 1, x0, x1, x5 => if x5 < (x0.length : Int) then (if 0 ≤ x5 then ((laws_szTalker.f k ((rd_T41 x0 x5).f0) ((rd_T41 x0 x5).f1) ((rd_T41 x0 x5).f2) ((rd_T41 x0 x5).f3) x1).bind fun t108 => (if t108 < 0 then (some (-1)) else (laws_szTalkerS.l0 k x0 t108 (wrap64 (x5 + 1))))) else (none)) else (some x1)
def laws_szTalkerS.f (k : Nat) (l0 : List (S41)) (a1 : Int) : Option (Int) := if (wrap64 (a1 - (l0.length : Int))) < 0 then (some (-1)) else (laws_szTalkerS.l0 k l0 (wrap64 (a1 - (l0.length : Int))) 0)
set_option maxHeartbeats 8000000 in
set_option maxRecDepth 100000 in
theorem laws_szTalkerS.calls (k : Nat) (A0 : Option Addr) (c0 : Nat) (l0 : List (S41)) (a1 : Int) (r : Int) (w : World) (hr0 : Kd.C k41 w A0 l0.length l0) (hc0 : l0.length ≤ c0) (h : laws_szTalkerS.f k l0 a1 = some r) :
 Calls Try.prog 4 #[.slice A0 l0.length c0, .int .i64 a1] w fun e w' => e = .returned (.int .i64 r) ∧ Below w.heap.size w w' := by
 have hu41 := Try.underlying41
 have HR0 := aM hr0
 have HC0 := aM hc0
 clear hr0 hc0
 have HB := aM (Below.refl w.heap.size w)
 have H : (if (wrap64 (a1 - (l0.length : Int))) < 0 then (some (-1)) else (laws_szTalkerS.l0 k l0 (wrap64 (a1 - (l0.length : Int))) 0)) = some r := h
 clear h
 by_cases c3 : (wrap64 (a1 - (l0.length : Int))) < 0
 · rw [if_pos c3] at H
   (have c3b0 := decide_eq_true c3); clear c3; (obtain rfl := Option.some.inj H)
   go_enter Try.func4, Try.ntmps4
   go_wp2
   go_ret
   exact ⟨by first | rfl | (simp [errW_none, errW_some] <;> rfl) | (simp [*, errW_none, errW_some] <;> rfl), by repeat (with_reducible first | exact HB.out | apply zA | apply zN | apply zD)⟩
 · rw [if_neg c3] at H
   (have c3b0 := decide_eq_false c3); clear c3; (have H' := aM H); clear H
   go_enter Try.func4, Try.ntmps4
   go_wp2
   go_loopg [1, 5] k (fun kq v1 v5 w' => ∃ (x1_1 : Int) (x5_1 : Int), v1 = .int .i64 x1_1 ∧ v5 = .int .i64 x5_1 ∧ Aside0 (laws_szTalkerS.l0 kq l0 x1_1 x5_1 = some r) ∧ Aside0 (kq ≤ k) ∧ Aside0 (Below w.heap.size w w'))
   case atStart => exact ⟨(wrap64 (a1 - (l0.length : Int))), (0), (by first | rfl | simp | simp [*]), (by first | rfl | simp | simp [*]), H', ⟨Nat.le_refl _⟩, ⟨by repeat (with_reducible first | exact HB.out | apply zA | apply zN | apply zD)⟩⟩
   case round =>
    clear H'; (obtain ⟨x1_1, x5_1, rfl, rfl, HA, HK1, HB⟩ := hrel)
    cases gk with
    | zero => exact absurd HA.out (by simp [laws_szTalkerS.l0])
    | succ k1 =>
     have H := HA.out; clear HA; (simp only [laws_szTalkerS.l0] at H)
     by_cases c4 : x5_1 < (l0.length : Int)
     · rw [if_pos c4] at H
       (have c4b0 := decide_eq_true c4); clear c4; (obtain ⟨c5, H⟩ := of_ite_none1 H); (have c5b0 := decide_eq_true c5); clear c5; (replace H := Option.bind_eq_some_iff.mp H); (obtain ⟨t108, A60, H⟩ := H); (replace H : (if t108 < 0 then (some (-1)) else (laws_szTalkerS.l0 k1 l0 t108 (wrap64 (x5_1 + 1)))) = some r := H); (have A6 := aM A60); clear A60
       by_cases c7 : t108 < 0
       · rw [if_pos c7] at H
         (have c7b0 := decide_eq_true c7); clear c7; (obtain rfl := Option.some.inj H); (have p107 : 0 ≤ (x5_1 : Int) := od (by assumption)); (have q107 : x5_1 < (l0.length : Int) := od (by assumption)); (obtain ⟨ad107, A107_0, c107_0, e107, hx107_0, hx107_1, hx107_2, hx107_3, hl107_0, hi107_0⟩ := at_T41 HR0.out x5_1 p107 q107)
         cases e107
         (first | replace hx107_0 := (HB.out.cell (World.block_lt_of_cell? w _ hx107_0)).trans hx107_0 | skip)
         (first | replace hx107_1 := (HB.out.cell (World.block_lt_of_cell? w _ hx107_1)).trans hx107_1 | skip)
         (first | replace hx107_2 := (HB.out.cell (World.block_lt_of_cell? w _ hx107_2)).trans hx107_2 | skip)
         (first | replace hx107_3 := (HB.out.cell (World.block_lt_of_cell? w _ hx107_3)).trans hx107_3 | skip)
         (have HR107_0 := aM hi107_0); (have HC107_0 := aM hl107_0); clear hi107_0 hl107_0; (replace p107 := eq_true p107); (replace q107 := eq_true q107)
         go_wp2_with (first | ((with_reducible refine gate_callee (f := 17) rfl ?_); refine goesL_ (some 23) rfl rfl Try.func17 (by kernel_rfl) rfl #[.agg #[.slice A107_0 ((rd_T41 l0 x5_1).f0).length c107_0, .int .i64 ((rd_T41 l0 x5_1).f1), .int .i64 ((rd_T41 l0 x5_1).f2), .bool ((rd_T41 l0 x5_1).f3)], .int .i64 x1_1] rfl (by simp only [List.map_toArray, List.map_cons, List.map_nil]; rfl) ?_; (with_reducible refine (laws_szTalker.calls k1 _ _ ((rd_T41 l0 x5_1).f0) ((rd_T41 l0 x5_1).f1) ((rd_T41 l0 x5_1).f2) ((rd_T41 l0 x5_1).f3) x1_1 t108 _ ?side1 ?side2 A6.out).mono ?_); (case side1 => repeat (first | exact (Kd.C_below HR107_0.out HB.out) | (with_reducible first | refine cA ?_ _ | refine cN ?_ _ | refine cD ?_))); (case side2 => exact HC107_0.out); rintro e w8 ⟨rfl, hb⟩; refine ⟨_, rfl, ?_⟩; have n0_ := aM (zP (by repeat (with_reducible first | exact HB.out | apply zA | apply zN | apply zD)) hb); clear HB; have HB := n0_; clear n0_; ))
         go_ret
         exact ⟨by first | rfl | (simp [errW_none, errW_some] <;> rfl) | (simp [*, errW_none, errW_some] <;> rfl), by repeat (with_reducible first | exact HB.out | apply zA | apply zN | apply zD)⟩
       · rw [if_neg c7] at H
         (have c7b0 := decide_eq_false c7); clear c7; (have H' := aM H); clear H; (have p107 : 0 ≤ (x5_1 : Int) := od (by assumption)); (have q107 : x5_1 < (l0.length : Int) := od (by assumption)); (obtain ⟨ad107, A107_0, c107_0, e107, hx107_0, hx107_1, hx107_2, hx107_3, hl107_0, hi107_0⟩ := at_T41 HR0.out x5_1 p107 q107)
         cases e107
         (first | replace hx107_0 := (HB.out.cell (World.block_lt_of_cell? w _ hx107_0)).trans hx107_0 | skip)
         (first | replace hx107_1 := (HB.out.cell (World.block_lt_of_cell? w _ hx107_1)).trans hx107_1 | skip)
         (first | replace hx107_2 := (HB.out.cell (World.block_lt_of_cell? w _ hx107_2)).trans hx107_2 | skip)
         (first | replace hx107_3 := (HB.out.cell (World.block_lt_of_cell? w _ hx107_3)).trans hx107_3 | skip)
         (have HR107_0 := aM hi107_0); (have HC107_0 := aM hl107_0); clear hi107_0 hl107_0; (replace p107 := eq_true p107); (replace q107 := eq_true q107)
         go_wp2_with (first | ((with_reducible refine gate_callee (f := 17) rfl ?_); refine goesL_ (some 23) rfl rfl Try.func17 (by kernel_rfl) rfl #[.agg #[.slice A107_0 ((rd_T41 l0 x5_1).f0).length c107_0, .int .i64 ((rd_T41 l0 x5_1).f1), .int .i64 ((rd_T41 l0 x5_1).f2), .bool ((rd_T41 l0 x5_1).f3)], .int .i64 x1_1] rfl (by simp only [List.map_toArray, List.map_cons, List.map_nil]; rfl) ?_; (with_reducible refine (laws_szTalker.calls k1 _ _ ((rd_T41 l0 x5_1).f0) ((rd_T41 l0 x5_1).f1) ((rd_T41 l0 x5_1).f2) ((rd_T41 l0 x5_1).f3) x1_1 t108 _ ?side1 ?side2 A6.out).mono ?_); (case side1 => repeat (first | exact (Kd.C_below HR107_0.out HB.out) | (with_reducible first | refine cA ?_ _ | refine cN ?_ _ | refine cD ?_))); (case side2 => exact HC107_0.out); rintro e w9 ⟨rfl, hb⟩; refine ⟨_, rfl, ?_⟩; have n0_ := aM (zP (by repeat (with_reducible first | exact HB.out | apply zA | apply zN | apply zD)) hb); clear HB; have HB := n0_; clear n0_; ))
         go_roundg k1
         case measure => have := HK1.out; omega
         case rel => exact ⟨(t108), (wrap64 (x5_1 + 1)), (by first | rfl | simp | simp [*]), (by first | rfl | simp | simp [*]), H', ⟨by have := HK1.out; omega⟩, ⟨by repeat (with_reducible first | exact HB.out | apply zA | apply zN | apply zD)⟩⟩
     · rw [if_neg c4] at H
       (have c4b0 := decide_eq_false c4); clear c4; (obtain rfl := Option.some.inj H)
       go_wp2
       go_ret
       exact ⟨by first | rfl | (simp [errW_none, errW_some] <;> rfl) | (simp [*, errW_none, errW_some] <;> rfl), by repeat (with_reducible first | exact HB.out | apply zA | apply zN | apply zD)⟩

/-! ### spec_GoodFrame: function 33 -/
def spec_GoodFrame.f (a0_0 : Int) (l0_1 : List Int) : Option (Bool) := if a0_0 ≥ 0 then (if a0_0 ≤ 2047 then (some (decide ((l0_1.length : Int) ≤ 8))) else (some false)) else (some false)
set_option maxHeartbeats 8000000 in
set_option maxRecDepth 100000 in
theorem spec_GoodFrame.calls (a0_0 : Int) (A0_1 : Option Addr) (c0_1 : Nat) (l0_1 : List Int) (r : Bool) (w : World) (hr0_1 : Kd.C (Kd.int .u8) w A0_1 l0_1.length l0_1) (hc0_1 : l0_1.length ≤ c0_1) (h : spec_GoodFrame.f a0_0 l0_1 = some r) :
 Calls Try.prog 33 #[.agg #[.int .i64 a0_0, .slice A0_1 l0_1.length c0_1]] w fun e w' => e = .returned (.bool r) ∧ Below w.heap.size w w' := by
 have hu49 := Try.underlying49
 have HR0_1 := aM hr0_1
 have HC0_1 := aM hc0_1
 clear hr0_1 hc0_1
 have HB := aM (Below.refl w.heap.size w)
 have H : (if a0_0 ≥ 0 then (if a0_0 ≤ 2047 then (some (decide ((l0_1.length : Int) ≤ 8))) else (some false)) else (some false)) = some r := h
 clear h
 by_cases c2 : a0_0 ≥ 0
 · rw [if_pos c2] at H
   (have c2b0 := decide_eq_true c2); clear c2
   by_cases c3 : a0_0 ≤ 2047
   · rw [if_pos c3] at H
     (have c3b0 := decide_eq_true c3); clear c3; (obtain rfl := Option.some.inj H)
     go_enter Try.func33, Try.ntmps33
     go_wp2_with (first | ((with_reducible refine gate_dst (N := 1) rfl ?_); (try (refine gate_guard (by rfl) ?_; dsimp only)); refine box_event ?hg (N := 1) ?hd (cs := #[.int .i64 a0_0, .slice A0_1 l0_1.length c0_1]) (t := 49) ?hr ?_; (case hd => rfl); (case hg => rfl); (case hr => first | (go_simp; done) | (go_simp; rfl)); intro gb109 hg w4 hbox hb; have n0_ := aM (zP (by repeat (with_reducible first | exact HB.out | apply zA | apply zN | apply zD)) hb); have n1_ := aM (hbox); have n2_ := aM ((by rw [hg]; exact (zZ (by repeat (with_reducible first | exact HB.out | apply zA | apply zN | apply zD))) : w.heap.size ≤ gb109)); have n3_ := n2_; clear HB; have HB := n0_; have BK109 := n1_; have GW109 := n2_; have GE109 := n3_; clear n0_ n1_ n2_ n3_; clear hb hbox hg; obtain ⟨a5_0, a5_1, b5_0, b5_1⟩ := cz2 BK109.out))
     go_ret
     exact ⟨by first | rfl | (simp [errW_none, errW_some] <;> rfl) | (simp [*, errW_none, errW_some] <;> rfl), by repeat (with_reducible first | exact HB.out | apply zA | apply zN | apply zD | refine zS ?_ GE109.out)⟩
   · rw [if_neg c3] at H
     (have c3b0 := decide_eq_false c3); clear c3; (obtain rfl := Option.some.inj H)
     go_enter Try.func33, Try.ntmps33
     go_wp2_with (first | ((with_reducible refine gate_dst (N := 1) rfl ?_); (try (refine gate_guard (by rfl) ?_; dsimp only)); refine box_event ?hg (N := 1) ?hd (cs := #[.int .i64 a0_0, .slice A0_1 l0_1.length c0_1]) (t := 49) ?hr ?_; (case hd => rfl); (case hg => rfl); (case hr => first | (go_simp; done) | (go_simp; rfl)); intro gb109 hg w6 hbox hb; have n0_ := aM (zP (by repeat (with_reducible first | exact HB.out | apply zA | apply zN | apply zD)) hb); have n1_ := aM (hbox); have n2_ := aM ((by rw [hg]; exact (zZ (by repeat (with_reducible first | exact HB.out | apply zA | apply zN | apply zD))) : w.heap.size ≤ gb109)); have n3_ := n2_; clear HB; have HB := n0_; have BK109 := n1_; have GW109 := n2_; have GE109 := n3_; clear n0_ n1_ n2_ n3_; clear hb hbox hg; obtain ⟨a7_0, a7_1, b7_0, b7_1⟩ := cz2 BK109.out))
     go_ret
     exact ⟨by first | rfl | (simp [errW_none, errW_some] <;> rfl) | (simp [*, errW_none, errW_some] <;> rfl), by repeat (with_reducible first | exact HB.out | apply zA | apply zN | apply zD | refine zS ?_ GE109.out)⟩
 · rw [if_neg c2] at H
   (have c2b0 := decide_eq_false c2); clear c2; (obtain rfl := Option.some.inj H)
   go_enter Try.func33, Try.ntmps33
   go_wp2_with (first | ((with_reducible refine gate_dst (N := 1) rfl ?_); (try (refine gate_guard (by rfl) ?_; dsimp only)); refine box_event ?hg (N := 1) ?hd (cs := #[.int .i64 a0_0, .slice A0_1 l0_1.length c0_1]) (t := 49) ?hr ?_; (case hd => rfl); (case hg => rfl); (case hr => first | (go_simp; done) | (go_simp; rfl)); intro gb109 hg w8 hbox hb; have n0_ := aM (zP (by repeat (with_reducible first | exact HB.out | apply zA | apply zN | apply zD)) hb); have n1_ := aM (hbox); have n2_ := aM ((by rw [hg]; exact (zZ (by repeat (with_reducible first | exact HB.out | apply zA | apply zN | apply zD))) : w.heap.size ≤ gb109)); have n3_ := n2_; clear HB; have HB := n0_; have BK109 := n1_; have GW109 := n2_; have GE109 := n3_; clear n0_ n1_ n2_ n3_; clear hb hbox hg; obtain ⟨a9_0, a9_1, b9_0, b9_1⟩ := cz2 BK109.out))
   go_ret
   exact ⟨by first | rfl | (simp [errW_none, errW_some] <;> rfl) | (simp [*, errW_none, errW_some] <;> rfl), by repeat (with_reducible first | exact HB.out | apply zA | apply zN | apply zD | refine zS ?_ GE109.out)⟩

/-! ### spec_l23Talker: function 18 -/
mutual
def spec_l23Talker.j0 : Nat → Bool → List (S49) → Int → Int → Bool → Option (Bool)
 | 0, _, _, _, _, _ => none
 | k + 1, x36, x111000, x111001, x111002, x111003 => if x36 = true then (some false) else (spec_l23Talker.l0 k x111000 (x111000.length : Int) 0)
def spec_l23Talker.l0 : Nat → List (S49) → Int → Int → Option (Bool)
 | 0, _, _, _ => none
 | k + 1, x38, x39, x40 => if x40 < x39 then (if 0 ≤ x40 then (if x40 < (x38.length : Int) then ((spec_GoodFrame.f ((rd_T49 x38 x40).f0) ((rd_T49 x38 x40).f1)).bind fun t113 => (if t113 = true then (spec_l23Talker.l0 k x38 x39 (wrap64 (x40 + 1))) else (some false))) else (none)) else (none)) else (some true)
end
def spec_l23Talker.f (k : Nat) (l0_0 : List (S49)) (a0_1 : Int) (a0_2 : Int) (a0_3 : Bool) : Option (Bool) := if (l0_0.length : Int) > 8 then (spec_l23Talker.j0 k true l0_0 a0_1 a0_2 a0_3) else (if a0_1 < 1 then (spec_l23Talker.j0 k true l0_0 a0_1 a0_2 a0_3) else (if a0_1 > 10 then (spec_l23Talker.j0 k true l0_0 a0_1 a0_2 a0_3) else (if a0_2 < 0 then (spec_l23Talker.j0 k true l0_0 a0_1 a0_2 a0_3) else (if a0_2 > 255 then (spec_l23Talker.j0 k true l0_0 a0_1 a0_2 a0_3) else (spec_l23Talker.j0 k (a0_3 != (a0_2 == 255)) l0_0 a0_1 a0_2 a0_3)))))
set_option maxHeartbeats 8000000 in
set_option maxRecDepth 100000 in
theorem spec_l23Talker.calls (k : Nat) (A0_0 : Option Addr) (c0_0 : Nat) (l0_0 : List (S49)) (a0_1 : Int) (a0_2 : Int) (a0_3 : Bool) (r : Bool) (w : World) (hr0_0 : Kd.C k49 w A0_0 l0_0.length l0_0) (hc0_0 : l0_0.length ≤ c0_0) (h : spec_l23Talker.f k l0_0 a0_1 a0_2 a0_3 = some r) :
 Calls Try.prog 18 #[.agg #[.slice A0_0 l0_0.length c0_0, .int .i64 a0_1, .int .i64 a0_2, .bool a0_3]] w fun e w' => e = .returned (.bool r) ∧ Below w.heap.size w w' := by
 have hu44 := Try.underlying44
 have hu49 := Try.underlying49
 have HR0_0 := aM hr0_0
 have HC0_0 := aM hc0_0
 clear hr0_0 hc0_0
 have HB := aM (Below.refl w.heap.size w)
 have H : (if (l0_0.length : Int) > 8 then (spec_l23Talker.j0 k true l0_0 a0_1 a0_2 a0_3) else (if a0_1 < 1 then (spec_l23Talker.j0 k true l0_0 a0_1 a0_2 a0_3) else (if a0_1 > 10 then (spec_l23Talker.j0 k true l0_0 a0_1 a0_2 a0_3) else (if a0_2 < 0 then (spec_l23Talker.j0 k true l0_0 a0_1 a0_2 a0_3) else (if a0_2 > 255 then (spec_l23Talker.j0 k true l0_0 a0_1 a0_2 a0_3) else (spec_l23Talker.j0 k (a0_3 != (a0_2 == 255)) l0_0 a0_1 a0_2 a0_3)))))) = some r := h
 clear h
 have HC2 := aM H
 clear H
 go_enter Try.func18, Try.ntmps18
 go_upto_region 1 with (first | ((with_reducible refine gate_dst (N := 1) rfl ?_); refine box_event ?hg (N := 1) ?hd (cs := #[.slice A0_0 l0_0.length c0_0, .int .i64 a0_1, .int .i64 a0_2, .bool a0_3]) (t := 44) ?hr ?_; (case hd => rfl); (case hg => rfl); (case hr => first | (go_simp; done) | (go_simp; rfl)); intro gb110 hg w3 hbox hb; have n0_ := aM (zP (by repeat (with_reducible first | exact HB.out | apply zA | apply zN | apply zD)) hb); have n1_ := aM (hbox); have n2_ := aM ((by rw [hg]; exact (zZ (by repeat (with_reducible first | exact HB.out | apply zA | apply zN | apply zD))) : w.heap.size ≤ gb110)); have n3_ := n2_; clear HB; have HB := n0_; have BK110 := n1_; have GW110 := n2_; have GE110 := n3_; clear n0_ n1_ n2_ n3_; clear hb hbox hg))
 (try simp only [Act.put, sA, s0, s1])
 go_cut [36] (fun v36 wc => ∃ (kq : Nat) (x36_1 : Bool), v36 = .bool x36_1 ∧ Aside0 (spec_l23Talker.j0 kq x36_1 l0_0 a0_1 a0_2 a0_3 = some r) ∧ Aside0 (kq ≤ k) ∧ Aside0 (wc.heap[gb110]? = some (.cells #[(.slice A0_0 l0_0.length c0_0), .int .i64 a0_1, .int .i64 a0_2, .bool a0_3] 44 (0, 0))) ∧ Aside0 (Below w.heap.size w wc))
 case first =>
  have H := HC2.out; clear HC2
  by_cases c4 : (l0_0.length : Int) > 8
  · rw [if_pos c4] at H
    (have c4b0 := decide_eq_true c4); (have c4b1 : decide (8 < l0_0.length) = true := decide_eq_true (by omega)); clear c4
    (first | rw [c4b0] | (simp only [i64_w, i32_w]; rw [c4b0]) | skip)
    (have H' := aM H); clear H; (obtain ⟨a5_0, a5_1, a5_2, a5_3, b5_0, b5_1, b5_2, b5_3⟩ := cz4 BK110.out)
    go_wp2
    go_meet
    case rel => exact ⟨_, (true), (by first | rfl | simp | simp [*]), H', ⟨by first | omega | exact Nat.le_refl _⟩, ⟨by exact BK110.out⟩, ⟨by repeat (with_reducible first | exact HB.out | apply zA | apply zN | apply zD | refine zS ?_ GE110.out)⟩⟩
  · rw [if_neg c4] at H
    (have c4b0 := decide_eq_false c4); (have c4b1 : decide (8 < l0_0.length) = false := decide_eq_false (by omega)); clear c4
    (first | rw [c4b0] | (simp only [i64_w, i32_w]; rw [c4b0]) | skip)
    by_cases c6 : a0_1 < 1
    · rw [if_pos c6] at H
      (have c6b0 := decide_eq_true c6); clear c6; (have H' := aM H); clear H; (obtain ⟨a7_0, a7_1, a7_2, a7_3, b7_0, b7_1, b7_2, b7_3⟩ := cz4 BK110.out)
      go_wp2
      go_meet
      case rel => exact ⟨_, (true), (by first | rfl | simp | simp [*]), H', ⟨by first | omega | exact Nat.le_refl _⟩, ⟨by exact BK110.out⟩, ⟨by repeat (with_reducible first | exact HB.out | apply zA | apply zN | apply zD | refine zS ?_ GE110.out)⟩⟩
    · rw [if_neg c6] at H
      (have c6b0 := decide_eq_false c6); clear c6
      by_cases c8 : a0_1 > 10
      · rw [if_pos c8] at H
        (have c8b0 := decide_eq_true c8); clear c8; (have H' := aM H); clear H; (obtain ⟨a9_0, a9_1, a9_2, a9_3, b9_0, b9_1, b9_2, b9_3⟩ := cz4 BK110.out)
        go_wp2
        go_meet
        case rel => exact ⟨_, (true), (by first | rfl | simp | simp [*]), H', ⟨by first | omega | exact Nat.le_refl _⟩, ⟨by exact BK110.out⟩, ⟨by repeat (with_reducible first | exact HB.out | apply zA | apply zN | apply zD | refine zS ?_ GE110.out)⟩⟩
      · rw [if_neg c8] at H
        (have c8b0 := decide_eq_false c8); clear c8
        by_cases c10 : a0_2 < 0
        · rw [if_pos c10] at H
          (have c10b0 := decide_eq_true c10); clear c10; (have H' := aM H); clear H; (obtain ⟨a11_0, a11_1, a11_2, a11_3, b11_0, b11_1, b11_2, b11_3⟩ := cz4 BK110.out)
          go_wp2
          go_meet
          case rel => exact ⟨_, (true), (by first | rfl | simp | simp [*]), H', ⟨by first | omega | exact Nat.le_refl _⟩, ⟨by exact BK110.out⟩, ⟨by repeat (with_reducible first | exact HB.out | apply zA | apply zN | apply zD | refine zS ?_ GE110.out)⟩⟩
        · rw [if_neg c10] at H
          (have c10b0 := decide_eq_false c10); clear c10
          by_cases c12 : a0_2 > 255
          · rw [if_pos c12] at H
            (have c12b0 := decide_eq_true c12); clear c12; (have H' := aM H); clear H; (obtain ⟨a13_0, a13_1, a13_2, a13_3, b13_0, b13_1, b13_2, b13_3⟩ := cz4 BK110.out)
            go_wp2
            go_meet
            case rel => exact ⟨_, (true), (by first | rfl | simp | simp [*]), H', ⟨by first | omega | exact Nat.le_refl _⟩, ⟨by exact BK110.out⟩, ⟨by repeat (with_reducible first | exact HB.out | apply zA | apply zN | apply zD | refine zS ?_ GE110.out)⟩⟩
          · rw [if_neg c12] at H
            (have c12b0 := decide_eq_false c12); clear c12; (have H' := aM H); clear H; (obtain ⟨a14_0, a14_1, a14_2, a14_3, b14_0, b14_1, b14_2, b14_3⟩ := cz4 BK110.out)
            go_wp2
            go_meet
            case rel => exact ⟨_, ((a0_3 != (a0_2 == 255))), (by first | rfl | simp | simp [*]), H', ⟨by first | omega | exact Nat.le_refl _⟩, ⟨by exact BK110.out⟩, ⟨by repeat (with_reducible first | exact HB.out | apply zA | apply zN | apply zD | refine zS ?_ GE110.out)⟩⟩
 case rest =>
  clear HC2; (obtain ⟨kq, x36_1, rfl, HA, HJ1, BK110, HB⟩ := hcut)
  cases kq with
  | zero => exact absurd HA.out (by simp [spec_l23Talker.j0])
  | succ kj1 =>
   have H := HA.out; clear HA; (simp only [spec_l23Talker.j0] at H)
   by_cases c15 : x36_1 = true
   · subst c15
     (have H1 : (some false) = some r := by rw [if_pos rfl] at H; exact H); clear H; have H := H1; clear H1; (obtain rfl := Option.some.inj H)
     go_wp2
     go_ret
     exact ⟨by first | rfl | (simp [errW_none, errW_some] <;> rfl) | (simp [*, errW_none, errW_some] <;> rfl), by repeat (with_reducible first | exact HB.out | apply zA | apply zN | apply zD | refine zS ?_ GE110.out)⟩
   · replace c15 := Bool.eq_false_iff.mpr c15
     subst c15; (have H1 : (spec_l23Talker.l0 kj1 l0_0 (l0_0.length : Int) 0) = some r := by rw [if_neg (show ¬ (false = true) by decide)] at H; exact H); clear H; have H := H1; clear H1; (have H' := aM H); clear H; (obtain ⟨a16_0, a16_1, a16_2, a16_3, b16_0, b16_1, b16_2, b16_3⟩ := cz4 BK110.out)
     go_wp2
     go_loopg [40] kj1 (fun kq v40 w' => ∃ (x40_2 : Int), v40 = .int .i64 x40_2 ∧ Aside0 (spec_l23Talker.l0 kq l0_0 (l0_0.length : Int) x40_2 = some r) ∧ Aside0 (kq ≤ kj1) ∧ Aside0 (w'.heap[gb110]? = some (.cells #[(.slice A0_0 l0_0.length c0_0), .int .i64 a0_1, .int .i64 a0_2, .bool a0_3] 44 (0, 0))) ∧ Aside0 (Below w.heap.size w w'))
     case atStart => exact ⟨(0), (by first | rfl | simp | simp [*]), H', ⟨Nat.le_refl _⟩, ⟨by exact BK110.out⟩, ⟨by repeat (with_reducible first | exact HB.out | apply zA | apply zN | apply zD | refine zS ?_ GE110.out)⟩⟩
     case round =>
      clear H'; (obtain ⟨x40_2, rfl, HA, HK2, BK110, HB⟩ := hrel)
      cases gk with
      | zero => exact absurd HA.out (by simp [spec_l23Talker.l0])
      | succ k2 =>
       have H := HA.out; clear HA; (simp only [spec_l23Talker.l0] at H)
       by_cases c17 : x40_2 < (l0_0.length : Int)
       · rw [if_pos c17] at H
         (have c17b0 := decide_eq_true c17); clear c17; (obtain ⟨c18, H⟩ := of_ite_none1 H); (have c18b0 := decide_eq_true c18); clear c18; (obtain ⟨c19, H⟩ := of_ite_none1 H); (have c19b0 := decide_eq_true c19); clear c19; (replace H := Option.bind_eq_some_iff.mp H); (obtain ⟨t113, A200, H⟩ := H); (replace H : (if t113 = true then (spec_l23Talker.l0 k2 l0_0 (l0_0.length : Int) (wrap64 (x40_2 + 1))) else (some false)) = some r := H); (have A20 := aM A200); clear A200
         by_cases c21 : t113 = true
         · subst c21
           (have H1 : (spec_l23Talker.l0 k2 l0_0 (l0_0.length : Int) (wrap64 (x40_2 + 1))) = some r := by rw [if_pos rfl] at H; exact H); clear H; have H := H1; clear H1; (have H' := aM H); clear H; (have p111 : 0 ≤ (x40_2 : Int) := od (by assumption)); (have q111 : x40_2 < (l0_0.length : Int) := od (by assumption)); (obtain ⟨ad111, A111_1, c111_1, e111, hx111_0, hx111_1, hl111_1, hi111_1⟩ := at_T49 HR0_0.out x40_2 p111 q111)
           cases e111
           (first | replace hx111_0 := (HB.out.cell (World.block_lt_of_cell? w _ hx111_0)).trans hx111_0 | skip)
           (first | replace hx111_1 := (HB.out.cell (World.block_lt_of_cell? w _ hx111_1)).trans hx111_1 | skip)
           (have HR111_1 := aM hi111_1); (have HC111_1 := aM hl111_1); clear hi111_1 hl111_1; (replace p111 := eq_true p111); (replace q111 := eq_true q111)
           go_wp2_with (first | ((with_reducible refine gate_dst (N := 4) rfl ?_); refine box_event ?hg (N := 4) ?hd (cs := #[.int .i64 0, .slice none 0 0]) (t := 49) ?hr ?_; (case hd => rfl); (case hg => rfl); (case hr => first | (go_simp; done) | (go_simp; rfl)); intro gb112 hg w22 hbox hb; have n0_ := aM (zB (g := gb110) (o := .cells #[.slice (some ad111) l0_0.length c0_0, .int .i64 a0_1, .int .i64 a0_2, .bool a0_3] 44 (0, 0)) BK110.out hb); have n1_ := aM (zP (by repeat (with_reducible first | exact HB.out | apply zA | apply zN | apply zD | refine zS ?_ GE110.out)) hb); have n2_ := aM (hbox); have n3_ := aM ((by rw [hg]; exact (zZ (by repeat (with_reducible first | exact HB.out | apply zA | apply zN | apply zD | refine zS ?_ GE110.out))) : w.heap.size ≤ gb112)); have n4_ := n3_; have n5_ := aM ((by rw [hg]; exact Nat.ne_of_lt (blk_lt (g := gb110) (o := .cells #[.slice (some ad111) l0_0.length c0_0, .int .i64 a0_1, .int .i64 a0_2, .bool a0_3] 44 (0, 0)) BK110.out) : gb110 ≠ gb112)); have n6_ := aM ((by rw [hg]; exact Nat.ne_of_gt (blk_lt (g := gb110) (o := .cells #[.slice (some ad111) l0_0.length c0_0, .int .i64 a0_1, .int .i64 a0_2, .bool a0_3] 44 (0, 0)) BK110.out) : gb112 ≠ gb110)); clear BK110; clear HB; have BK110 := n0_; have HB := n1_; have BK112 := n2_; have GW112 := n3_; have GE112 := n4_; have NB110_112 := n5_; have NB112_110 := n6_; clear n0_ n1_ n2_ n3_ n4_ n5_ n6_; clear hb hbox hg; have hnb23 := NB112_110.out; have hnc23 := NB110_112.out; obtain ⟨a24_0, a24_1, b24_0, b24_1⟩ := cz2 BK112.out) | ((with_reducible refine gate_callee (f := 33) rfl ?_); refine goesL_ (some 45) rfl rfl Try.func33 (by kernel_rfl) rfl #[.agg #[.int .i64 ((rd_T49 l0_0 x40_2).f0), .slice A111_1 ((rd_T49 l0_0 x40_2).f1).length c111_1]] rfl (by simp only [List.map_toArray, List.map_cons, List.map_nil]; rfl) ?_; (with_reducible refine (spec_GoodFrame.calls ((rd_T49 l0_0 x40_2).f0) _ _ ((rd_T49 l0_0 x40_2).f1) true _ ?side1 ?side2 A20.out).mono ?_); (case side1 => exact Kd.C_below HR111_1.out (by repeat (with_reducible first | exact HB.out | apply zA | apply zN | apply zD | refine zS ?_ GE110.out | refine zS ?_ GE112.out))); (case side2 => exact HC111_1.out); rintro e w25 ⟨rfl, hb⟩; refine ⟨_, rfl, ?_⟩; have n0_ := aM (zB (g := gb110) (o := .cells #[.slice (some ad111) l0_0.length c0_0, .int .i64 a0_1, .int .i64 a0_2, .bool a0_3] 44 (0, 0)) (by refine blk_far ?_ NB110_112.out _; refine blk_far ?_ NB110_112.out _; exact BK110.out) hb); have n1_ := aM (zB (g := gb112) (o := .cells #[.int .i64 ((rd_T49 l0_0 x40_2).f0), .slice A111_1 ((rd_T49 l0_0 x40_2).f1).length c111_1] 49 (0, 0)) (by refine zU (cs := #[.int .i64 ((rd_T49 l0_0 x40_2).f0), .slice none 0 0]) ?_ 1 _ rfl; refine zU (cs := #[.int .i64 0, .slice none 0 0]) ?_ 0 _ rfl; exact BK112.out) hb); have n2_ := aM (zP (by repeat (with_reducible first | exact HB.out | apply zA | apply zN | apply zD | refine zS ?_ GE110.out | refine zS ?_ GE112.out)) hb); clear BK110; clear BK112; clear HB; have BK110 := n0_; have BK112 := n1_; have HB := n2_; clear n0_ n1_ n2_; ))
           go_roundg k2
           case measure => have := HJ1.out; have := HK2.out; omega
           case rel => exact ⟨(wrap64 (x40_2 + 1)), (by first | rfl | simp | simp [*]), H', ⟨by have := HJ1.out; have := HK2.out; omega⟩, ⟨by exact BK110.out⟩, ⟨by repeat (with_reducible first | exact HB.out | apply zA | apply zN | apply zD | refine zS ?_ GE110.out | refine zS ?_ GE112.out)⟩⟩
         · replace c21 := Bool.eq_false_iff.mpr c21
           subst c21; (have H1 : (some false) = some r := by rw [if_neg (show ¬ (false = true) by decide)] at H; exact H); clear H; have H := H1; clear H1; (obtain rfl := Option.some.inj H); (have p111 : 0 ≤ (x40_2 : Int) := od (by assumption)); (have q111 : x40_2 < (l0_0.length : Int) := od (by assumption)); (obtain ⟨ad111, A111_1, c111_1, e111, hx111_0, hx111_1, hl111_1, hi111_1⟩ := at_T49 HR0_0.out x40_2 p111 q111)
           cases e111
           (first | replace hx111_0 := (HB.out.cell (World.block_lt_of_cell? w _ hx111_0)).trans hx111_0 | skip)
           (first | replace hx111_1 := (HB.out.cell (World.block_lt_of_cell? w _ hx111_1)).trans hx111_1 | skip)
           (have HR111_1 := aM hi111_1); (have HC111_1 := aM hl111_1); clear hi111_1 hl111_1; (replace p111 := eq_true p111); (replace q111 := eq_true q111)
           go_wp2_with (first | ((with_reducible refine gate_dst (N := 4) rfl ?_); refine box_event ?hg (N := 4) ?hd (cs := #[.int .i64 0, .slice none 0 0]) (t := 49) ?hr ?_; (case hd => rfl); (case hg => rfl); (case hr => first | (go_simp; done) | (go_simp; rfl)); intro gb112 hg w26 hbox hb; have n0_ := aM (zB (g := gb110) (o := .cells #[.slice (some ad111) l0_0.length c0_0, .int .i64 a0_1, .int .i64 a0_2, .bool a0_3] 44 (0, 0)) BK110.out hb); have n1_ := aM (zP (by repeat (with_reducible first | exact HB.out | apply zA | apply zN | apply zD | refine zS ?_ GE110.out)) hb); have n2_ := aM (hbox); have n3_ := aM ((by rw [hg]; exact (zZ (by repeat (with_reducible first | exact HB.out | apply zA | apply zN | apply zD | refine zS ?_ GE110.out))) : w.heap.size ≤ gb112)); have n4_ := n3_; have n5_ := aM ((by rw [hg]; exact Nat.ne_of_lt (blk_lt (g := gb110) (o := .cells #[.slice (some ad111) l0_0.length c0_0, .int .i64 a0_1, .int .i64 a0_2, .bool a0_3] 44 (0, 0)) BK110.out) : gb110 ≠ gb112)); have n6_ := aM ((by rw [hg]; exact Nat.ne_of_gt (blk_lt (g := gb110) (o := .cells #[.slice (some ad111) l0_0.length c0_0, .int .i64 a0_1, .int .i64 a0_2, .bool a0_3] 44 (0, 0)) BK110.out) : gb112 ≠ gb110)); clear BK110; clear HB; have BK110 := n0_; have HB := n1_; have BK112 := n2_; have GW112 := n3_; have GE112 := n4_; have NB110_112 := n5_; have NB112_110 := n6_; clear n0_ n1_ n2_ n3_ n4_ n5_ n6_; clear hb hbox hg; have hnb27 := NB112_110.out; have hnc27 := NB110_112.out; obtain ⟨a28_0, a28_1, b28_0, b28_1⟩ := cz2 BK112.out) | ((with_reducible refine gate_callee (f := 33) rfl ?_); refine goesL_ (some 45) rfl rfl Try.func33 (by kernel_rfl) rfl #[.agg #[.int .i64 ((rd_T49 l0_0 x40_2).f0), .slice A111_1 ((rd_T49 l0_0 x40_2).f1).length c111_1]] rfl (by simp only [List.map_toArray, List.map_cons, List.map_nil]; rfl) ?_; (with_reducible refine (spec_GoodFrame.calls ((rd_T49 l0_0 x40_2).f0) _ _ ((rd_T49 l0_0 x40_2).f1) false _ ?side1 ?side2 A20.out).mono ?_); (case side1 => exact Kd.C_below HR111_1.out (by repeat (with_reducible first | exact HB.out | apply zA | apply zN | apply zD | refine zS ?_ GE110.out | refine zS ?_ GE112.out))); (case side2 => exact HC111_1.out); rintro e w29 ⟨rfl, hb⟩; refine ⟨_, rfl, ?_⟩; have n0_ := aM (zB (g := gb110) (o := .cells #[.slice (some ad111) l0_0.length c0_0, .int .i64 a0_1, .int .i64 a0_2, .bool a0_3] 44 (0, 0)) (by refine blk_far ?_ NB110_112.out _; refine blk_far ?_ NB110_112.out _; exact BK110.out) hb); have n1_ := aM (zB (g := gb112) (o := .cells #[.int .i64 ((rd_T49 l0_0 x40_2).f0), .slice A111_1 ((rd_T49 l0_0 x40_2).f1).length c111_1] 49 (0, 0)) (by refine zU (cs := #[.int .i64 ((rd_T49 l0_0 x40_2).f0), .slice none 0 0]) ?_ 1 _ rfl; refine zU (cs := #[.int .i64 0, .slice none 0 0]) ?_ 0 _ rfl; exact BK112.out) hb); have n2_ := aM (zP (by repeat (with_reducible first | exact HB.out | apply zA | apply zN | apply zD | refine zS ?_ GE110.out | refine zS ?_ GE112.out)) hb); clear BK110; clear BK112; clear HB; have BK110 := n0_; have BK112 := n1_; have HB := n2_; clear n0_ n1_ n2_; ))
           go_ret
           exact ⟨by first | rfl | (simp [errW_none, errW_some] <;> rfl) | (simp [*, errW_none, errW_some] <;> rfl), by repeat (with_reducible first | exact HB.out | apply zA | apply zN | apply zD | refine zS ?_ GE110.out | refine zS ?_ GE112.out)⟩
       · rw [if_neg c17] at H
         (have c17b0 := decide_eq_false c17); clear c17; (obtain rfl := Option.some.inj H)
         go_wp2
         go_ret
         exact ⟨by first | rfl | (simp [errW_none, errW_some] <;> rfl) | (simp [*, errW_none, errW_some] <;> rfl), by repeat (with_reducible first | exact HB.out | apply zA | apply zN | apply zD | refine zS ?_ GE110.out)⟩

end Go.Proofs.Ytdiibgbekjlmlaa.PFnExactRunBus
