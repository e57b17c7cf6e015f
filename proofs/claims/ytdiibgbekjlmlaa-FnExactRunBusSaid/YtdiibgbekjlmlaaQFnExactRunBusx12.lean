-- Written by this session's own program for the law FnExactRunBus; it began as the print's text.
import Derived.Test.YtdiibgbekjlmlaaQFnExactRunBusx0
import Derived.Test.YtdiibgbekjlmlaaQFnExactRunBusx11
namespace Go.Proofs.Ytdiibgbekjlmlaa.PFnExactRunBus
open Go.RowKit Go.Proofs.YtdiibgbekjlmlaaW.PrintWords Go.Proofs.YtdiibgbekjlmlaaW.PrintLast Go.Proofs.YtdiibgbekjlmlaaW.PrintMore
open Go.Proofs.YtdiibgbekjlmlaaW.PrintWords.Aside0 renaming mk → aM
open Go.Proofs.YtdiibgbekjlmlaaW.PrintWords.Kd renaming C_alloc → cA, C_drewN → cN, C_drew → cD
attribute [local go_sem] max2_int min2_int max_two min_two max_three min_three max_four min_four   -- for this text's walks alone
set_option linter.unusedVariables false
set_option linter.unusedSimpArgs false

theorem of_ite_none12 {α : Type} {c : Prop} [Decidable c] {x : Option α} {r : α} (h : (if c then x else none) = some r) : c ∧ x = some r := by
 by_cases hc : c
 · exact ⟨hc, by rw [if_pos hc] at h; exact h⟩
 · rw [if_neg hc] at h; exact absurd h (by simp)

/-! ### laws_heldTalkerS: function 16 -/
def laws_heldTalkerS.l0 : Nat → List (S44) → Int → Int → Option (Int)
 | 0, _, _, _ => none
 | k + 1, x0, x1, x5 => if x5 < (x0.length : Int) then (if 0 ≤ x5 then ((laws_heldFrameS.f k ((rd_T44 x0 x5).f0) x1).bind fun t318 => (if t318 < 0 then (some (-1)) else (if ((rd_T44 x0 x5).f1) = t318 then (if ((rd_T44 x0 x5).f2) = (wrap64 (t318 + 1)) then (if (((rd_T44 x0 x5).f3) != ((Int.tmod (wrap64 ((wrap64 (t318 + 1)) + 1)) 3) == 0)) = true then (some (-1)) else (laws_heldTalkerS.l0 k x0 (wrap64 ((wrap64 ((wrap64 (t318 + 1)) + 1)) + 1)) (wrap64 (x5 + 1)))) else (some (-1))) else (some (-1))))) else (none)) else (some x1)
def laws_heldTalkerS.f (k : Nat) (l0 : List (S44)) (a1 : Int) : Option (Int) := laws_heldTalkerS.l0 k l0 a1 0
set_option maxHeartbeats 8000000 in
set_option maxRecDepth 100000 in
theorem laws_heldTalkerS.calls (k : Nat) (A0 : Option Addr) (c0 : Nat) (l0 : List (S44)) (a1 : Int) (r : Int) (w : World) (hr0 : Kd.C k44 w A0 l0.length l0) (hc0 : l0.length ≤ c0) (h : laws_heldTalkerS.f k l0 a1 = some r) :
 Calls Try.prog 16 #[.slice A0 l0.length c0, .int .i64 a1] w fun e w' => e = .returned (.int .i64 r) ∧ Drawn0 w w' := by
 have HR0 := aM hr0
 have HC0 := aM hc0
 clear hr0 hc0
 have H : (laws_heldTalkerS.l0 k l0 a1 0) = some r := h
 clear h
 have H' := aM H
 clear H
 go_enter Try.func16, Try.ntmps16
 go_wp2
 go_loopg [1, 5] k (fun kq v1 v5 w' => ∃ (x1_1 : Int) (x5_1 : Int), v1 = .int .i64 x1_1 ∧ v5 = .int .i64 x5_1 ∧ Aside0 (laws_heldTalkerS.l0 kq l0 x1_1 x5_1 = some r) ∧ Aside0 (kq ≤ k) ∧ Drawn0 w w')
 case atStart => exact ⟨(a1), (0), (by first | rfl | simp | simp [*]), (by first | rfl | simp | simp [*]), H', ⟨Nat.le_refl _⟩, by repeat (first | exact Drawn0.refl _ | apply Drawn0.step)⟩
 case round =>
  clear H'; (obtain ⟨x1_1, x5_1, rfl, rfl, HA, HK1, ⟨m1, rfl⟩⟩ := hrel)
  cases gk with
  | zero => exact absurd HA.out (by simp [laws_heldTalkerS.l0])
  | succ k1 =>
   have H := HA.out; clear HA; (simp only [laws_heldTalkerS.l0] at H)
   by_cases c3 : x5_1 < (l0.length : Int)
   · rw [if_pos c3] at H
     (have c3b0 := decide_eq_true c3); clear c3; (obtain ⟨c4, H⟩ := of_ite_none12 H); (have c4b0 := decide_eq_true c4); clear c4; (replace H := Option.bind_eq_some_iff.mp H); (obtain ⟨t318, A50, H⟩ := H); (replace H : (if t318 < 0 then (some (-1)) else (if ((rd_T44 l0 x5_1).f1) = t318 then (if ((rd_T44 l0 x5_1).f2) = (wrap64 (t318 + 1)) then (if (((rd_T44 l0 x5_1).f3) != ((Int.tmod (wrap64 ((wrap64 (t318 + 1)) + 1)) 3) == 0)) = true then (some (-1)) else (laws_heldTalkerS.l0 k1 l0 (wrap64 ((wrap64 ((wrap64 (t318 + 1)) + 1)) + 1)) (wrap64 (x5_1 + 1)))) else (some (-1))) else (some (-1)))) = some r := H); (have A5 := aM A50); clear A50
     by_cases c6 : t318 < 0
     · rw [if_pos c6] at H
       (have c6b0 := decide_eq_true c6); clear c6; (obtain rfl := Option.some.inj H); (have p317 : 0 ≤ (x5_1 : Int) := od (by assumption)); (have q317 : x5_1 < (l0.length : Int) := od (by assumption)); (obtain ⟨ad317, A317_0, c317_0, e317, hx317_0, hx317_1, hx317_2, hx317_3, hl317_0, hi317_0⟩ := at_T44 HR0.out x5_1 p317 q317)
       cases e317
       (have HR317_0 := aM hi317_0); (have HC317_0 := aM hl317_0); clear hi317_0 hl317_0; (replace p317 := eq_true p317); (replace q317 := eq_true q317)
       go_wp2_with (first | ((with_reducible refine gate_callee (f := 31) rfl ?_); refine goesL_ (some 18) rfl rfl Try.func31 (by kernel_rfl) rfl #[.slice A317_0 ((rd_T44 l0 x5_1).f0).length c317_0, .int .i64 x1_1] rfl (by simp only [List.map_toArray, List.map_cons, List.map_nil]; rfl) ?_; (with_reducible refine (laws_heldFrameS.calls k1 _ _ ((rd_T44 l0 x5_1).f0) x1_1 t318 _ ?side1 ?side2 A5.out).mono ?_); (case side1 => repeat (first | exact HR317_0.out | (with_reducible first | refine cA ?_ _ | refine cN ?_ _ | refine cD ?_))); (case side2 => exact HC317_0.out); rintro e w' ⟨rfl, ⟨nd, rfl⟩⟩; refine ⟨_, rfl, ?_⟩))
       go_ret
       exact ⟨by first | rfl | (simp; done) | (simp [*]; done), by repeat (first | exact Drawn0.refl _ | apply Drawn0.step)⟩
     · rw [if_neg c6] at H
       (have c6b0 := decide_eq_false c6); clear c6
       by_cases c7 : ((rd_T44 l0 x5_1).f1) = t318
       · rw [if_pos c7] at H
         (have c7b0 : (((rd_T44 l0 x5_1).f1) == t318) = true := beq_iff_eq.mpr c7); (have c7b1 : (((rd_T44 l0 x5_1).f1) != t318) = false := bne_eq_false_iff_eq.mpr c7); clear c7
         by_cases c8 : ((rd_T44 l0 x5_1).f2) = (wrap64 (t318 + 1))
         · rw [if_pos c8] at H
           (have c8b0 : (((rd_T44 l0 x5_1).f2) == (wrap64 (t318 + 1))) = true := beq_iff_eq.mpr c8); (have c8b1 : (((rd_T44 l0 x5_1).f2) != (wrap64 (t318 + 1))) = false := bne_eq_false_iff_eq.mpr c8); clear c8
           by_cases c9 : (((rd_T44 l0 x5_1).f3) != ((Int.tmod (wrap64 ((wrap64 (t318 + 1)) + 1)) 3) == 0)) = true
           · rw [if_pos c9] at H
             (have c9b0 : (((rd_T44 l0 x5_1).f3) != ((Int.tmod (wrap64 ((wrap64 (t318 + 1)) + 1)) 3) == 0)) = true := c9); ((try (have c9b1 : decide (((rd_T44 l0 x5_1).f3) = ((Int.tmod (wrap64 ((wrap64 (t318 + 1)) + 1)) 3) == 0)) = false := by simpa using c9))); ((try (have c9b2 : (((rd_T44 l0 x5_1).f3) == ((Int.tmod (wrap64 ((wrap64 (t318 + 1)) + 1)) 3) == 0)) = false := by simpa using c9))); ((try (have c9b3 : ¬ (((rd_T44 l0 x5_1).f3) = ((Int.tmod (wrap64 ((wrap64 (t318 + 1)) + 1)) 3) == 0)) := by simpa using c9))); clear c9; (obtain rfl := Option.some.inj H); (have p317 : 0 ≤ (x5_1 : Int) := od (by assumption)); (have q317 : x5_1 < (l0.length : Int) := od (by assumption)); (obtain ⟨ad317, A317_0, c317_0, e317, hx317_0, hx317_1, hx317_2, hx317_3, hl317_0, hi317_0⟩ := at_T44 HR0.out x5_1 p317 q317)
             cases e317
             (have HR317_0 := aM hi317_0); (have HC317_0 := aM hl317_0); clear hi317_0 hl317_0; (replace p317 := eq_true p317); (replace q317 := eq_true q317)
             go_wp2_with (first | ((with_reducible refine gate_callee (f := 31) rfl ?_); refine goesL_ (some 18) rfl rfl Try.func31 (by kernel_rfl) rfl #[.slice A317_0 ((rd_T44 l0 x5_1).f0).length c317_0, .int .i64 x1_1] rfl (by simp only [List.map_toArray, List.map_cons, List.map_nil]; rfl) ?_; (with_reducible refine (laws_heldFrameS.calls k1 _ _ ((rd_T44 l0 x5_1).f0) x1_1 t318 _ ?side1 ?side2 A5.out).mono ?_); (case side1 => repeat (first | exact HR317_0.out | (with_reducible first | refine cA ?_ _ | refine cN ?_ _ | refine cD ?_))); (case side2 => exact HC317_0.out); rintro e w' ⟨rfl, ⟨nd, rfl⟩⟩; refine ⟨_, rfl, ?_⟩; have p319 : 0 ≤ (x5_1 : Int) := od (by assumption); have q319 : x5_1 < (l0.length : Int) := od (by assumption); obtain ⟨ad319, A319_0, c319_0, e319, hx319_0, hx319_1, hx319_2, hx319_3, hl319_0, hi319_0⟩ := at_T44 HR0.out x5_1 p319 q319; obtain rfl : ad317 = ad319 := (by injection e319); have HR319_0 := aM hi319_0; have HC319_0 := aM hl319_0; clear hi319_0 hl319_0; replace p319 := eq_true p319; replace q319 := eq_true q319; have ea_ := Option.some.inj (hx317_0.symm.trans hx319_0); injection ea_ with ea_ en_ ec_; subst ea_; subst ec_; clear en_; have p320 : 0 ≤ (x5_1 : Int) := od (by assumption); have q320 : x5_1 < (l0.length : Int) := od (by assumption); obtain ⟨ad320, A320_0, c320_0, e320, hx320_0, hx320_1, hx320_2, hx320_3, hl320_0, hi320_0⟩ := at_T44 HR0.out x5_1 p320 q320; obtain rfl : ad317 = ad320 := (by injection e320); have HR320_0 := aM hi320_0; have HC320_0 := aM hl320_0; clear hi320_0 hl320_0; replace p320 := eq_true p320; replace q320 := eq_true q320; have ea_ := Option.some.inj (hx317_0.symm.trans hx320_0); injection ea_ with ea_ en_ ec_; subst ea_; subst ec_; clear en_; have p321 : 0 ≤ (x5_1 : Int) := od (by assumption); have q321 : x5_1 < (l0.length : Int) := od (by assumption); obtain ⟨ad321, A321_0, c321_0, e321, hx321_0, hx321_1, hx321_2, hx321_3, hl321_0, hi321_0⟩ := at_T44 HR0.out x5_1 p321 q321; obtain rfl : ad317 = ad321 := (by injection e321); have HR321_0 := aM hi321_0; have HC321_0 := aM hl321_0; clear hi321_0 hl321_0; replace p321 := eq_true p321; replace q321 := eq_true q321; have ea_ := Option.some.inj (hx317_0.symm.trans hx321_0); injection ea_ with ea_ en_ ec_; subst ea_; subst ec_; clear en_))
             go_ret
             exact ⟨by first | rfl | (simp; done) | (simp [*]; done), by repeat (first | exact Drawn0.refl _ | apply Drawn0.step)⟩
           · rw [if_neg c9] at H
             (have c9b0 : (((rd_T44 l0 x5_1).f3) != ((Int.tmod (wrap64 ((wrap64 (t318 + 1)) + 1)) 3) == 0)) = false := by simpa using c9); ((try (have c9b1 : decide (((rd_T44 l0 x5_1).f3) = ((Int.tmod (wrap64 ((wrap64 (t318 + 1)) + 1)) 3) == 0)) = true := by simpa using c9))); ((try (have c9b2 : (((rd_T44 l0 x5_1).f3) == ((Int.tmod (wrap64 ((wrap64 (t318 + 1)) + 1)) 3) == 0)) = true := by simpa using c9))); clear c9; (have H' := aM H); clear H; (have p317 : 0 ≤ (x5_1 : Int) := od (by assumption)); (have q317 : x5_1 < (l0.length : Int) := od (by assumption)); (obtain ⟨ad317, A317_0, c317_0, e317, hx317_0, hx317_1, hx317_2, hx317_3, hl317_0, hi317_0⟩ := at_T44 HR0.out x5_1 p317 q317)
             cases e317
             (have HR317_0 := aM hi317_0); (have HC317_0 := aM hl317_0); clear hi317_0 hl317_0; (replace p317 := eq_true p317); (replace q317 := eq_true q317)
             go_wp2_with (first | ((with_reducible refine gate_callee (f := 31) rfl ?_); refine goesL_ (some 18) rfl rfl Try.func31 (by kernel_rfl) rfl #[.slice A317_0 ((rd_T44 l0 x5_1).f0).length c317_0, .int .i64 x1_1] rfl (by simp only [List.map_toArray, List.map_cons, List.map_nil]; rfl) ?_; (with_reducible refine (laws_heldFrameS.calls k1 _ _ ((rd_T44 l0 x5_1).f0) x1_1 t318 _ ?side1 ?side2 A5.out).mono ?_); (case side1 => repeat (first | exact HR317_0.out | (with_reducible first | refine cA ?_ _ | refine cN ?_ _ | refine cD ?_))); (case side2 => exact HC317_0.out); rintro e w' ⟨rfl, ⟨nd, rfl⟩⟩; refine ⟨_, rfl, ?_⟩; have p319 : 0 ≤ (x5_1 : Int) := od (by assumption); have q319 : x5_1 < (l0.length : Int) := od (by assumption); obtain ⟨ad319, A319_0, c319_0, e319, hx319_0, hx319_1, hx319_2, hx319_3, hl319_0, hi319_0⟩ := at_T44 HR0.out x5_1 p319 q319; obtain rfl : ad317 = ad319 := (by injection e319); have HR319_0 := aM hi319_0; have HC319_0 := aM hl319_0; clear hi319_0 hl319_0; replace p319 := eq_true p319; replace q319 := eq_true q319; have ea_ := Option.some.inj (hx317_0.symm.trans hx319_0); injection ea_ with ea_ en_ ec_; subst ea_; subst ec_; clear en_; have p320 : 0 ≤ (x5_1 : Int) := od (by assumption); have q320 : x5_1 < (l0.length : Int) := od (by assumption); obtain ⟨ad320, A320_0, c320_0, e320, hx320_0, hx320_1, hx320_2, hx320_3, hl320_0, hi320_0⟩ := at_T44 HR0.out x5_1 p320 q320; obtain rfl : ad317 = ad320 := (by injection e320); have HR320_0 := aM hi320_0; have HC320_0 := aM hl320_0; clear hi320_0 hl320_0; replace p320 := eq_true p320; replace q320 := eq_true q320; have ea_ := Option.some.inj (hx317_0.symm.trans hx320_0); injection ea_ with ea_ en_ ec_; subst ea_; subst ec_; clear en_; have p321 : 0 ≤ (x5_1 : Int) := od (by assumption); have q321 : x5_1 < (l0.length : Int) := od (by assumption); obtain ⟨ad321, A321_0, c321_0, e321, hx321_0, hx321_1, hx321_2, hx321_3, hl321_0, hi321_0⟩ := at_T44 HR0.out x5_1 p321 q321; obtain rfl : ad317 = ad321 := (by injection e321); have HR321_0 := aM hi321_0; have HC321_0 := aM hl321_0; clear hi321_0 hl321_0; replace p321 := eq_true p321; replace q321 := eq_true q321; have ea_ := Option.some.inj (hx317_0.symm.trans hx321_0); injection ea_ with ea_ en_ ec_; subst ea_; subst ec_; clear en_))
             go_roundg k1
             case measure => have := HK1.out; omega
             case rel => exact ⟨(wrap64 ((wrap64 ((wrap64 (t318 + 1)) + 1)) + 1)), (wrap64 (x5_1 + 1)), (by first | rfl | simp | simp [*]), (by first | rfl | simp | simp [*]), H', ⟨by have := HK1.out; omega⟩, by repeat (first | exact Drawn0.refl _ | apply Drawn0.step)⟩
         · rw [if_neg c8] at H
           (have c8b0 : (((rd_T44 l0 x5_1).f2) == (wrap64 (t318 + 1))) = false := beq_eq_false_iff_ne.mpr c8); (have c8b1 : (((rd_T44 l0 x5_1).f2) != (wrap64 (t318 + 1))) = true := bne_iff_ne.mpr c8); (obtain rfl := Option.some.inj H); (have p317 : 0 ≤ (x5_1 : Int) := od (by assumption)); (have q317 : x5_1 < (l0.length : Int) := od (by assumption)); (obtain ⟨ad317, A317_0, c317_0, e317, hx317_0, hx317_1, hx317_2, hx317_3, hl317_0, hi317_0⟩ := at_T44 HR0.out x5_1 p317 q317)
           cases e317
           (have HR317_0 := aM hi317_0); (have HC317_0 := aM hl317_0); clear hi317_0 hl317_0; (replace p317 := eq_true p317); (replace q317 := eq_true q317)
           go_wp2_with (first | ((with_reducible refine gate_callee (f := 31) rfl ?_); refine goesL_ (some 18) rfl rfl Try.func31 (by kernel_rfl) rfl #[.slice A317_0 ((rd_T44 l0 x5_1).f0).length c317_0, .int .i64 x1_1] rfl (by simp only [List.map_toArray, List.map_cons, List.map_nil]; rfl) ?_; (with_reducible refine (laws_heldFrameS.calls k1 _ _ ((rd_T44 l0 x5_1).f0) x1_1 t318 _ ?side1 ?side2 A5.out).mono ?_); (case side1 => repeat (first | exact HR317_0.out | (with_reducible first | refine cA ?_ _ | refine cN ?_ _ | refine cD ?_))); (case side2 => exact HC317_0.out); rintro e w' ⟨rfl, ⟨nd, rfl⟩⟩; refine ⟨_, rfl, ?_⟩; have p319 : 0 ≤ (x5_1 : Int) := od (by assumption); have q319 : x5_1 < (l0.length : Int) := od (by assumption); obtain ⟨ad319, A319_0, c319_0, e319, hx319_0, hx319_1, hx319_2, hx319_3, hl319_0, hi319_0⟩ := at_T44 HR0.out x5_1 p319 q319; obtain rfl : ad317 = ad319 := (by injection e319); have HR319_0 := aM hi319_0; have HC319_0 := aM hl319_0; clear hi319_0 hl319_0; replace p319 := eq_true p319; replace q319 := eq_true q319; have ea_ := Option.some.inj (hx317_0.symm.trans hx319_0); injection ea_ with ea_ en_ ec_; subst ea_; subst ec_; clear en_; have p320 : 0 ≤ (x5_1 : Int) := od (by assumption); have q320 : x5_1 < (l0.length : Int) := od (by assumption); obtain ⟨ad320, A320_0, c320_0, e320, hx320_0, hx320_1, hx320_2, hx320_3, hl320_0, hi320_0⟩ := at_T44 HR0.out x5_1 p320 q320; obtain rfl : ad317 = ad320 := (by injection e320); have HR320_0 := aM hi320_0; have HC320_0 := aM hl320_0; clear hi320_0 hl320_0; replace p320 := eq_true p320; replace q320 := eq_true q320; have ea_ := Option.some.inj (hx317_0.symm.trans hx320_0); injection ea_ with ea_ en_ ec_; subst ea_; subst ec_; clear en_))
           go_ret
           exact ⟨by first | rfl | (simp; done) | (simp [*]; done), by repeat (first | exact Drawn0.refl _ | apply Drawn0.step)⟩
       · rw [if_neg c7] at H
         (have c7b0 : (((rd_T44 l0 x5_1).f1) == t318) = false := beq_eq_false_iff_ne.mpr c7); (have c7b1 : (((rd_T44 l0 x5_1).f1) != t318) = true := bne_iff_ne.mpr c7); (obtain rfl := Option.some.inj H); (have p317 : 0 ≤ (x5_1 : Int) := od (by assumption)); (have q317 : x5_1 < (l0.length : Int) := od (by assumption)); (obtain ⟨ad317, A317_0, c317_0, e317, hx317_0, hx317_1, hx317_2, hx317_3, hl317_0, hi317_0⟩ := at_T44 HR0.out x5_1 p317 q317)
         cases e317
         (have HR317_0 := aM hi317_0); (have HC317_0 := aM hl317_0); clear hi317_0 hl317_0; (replace p317 := eq_true p317); (replace q317 := eq_true q317)
         go_wp2_with (first | ((with_reducible refine gate_callee (f := 31) rfl ?_); refine goesL_ (some 18) rfl rfl Try.func31 (by kernel_rfl) rfl #[.slice A317_0 ((rd_T44 l0 x5_1).f0).length c317_0, .int .i64 x1_1] rfl (by simp only [List.map_toArray, List.map_cons, List.map_nil]; rfl) ?_; (with_reducible refine (laws_heldFrameS.calls k1 _ _ ((rd_T44 l0 x5_1).f0) x1_1 t318 _ ?side1 ?side2 A5.out).mono ?_); (case side1 => repeat (first | exact HR317_0.out | (with_reducible first | refine cA ?_ _ | refine cN ?_ _ | refine cD ?_))); (case side2 => exact HC317_0.out); rintro e w' ⟨rfl, ⟨nd, rfl⟩⟩; refine ⟨_, rfl, ?_⟩; have p319 : 0 ≤ (x5_1 : Int) := od (by assumption); have q319 : x5_1 < (l0.length : Int) := od (by assumption); obtain ⟨ad319, A319_0, c319_0, e319, hx319_0, hx319_1, hx319_2, hx319_3, hl319_0, hi319_0⟩ := at_T44 HR0.out x5_1 p319 q319; obtain rfl : ad317 = ad319 := (by injection e319); have HR319_0 := aM hi319_0; have HC319_0 := aM hl319_0; clear hi319_0 hl319_0; replace p319 := eq_true p319; replace q319 := eq_true q319; have ea_ := Option.some.inj (hx317_0.symm.trans hx319_0); injection ea_ with ea_ en_ ec_; subst ea_; subst ec_; clear en_))
         go_ret
         exact ⟨by first | rfl | (simp; done) | (simp [*]; done), by repeat (first | exact Drawn0.refl _ | apply Drawn0.step)⟩
   · rw [if_neg c3] at H
     (have c3b0 := decide_eq_false c3); clear c3; (obtain rfl := Option.some.inj H)
     go_wp2
     go_ret
     exact ⟨by first | rfl | (simp; done) | (simp [*]; done), by repeat (first | exact Drawn0.refl _ | apply Drawn0.step)⟩

end Go.Proofs.Ytdiibgbekjlmlaa.PFnExactRunBus
