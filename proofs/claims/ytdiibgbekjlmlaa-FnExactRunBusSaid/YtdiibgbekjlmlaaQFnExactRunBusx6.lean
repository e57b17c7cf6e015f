-- Written by this session's own program for the law FnExactRunBus; it began as the print's text.
import Derived.Test.YtdiibgbekjlmlaaQFnExactRunBusx0
import Derived.Test.YtdiibgbekjlmlaaQFnExactRunBusx5
namespace Go.Proofs.Ytdiibgbekjlmlaa.PFnExactRunBus
open Go.RowKit Go.Proofs.YtdiibgbekjlmlaaW.PrintWords Go.Proofs.YtdiibgbekjlmlaaW.PrintLast Go.Proofs.YtdiibgbekjlmlaaW.PrintMore
open Go.Proofs.YtdiibgbekjlmlaaW.PrintWords renaming below_alloc → zA, pw_below_drewN → zN, below_drew1 → zD, below_set → zS, below_size → zZ, below_step → zP, blk_below → zB, blk_put → zU
open Go.Proofs.YtdiibgbekjlmlaaW.PrintWords.Aside0 renaming mk → aM
open Go.Proofs.YtdiibgbekjlmlaaW.PrintWords.Kd renaming C_alloc → cA, C_drewN → cN, C_drew → cD
attribute [local go_sem] max2_int min2_int max_two min_two max_three min_three max_four min_four   -- for this text's walks alone
set_option linter.unusedVariables false
set_option linter.unusedSimpArgs false

theorem of_ite_none6 {α : Type} {c : Prop} [Decidable c] {x : Option α} {r : α} (h : (if c then x else none) = some r) : c ∧ x = some r := by
 by_cases hc : c
 · exact ⟨hc, by rw [if_pos hc] at h; exact h⟩
 · rw [if_neg hc] at h; exact absurd h (by simp)

/-! ### impl_goodTalker: function 23 -/
def impl_goodTalker.l0 : Nat → List (S49) → Int → Int → List (S49) → Int → Int → Bool → Option (Bool)
 | 0, _, _, _, _, _, _, _ => none
 | k + 1, x6, x7, x8, x241000, x241001, x241002, x241003 => if x8 < x7 then (if 0 ≤ x8 then (if x8 < (x6.length : Int) then ((impl_GoodFrame.f ((rd_T49 x6 x8).f0) ((rd_T49 x6 x8).f1)).bind fun t243 => (if t243 = true then (impl_goodTalker.l0 k x6 x7 (wrap64 (x8 + 1)) x241000 x241001 x241002 x241003) else (some false))) else (none)) else (none)) else (if (x241000.length : Int) ≤ 8 then ((impl_between.f x241001 1 10).bind fun t244 => (if t244 = true then ((impl_between.f x241002 0 255).bind fun t245 => (if t245 = true then (some (x241003 == (x241002 == 255))) else (some false))) else (some false))) else (some false))
def impl_goodTalker.f (k : Nat) (l0_0 : List (S49)) (a0_1 : Int) (a0_2 : Int) (a0_3 : Bool) : Option (Bool) := impl_goodTalker.l0 k l0_0 (l0_0.length : Int) 0 l0_0 a0_1 a0_2 a0_3
set_option maxHeartbeats 8000000 in
set_option maxRecDepth 100000 in
theorem impl_goodTalker.calls (k : Nat) (A0_0 : Option Addr) (c0_0 : Nat) (l0_0 : List (S49)) (a0_1 : Int) (a0_2 : Int) (a0_3 : Bool) (r : Bool) (w : World) (hr0_0 : Kd.C k49 w A0_0 l0_0.length l0_0) (hc0_0 : l0_0.length ≤ c0_0) (h : impl_goodTalker.f k l0_0 a0_1 a0_2 a0_3 = some r) :
 Calls Try.prog 23 #[.agg #[.slice A0_0 l0_0.length c0_0, .int .i64 a0_1, .int .i64 a0_2, .bool a0_3]] w fun e w' => e = .returned (.bool r) ∧ Below w.heap.size w w' := by
 have hu44 := Try.underlying44
 have hu49 := Try.underlying49
 have HR0_0 := aM hr0_0
 have HC0_0 := aM hc0_0
 clear hr0_0 hc0_0
 have HB := aM (Below.refl w.heap.size w)
 have H : (impl_goodTalker.l0 k l0_0 (l0_0.length : Int) 0 l0_0 a0_1 a0_2 a0_3) = some r := h
 clear h
 have H' := aM H
 clear H
 go_enter Try.func23, Try.ntmps23
 go_wp2_with (first | ((with_reducible refine gate_dst (N := 1) rfl ?_); refine box_event ?hg (N := 1) ?hd (cs := #[.slice A0_0 l0_0.length c0_0, .int .i64 a0_1, .int .i64 a0_2, .bool a0_3]) (t := 44) ?hr ?_; (case hd => rfl); (case hg => rfl); (case hr => first | (go_simp; done) | (go_simp; rfl)); intro gb240 hg w2 hbox hb; have n0_ := aM (zP (by repeat (with_reducible first | exact HB.out | apply zA | apply zN | apply zD)) hb); have n1_ := aM (hbox); have n2_ := aM ((by rw [hg]; exact (zZ (by repeat (with_reducible first | exact HB.out | apply zA | apply zN | apply zD))) : w.heap.size ≤ gb240)); have n3_ := n2_; clear HB; have HB := n0_; have BK240 := n1_; have GW240 := n2_; have GE240 := n3_; clear n0_ n1_ n2_ n3_; clear hb hbox hg; obtain ⟨a3_0, a3_1, a3_2, a3_3, b3_0, b3_1, b3_2, b3_3⟩ := cz4 BK240.out))
 go_loopg [8] k (fun kq v8 w' => ∃ (x8_1 : Int), v8 = .int .i64 x8_1 ∧ Aside0 (impl_goodTalker.l0 kq l0_0 (l0_0.length : Int) x8_1 l0_0 a0_1 a0_2 a0_3 = some r) ∧ Aside0 (kq ≤ k) ∧ Aside0 (w'.heap[gb240]? = some (.cells #[(.slice A0_0 l0_0.length c0_0), .int .i64 a0_1, .int .i64 a0_2, .bool a0_3] 44 (0, 0))) ∧ Aside0 (Below w.heap.size w w'))
 case atStart => exact ⟨(0), (by first | rfl | simp | simp [*]), H', ⟨Nat.le_refl _⟩, ⟨by exact BK240.out⟩, ⟨by repeat (with_reducible first | exact HB.out | apply zA | apply zN | apply zD | refine zS ?_ GE240.out)⟩⟩
 case round =>
  clear H'; (obtain ⟨x8_1, rfl, HA, HK1, BK240, HB⟩ := hrel)
  cases gk with
  | zero => exact absurd HA.out (by simp [impl_goodTalker.l0])
  | succ k1 =>
   have H := HA.out; clear HA; (simp only [impl_goodTalker.l0] at H)
   by_cases c4 : x8_1 < (l0_0.length : Int)
   · rw [if_pos c4] at H
     (have c4b0 := decide_eq_true c4); clear c4; (obtain ⟨c5, H⟩ := of_ite_none6 H); (have c5b0 := decide_eq_true c5); clear c5; (obtain ⟨c6, H⟩ := of_ite_none6 H); (have c6b0 := decide_eq_true c6); clear c6; (replace H := Option.bind_eq_some_iff.mp H); (obtain ⟨t243, A70, H⟩ := H); (replace H : (if t243 = true then (impl_goodTalker.l0 k1 l0_0 (l0_0.length : Int) (wrap64 (x8_1 + 1)) l0_0 a0_1 a0_2 a0_3) else (some false)) = some r := H); (have A7 := aM A70); clear A70
     by_cases c8 : t243 = true
     · subst c8
       (have H1 : (impl_goodTalker.l0 k1 l0_0 (l0_0.length : Int) (wrap64 (x8_1 + 1)) l0_0 a0_1 a0_2 a0_3) = some r := by rw [if_pos rfl] at H; exact H); clear H; have H := H1; clear H1; (have H' := aM H); clear H; (have p241 : 0 ≤ (x8_1 : Int) := od (by assumption)); (have q241 : x8_1 < (l0_0.length : Int) := od (by assumption)); (obtain ⟨ad241, A241_1, c241_1, e241, hx241_0, hx241_1, hl241_1, hi241_1⟩ := at_T49 HR0_0.out x8_1 p241 q241)
       cases e241
       (first | replace hx241_0 := (HB.out.cell (World.block_lt_of_cell? w _ hx241_0)).trans hx241_0 | skip)
       (first | replace hx241_1 := (HB.out.cell (World.block_lt_of_cell? w _ hx241_1)).trans hx241_1 | skip)
       (have HR241_1 := aM hi241_1); (have HC241_1 := aM hl241_1); clear hi241_1 hl241_1; (replace p241 := eq_true p241); (replace q241 := eq_true q241)
       go_wp2_with (first | ((with_reducible refine gate_dst (N := 4) rfl ?_); refine box_event ?hg (N := 4) ?hd (cs := #[.int .i64 0, .slice none 0 0]) (t := 49) ?hr ?_; (case hd => rfl); (case hg => rfl); (case hr => first | (go_simp; done) | (go_simp; rfl)); intro gb242 hg w9 hbox hb; have n0_ := aM (zB (g := gb240) (o := .cells #[.slice (some ad241) l0_0.length c0_0, .int .i64 a0_1, .int .i64 a0_2, .bool a0_3] 44 (0, 0)) BK240.out hb); have n1_ := aM (zP (by repeat (with_reducible first | exact HB.out | apply zA | apply zN | apply zD | refine zS ?_ GE240.out)) hb); have n2_ := aM (hbox); have n3_ := aM ((by rw [hg]; exact (zZ (by repeat (with_reducible first | exact HB.out | apply zA | apply zN | apply zD | refine zS ?_ GE240.out))) : w.heap.size ≤ gb242)); have n4_ := n3_; have n5_ := aM ((by rw [hg]; exact Nat.ne_of_lt (blk_lt (g := gb240) (o := .cells #[.slice (some ad241) l0_0.length c0_0, .int .i64 a0_1, .int .i64 a0_2, .bool a0_3] 44 (0, 0)) BK240.out) : gb240 ≠ gb242)); have n6_ := aM ((by rw [hg]; exact Nat.ne_of_gt (blk_lt (g := gb240) (o := .cells #[.slice (some ad241) l0_0.length c0_0, .int .i64 a0_1, .int .i64 a0_2, .bool a0_3] 44 (0, 0)) BK240.out) : gb242 ≠ gb240)); clear BK240; clear HB; have BK240 := n0_; have HB := n1_; have BK242 := n2_; have GW242 := n3_; have GE242 := n4_; have NB240_242 := n5_; have NB242_240 := n6_; clear n0_ n1_ n2_ n3_ n4_ n5_ n6_; clear hb hbox hg; have hnb10 := NB242_240.out; have hnc10 := NB240_242.out; obtain ⟨a11_0, a11_1, b11_0, b11_1⟩ := cz2 BK242.out) | ((with_reducible refine gate_callee (f := 35) rfl ?_); refine goesL_ (some 13) rfl rfl Try.func35 (by kernel_rfl) rfl #[.agg #[.int .i64 ((rd_T49 l0_0 x8_1).f0), .slice A241_1 ((rd_T49 l0_0 x8_1).f1).length c241_1]] rfl (by simp only [List.map_toArray, List.map_cons, List.map_nil]; rfl) ?_; (with_reducible refine (impl_GoodFrame.calls ((rd_T49 l0_0 x8_1).f0) _ _ ((rd_T49 l0_0 x8_1).f1) true _ ?side1 ?side2 A7.out).mono ?_); (case side1 => exact Kd.C_below HR241_1.out (by repeat (with_reducible first | exact HB.out | apply zA | apply zN | apply zD | refine zS ?_ GE240.out | refine zS ?_ GE242.out))); (case side2 => exact HC241_1.out); rintro e w12 ⟨rfl, hb⟩; refine ⟨_, rfl, ?_⟩; have n0_ := aM (zB (g := gb240) (o := .cells #[.slice (some ad241) l0_0.length c0_0, .int .i64 a0_1, .int .i64 a0_2, .bool a0_3] 44 (0, 0)) (by refine blk_far ?_ NB240_242.out _; refine blk_far ?_ NB240_242.out _; exact BK240.out) hb); have n1_ := aM (zB (g := gb242) (o := .cells #[.int .i64 ((rd_T49 l0_0 x8_1).f0), .slice A241_1 ((rd_T49 l0_0 x8_1).f1).length c241_1] 49 (0, 0)) (by refine zU (cs := #[.int .i64 ((rd_T49 l0_0 x8_1).f0), .slice none 0 0]) ?_ 1 _ rfl; refine zU (cs := #[.int .i64 0, .slice none 0 0]) ?_ 0 _ rfl; exact BK242.out) hb); have n2_ := aM (zP (by repeat (with_reducible first | exact HB.out | apply zA | apply zN | apply zD | refine zS ?_ GE240.out | refine zS ?_ GE242.out)) hb); clear BK240; clear BK242; clear HB; have BK240 := n0_; have BK242 := n1_; have HB := n2_; clear n0_ n1_ n2_; ))
       go_roundg k1
       case measure => have := HK1.out; omega
       case rel => exact ⟨(wrap64 (x8_1 + 1)), (by first | rfl | simp | simp [*]), H', ⟨by have := HK1.out; omega⟩, ⟨by exact BK240.out⟩, ⟨by repeat (with_reducible first | exact HB.out | apply zA | apply zN | apply zD | refine zS ?_ GE240.out | refine zS ?_ GE242.out)⟩⟩
     · replace c8 := Bool.eq_false_iff.mpr c8
       subst c8; (have H1 : (some false) = some r := by rw [if_neg (show ¬ (false = true) by decide)] at H; exact H); clear H; have H := H1; clear H1; (obtain rfl := Option.some.inj H); (have p241 : 0 ≤ (x8_1 : Int) := od (by assumption)); (have q241 : x8_1 < (l0_0.length : Int) := od (by assumption)); (obtain ⟨ad241, A241_1, c241_1, e241, hx241_0, hx241_1, hl241_1, hi241_1⟩ := at_T49 HR0_0.out x8_1 p241 q241)
       cases e241
       (first | replace hx241_0 := (HB.out.cell (World.block_lt_of_cell? w _ hx241_0)).trans hx241_0 | skip)
       (first | replace hx241_1 := (HB.out.cell (World.block_lt_of_cell? w _ hx241_1)).trans hx241_1 | skip)
       (have HR241_1 := aM hi241_1); (have HC241_1 := aM hl241_1); clear hi241_1 hl241_1; (replace p241 := eq_true p241); (replace q241 := eq_true q241)
       go_wp2_with (first | ((with_reducible refine gate_dst (N := 4) rfl ?_); refine box_event ?hg (N := 4) ?hd (cs := #[.int .i64 0, .slice none 0 0]) (t := 49) ?hr ?_; (case hd => rfl); (case hg => rfl); (case hr => first | (go_simp; done) | (go_simp; rfl)); intro gb242 hg w13 hbox hb; have n0_ := aM (zB (g := gb240) (o := .cells #[.slice (some ad241) l0_0.length c0_0, .int .i64 a0_1, .int .i64 a0_2, .bool a0_3] 44 (0, 0)) BK240.out hb); have n1_ := aM (zP (by repeat (with_reducible first | exact HB.out | apply zA | apply zN | apply zD | refine zS ?_ GE240.out)) hb); have n2_ := aM (hbox); have n3_ := aM ((by rw [hg]; exact (zZ (by repeat (with_reducible first | exact HB.out | apply zA | apply zN | apply zD | refine zS ?_ GE240.out))) : w.heap.size ≤ gb242)); have n4_ := n3_; have n5_ := aM ((by rw [hg]; exact Nat.ne_of_lt (blk_lt (g := gb240) (o := .cells #[.slice (some ad241) l0_0.length c0_0, .int .i64 a0_1, .int .i64 a0_2, .bool a0_3] 44 (0, 0)) BK240.out) : gb240 ≠ gb242)); have n6_ := aM ((by rw [hg]; exact Nat.ne_of_gt (blk_lt (g := gb240) (o := .cells #[.slice (some ad241) l0_0.length c0_0, .int .i64 a0_1, .int .i64 a0_2, .bool a0_3] 44 (0, 0)) BK240.out) : gb242 ≠ gb240)); clear BK240; clear HB; have BK240 := n0_; have HB := n1_; have BK242 := n2_; have GW242 := n3_; have GE242 := n4_; have NB240_242 := n5_; have NB242_240 := n6_; clear n0_ n1_ n2_ n3_ n4_ n5_ n6_; clear hb hbox hg; have hnb14 := NB242_240.out; have hnc14 := NB240_242.out; obtain ⟨a15_0, a15_1, b15_0, b15_1⟩ := cz2 BK242.out) | ((with_reducible refine gate_callee (f := 35) rfl ?_); refine goesL_ (some 13) rfl rfl Try.func35 (by kernel_rfl) rfl #[.agg #[.int .i64 ((rd_T49 l0_0 x8_1).f0), .slice A241_1 ((rd_T49 l0_0 x8_1).f1).length c241_1]] rfl (by simp only [List.map_toArray, List.map_cons, List.map_nil]; rfl) ?_; (with_reducible refine (impl_GoodFrame.calls ((rd_T49 l0_0 x8_1).f0) _ _ ((rd_T49 l0_0 x8_1).f1) false _ ?side1 ?side2 A7.out).mono ?_); (case side1 => exact Kd.C_below HR241_1.out (by repeat (with_reducible first | exact HB.out | apply zA | apply zN | apply zD | refine zS ?_ GE240.out | refine zS ?_ GE242.out))); (case side2 => exact HC241_1.out); rintro e w16 ⟨rfl, hb⟩; refine ⟨_, rfl, ?_⟩; have n0_ := aM (zB (g := gb240) (o := .cells #[.slice (some ad241) l0_0.length c0_0, .int .i64 a0_1, .int .i64 a0_2, .bool a0_3] 44 (0, 0)) (by refine blk_far ?_ NB240_242.out _; refine blk_far ?_ NB240_242.out _; exact BK240.out) hb); have n1_ := aM (zB (g := gb242) (o := .cells #[.int .i64 ((rd_T49 l0_0 x8_1).f0), .slice A241_1 ((rd_T49 l0_0 x8_1).f1).length c241_1] 49 (0, 0)) (by refine zU (cs := #[.int .i64 ((rd_T49 l0_0 x8_1).f0), .slice none 0 0]) ?_ 1 _ rfl; refine zU (cs := #[.int .i64 0, .slice none 0 0]) ?_ 0 _ rfl; exact BK242.out) hb); have n2_ := aM (zP (by repeat (with_reducible first | exact HB.out | apply zA | apply zN | apply zD | refine zS ?_ GE240.out | refine zS ?_ GE242.out)) hb); clear BK240; clear BK242; clear HB; have BK240 := n0_; have BK242 := n1_; have HB := n2_; clear n0_ n1_ n2_; ))
       go_ret
       exact ⟨by first | rfl | (simp [errW_none, errW_some] <;> rfl) | (simp [*, errW_none, errW_some] <;> rfl), by repeat (with_reducible first | exact HB.out | apply zA | apply zN | apply zD | refine zS ?_ GE240.out | refine zS ?_ GE242.out)⟩
   · rw [if_neg c4] at H
     (have c4b0 := decide_eq_false c4); clear c4
     by_cases c17 : (l0_0.length : Int) ≤ 8
     · rw [if_pos c17] at H
       (have c17b0 := decide_eq_true c17); (have c17b1 : decide (l0_0.length ≤ 8) = true := decide_eq_true (by omega)); clear c17; (replace H := Option.bind_eq_some_iff.mp H); (obtain ⟨t244, A180, H⟩ := H); (replace H : (if t244 = true then ((impl_between.f a0_2 0 255).bind fun t245 => (if t245 = true then (some (a0_3 == (a0_2 == 255))) else (some false))) else (some false)) = some r := H); (have A18 := aM A180); clear A180
       by_cases c19 : t244 = true
       · subst c19
         (have H1 : ((impl_between.f a0_2 0 255).bind fun t245 => (if t245 = true then (some (a0_3 == (a0_2 == 255))) else (some false))) = some r := by rw [if_pos rfl] at H; exact H); clear H; have H := H1; clear H1; (replace H := Option.bind_eq_some_iff.mp H); (obtain ⟨t245, A200, H⟩ := H); (replace H : (if t245 = true then (some (a0_3 == (a0_2 == 255))) else (some false)) = some r := H); (have A20 := aM A200); clear A200
         by_cases c21 : t245 = true
         · subst c21
           (have H1 : (some (a0_3 == (a0_2 == 255))) = some r := by rw [if_pos rfl] at H; exact H); clear H; have H := H1; clear H1; (obtain rfl := Option.some.inj H); (obtain ⟨a22_0, a22_1, a22_2, a22_3, b22_0, b22_1, b22_2, b22_3⟩ := cz4 BK240.out)
           go_wp2_with (first | (go_at_call 22; (with_reducible refine (impl_between.calls a0_1 1 10 true _ A18.out).mono ?_); rintro e w' ⟨rfl, ⟨nd, rfl⟩⟩) | (go_at_call 22; (with_reducible refine (impl_between.calls a0_2 0 255 true _ A20.out).mono ?_); rintro e w' ⟨rfl, ⟨nd, rfl⟩⟩))
           go_ret
           exact ⟨by first | rfl | (simp [errW_none, errW_some] <;> rfl) | (simp [*, errW_none, errW_some] <;> rfl), by repeat (with_reducible first | exact HB.out | apply zA | apply zN | apply zD | refine zS ?_ GE240.out)⟩
         · replace c21 := Bool.eq_false_iff.mpr c21
           subst c21; (have H1 : (some false) = some r := by rw [if_neg (show ¬ (false = true) by decide)] at H; exact H); clear H; have H := H1; clear H1; (obtain rfl := Option.some.inj H); (obtain ⟨a23_0, a23_1, a23_2, a23_3, b23_0, b23_1, b23_2, b23_3⟩ := cz4 BK240.out)
           go_wp2_with (first | (go_at_call 22; (with_reducible refine (impl_between.calls a0_1 1 10 true _ A18.out).mono ?_); rintro e w' ⟨rfl, ⟨nd, rfl⟩⟩) | (go_at_call 22; (with_reducible refine (impl_between.calls a0_2 0 255 false _ A20.out).mono ?_); rintro e w' ⟨rfl, ⟨nd, rfl⟩⟩))
           go_ret
           exact ⟨by first | rfl | (simp [errW_none, errW_some] <;> rfl) | (simp [*, errW_none, errW_some] <;> rfl), by repeat (with_reducible first | exact HB.out | apply zA | apply zN | apply zD | refine zS ?_ GE240.out)⟩
       · replace c19 := Bool.eq_false_iff.mpr c19
         subst c19; (have H1 : (some false) = some r := by rw [if_neg (show ¬ (false = true) by decide)] at H; exact H); clear H; have H := H1; clear H1; (obtain rfl := Option.some.inj H); (obtain ⟨a24_0, a24_1, a24_2, a24_3, b24_0, b24_1, b24_2, b24_3⟩ := cz4 BK240.out)
         go_wp2_with (first | (go_at_call 22; (with_reducible refine (impl_between.calls a0_1 1 10 false _ A18.out).mono ?_); rintro e w' ⟨rfl, ⟨nd, rfl⟩⟩))
         go_ret
         exact ⟨by first | rfl | (simp [errW_none, errW_some] <;> rfl) | (simp [*, errW_none, errW_some] <;> rfl), by repeat (with_reducible first | exact HB.out | apply zA | apply zN | apply zD | refine zS ?_ GE240.out)⟩
     · rw [if_neg c17] at H
       (have c17b0 := decide_eq_false c17); (have c17b1 : decide (l0_0.length ≤ 8) = false := decide_eq_false (by omega)); clear c17; (obtain rfl := Option.some.inj H); (obtain ⟨a25_0, a25_1, a25_2, a25_3, b25_0, b25_1, b25_2, b25_3⟩ := cz4 BK240.out)
       go_wp2
       go_ret
       exact ⟨by first | rfl | (simp [errW_none, errW_some] <;> rfl) | (simp [*, errW_none, errW_some] <;> rfl), by repeat (with_reducible first | exact HB.out | apply zA | apply zN | apply zD | refine zS ?_ GE240.out)⟩

/-! ### slices_Clone_byte_byte: function 24 -/
def slices_Clone_byte_byte.f (l0 : List Int) : Option (List Int) := (some (([] : List Int) : List Int)).bind fun y246 => (if y246.length + l0.length < 140737488355328 then (some (y246 ++ l0)) else (none))
set_option maxHeartbeats 8000000 in
set_option maxRecDepth 100000 in
theorem slices_Clone_byte_byte.calls (A0 : Option Addr) (c0 : Nat) (l0 : List Int) (r : List Int) (w : World) (hr0 : Kd.C (Kd.int .u8) w A0 l0.length l0) (hc0 : l0.length ≤ c0) (h : slices_Clone_byte_byte.f l0 = some r) :
 Calls Try.prog 24 #[.slice A0 l0.length c0] w fun e w' => ∃ v0_ : Value, e = .returned (v0_) ∧ Kd.R (Kd.int .u8) 5 w' w.heap.size (fun _ => True) v0_ r ∧ Below w.heap.size w w' := by
 by_cases hA_ : A0 = none
 · subst hA_
   have hl_ : l0 = [] := by
    obtain ⟨_, _, h2⟩ := hr0
    by_cases hz : 0 < l0.length
    · obtain ⟨ad, he, _⟩ := h2 hz
      cases he
    · exact List.length_eq_zero_iff.1 (by omega)
   subst hl_; (obtain rfl : r = [] := by simpa [slices_Clone_byte_byte.f] using h.symm); (have hq_ : ∀ (w : World), (binOp .eql 47 (.slice none 0 c0) (.slice none 0 0)).run Try.prog w = .ok (.bool true) w := fun w => Go.Lib.run_eql_slice_nil w 47 _ _ _ _ 0 0 Try.underlying47)
   go_enter Try.func24, Try.ntmps24
   go_wp2
   go_ret
   exact ⟨_, rfl, Kd.R_nil _ _ _ _ _, Below.refl _ _⟩
 obtain ⟨a0_, rfl⟩ : ∃ a_, A0 = some a_ := by
  cases A0 with
  | none => exact absurd rfl hA_
  | some a => exact ⟨a, rfl⟩
 clear hA_
 have hq_ : ∀ (w : World), (binOp .eql 47 (.slice (some a0_) l0.length c0) (.slice none 0 0)).run Try.prog w = .ok (.bool false) w := fun w => Go.Lib.run_eql_slice_nil w 47 _ _ _ _ 0 0 Try.underlying47
 have HR0 := aM hr0
 have HC0 := aM hc0
 clear hr0 hc0
 have HB := aM (Below.refl w.heap.size w)
 have H : ((some (([] : List Int) : List Int)).bind fun y246 => (if y246.length + l0.length < 140737488355328 then (some (y246 ++ l0)) else (none))) = some r := h
 clear h
 obtain ⟨y246, hy246⟩ : ∃ y_ : List Int, y_ = (([] : List Int)) := ⟨_, rfl⟩
 replace H : (if y246.length + l0.length < 140737488355328 then (some (y246 ++ l0)) else (none)) = some r := by first | (rw [hy246]; with_reducible exact H) | (have H2_ := (Option.bind_some _ _).symm.trans H; rw [hy246]; with_reducible exact H2_) | (have H2_ := (Option.bind_some _ _).symm.trans H; with_reducible exact H2_) | with_reducible exact H | (rw [hy246]; exact H) | exact H
 have Ny246 := aM hy246
 clear hy246
 by_cases c2 : y246.length + l0.length < 140737488355328
 · rw [if_pos c2] at H
   (have LMc2 := aM c2); clear c2; (obtain ⟨y249, hy249⟩ : ∃ y_ : List Int, y_ = (y246 ++ l0) := ⟨_, rfl⟩); (replace H : (some y249) = some r := by first | (rw [hy249]; with_reducible exact H) | (have H2_ := (Option.bind_some _ _).symm.trans H; rw [hy249]; with_reducible exact H2_) | (have H2_ := (Option.bind_some _ _).symm.trans H; with_reducible exact H2_) | with_reducible exact H | (rw [hy249]; exact H) | exact H); (have Ny249 := aM hy249); clear hy249; (obtain rfl := Option.some.inj H)
   go_enter Try.func24, Try.ntmps24
   go_wp2_with (first | ((with_reducible refine gate_dst (N := 5) rfl ?_); refine Kd.R_lit (Kd.int .u8) _ 5 ?hg (N := 5) ?hd (xs := ([] : List Int)) (inner := []) (ok := fun _ => True) (okp := fun _ => True) ?hr ?hp (fun _ hk => hk) trivial (Below.refl _ _) (Nat.le_refl _) (by simp) ?_; (case hd => rfl); (case hg => rfl); (case hr => first | (go_simp; done) | (go_simp; rfl)); (case hp => exact (Reps.none _ _)); intro v247 w3 ho4 hb hg_ hnew_; clear hg_ hnew_; (first | rw [← Ny246.out] at ho4 | (simp only [Int.reduceToNat] at ho4; rw [← Ny246.out] at ho4)); have n0_ := aM (Kd.R_lower ho4 (zZ (by repeat (with_reducible first | exact HB.out | apply zA | apply zN | apply zD)))); have n1_ := aM (zP (by repeat (with_reducible first | exact HB.out | apply zA | apply zN | apply zD)) hb); clear HB; have HO248 := n0_; have HB := n1_; clear n0_ n1_; clear hb ho4) | ((with_reducible refine gate_builtin (b := .append) (xs := #[.tmp 5, .tmp 6]) rfl ?_); at_builtin; refine Kd.R_append_rows (Kd.int .u8) (w0 := w) w.heap.size rfl (.tmp 5) (.tmp 6) 47 5 (.int .u8 0) 1 rfl Try.underlying47 info5 rfl (by decide) (by omega) v247 y246 l0 _ _ _ (fun _ => True) (fun _ => False) rfl rfl ?aO ?aR (fun _ _ h => h) (fun _ h => h.elim) ?aF ?aB ?aS ?aL ?_; (case aR => repeat (first | exact (Kd.C_below HR0.out HB.out) | (with_reducible first | refine cA ?_ _ | refine cN ?_ _ | refine cD ?_))); (case aB => exact (by repeat (with_reducible first | exact HB.out | apply zA | apply zN | apply zD))); (case aF => exact (fun _ _ => trivial)); (case aO => exact HO248.out); (case aS => exact (zZ (by repeat (with_reducible first | exact HB.out | apply zA | apply zN | apply zD)))); (case aL => have := LMc2.out; omega); intro v250 w5 ho hb hg hat; rw [← Ny249.out] at ho; have n0_ := aM (hb); have n1_ := aM (ho); clear HB; clear HO248; have HB := n0_; have HO251 := n1_; clear n0_ n1_; clear ho hb hg hat))
   go_ret
   exact ⟨_, by first | rfl | (simp [errW_none, errW_some] <;> rfl) | (simp [*, errW_none, errW_some] <;> rfl), by exact HO251.out, by repeat (with_reducible first | exact HB.out | apply zA | apply zN | apply zD)⟩
 · rw [if_neg c2] at H
   exact absurd H (by simp)

/-! ### slices_Index_int_int: function 36 -/
def slices_Index_int_int.l0 : Nat → List Int → Int → Int → Int → Option (Int)
 | 0, _, _, _, _ => none
 | k + 1, x0, x1, x7, x8 => if x8 < x7 then (if 0 ≤ x8 then (if x8 < (x0.length : Int) then (if x1 = (rd x0 x8) then (some x8) else (slices_Index_int_int.l0 k x0 x1 x7 (wrap64 (x8 + 1)))) else (none)) else (none)) else (some (-1))
def slices_Index_int_int.f (k : Nat) (l0 : List Int) (a1 : Int) : Option (Int) := slices_Index_int_int.l0 k l0 a1 (l0.length : Int) 0
set_option maxHeartbeats 8000000 in
set_option maxRecDepth 100000 in
theorem slices_Index_int_int.calls (k : Nat) (A0 : Option Addr) (c0 : Nat) (l0 : List Int) (a1 : Int) (r : Int) (w : World) (hr0 : Kd.C (Kd.int .i64) w A0 l0.length l0) (hc0 : l0.length ≤ c0) (h : slices_Index_int_int.f k l0 a1 = some r) :
 Calls Try.prog 36 #[.slice A0 l0.length c0, .int .i64 a1] w fun e w' => e = .returned (.int .i64 r) ∧ Drawn0 w w' := by
 have HR0 := aM hr0
 have HC0 := aM hc0
 clear hr0 hc0
 have H : (slices_Index_int_int.l0 k l0 a1 (l0.length : Int) 0) = some r := h
 clear h
 have H' := aM H
 clear H
 go_enter Try.func36, Try.ntmps36
 go_wp2
 go_loopg [8] k (fun kq v8 w' => ∃ (x8_1 : Int), v8 = .int .i64 x8_1 ∧ Aside0 (slices_Index_int_int.l0 kq l0 a1 (l0.length : Int) x8_1 = some r) ∧ Aside0 (kq ≤ k) ∧ Drawn0 w w')
 case atStart => exact ⟨(0), (by first | rfl | simp | simp [*]), H', ⟨Nat.le_refl _⟩, by repeat (first | exact Drawn0.refl _ | apply Drawn0.step)⟩
 case round =>
  clear H'; (obtain ⟨x8_1, rfl, HA, HK1, ⟨m1, rfl⟩⟩ := hrel)
  cases gk with
  | zero => exact absurd HA.out (by simp [slices_Index_int_int.l0])
  | succ k1 =>
   have H := HA.out; clear HA; (simp only [slices_Index_int_int.l0] at H)
   by_cases c3 : x8_1 < (l0.length : Int)
   · rw [if_pos c3] at H
     (have c3b0 := decide_eq_true c3); clear c3; (obtain ⟨c4, H⟩ := of_ite_none6 H); (have c4b0 := decide_eq_true c4); clear c4; (obtain ⟨c5, H⟩ := of_ite_none6 H); (have c5b0 := decide_eq_true c5); clear c5
     by_cases c6 : a1 = (rd l0 x8_1)
     · rw [if_pos c6] at H
       (have c6b0 : (a1 == (rd l0 x8_1)) = true := beq_iff_eq.mpr c6); (have c6b1 : (a1 != (rd l0 x8_1)) = false := bne_eq_false_iff_eq.mpr c6); clear c6; (obtain rfl := Option.some.inj H); (have p252 : 0 ≤ (x8_1 : Int) := od (by assumption)); (have q252 : x8_1 < (l0.length : Int) := od (by assumption)); (obtain ⟨ad252, e252, hx252_0⟩ := Kd.at_int HR0.out x8_1 p252 q252)
       cases e252
       (replace p252 := eq_true p252); (replace q252 := eq_true q252)
       go_wp2
       go_ret
       exact ⟨by first | rfl | (simp; done) | (simp [*]; done), by repeat (first | exact Drawn0.refl _ | apply Drawn0.step)⟩
     · rw [if_neg c6] at H
       (have c6b0 : (a1 == (rd l0 x8_1)) = false := beq_eq_false_iff_ne.mpr c6); (have c6b1 : (a1 != (rd l0 x8_1)) = true := bne_iff_ne.mpr c6); (have H' := aM H); clear H; (have p252 : 0 ≤ (x8_1 : Int) := od (by assumption)); (have q252 : x8_1 < (l0.length : Int) := od (by assumption)); (obtain ⟨ad252, e252, hx252_0⟩ := Kd.at_int HR0.out x8_1 p252 q252)
       cases e252
       (replace p252 := eq_true p252); (replace q252 := eq_true q252)
       go_wp2
       go_roundg k1
       case measure => have := HK1.out; omega
       case rel => exact ⟨(wrap64 (x8_1 + 1)), (by first | rfl | simp | simp [*]), H', ⟨by have := HK1.out; omega⟩, by repeat (first | exact Drawn0.refl _ | apply Drawn0.step)⟩
   · rw [if_neg c3] at H
     (have c3b0 := decide_eq_false c3); clear c3; (obtain rfl := Option.some.inj H)
     go_wp2
     go_ret
     exact ⟨by first | rfl | (simp; done) | (simp [*]; done), by repeat (first | exact Drawn0.refl _ | apply Drawn0.step)⟩

end Go.Proofs.Ytdiibgbekjlmlaa.PFnExactRunBus
