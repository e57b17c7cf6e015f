-- Written by this session's own program for the law FnExactRunBus; it began as the print's text.
import Derived.Test.YtdiibgbekjlmlaaQFnExactRunBusx0
import Derived.Test.YtdiibgbekjlmlaaQFnExactRunBusx5
import Derived.Test.YtdiibgbekjlmlaaQFnExactRunBusx6
namespace Go.Proofs.Ytdiibgbekjlmlaa.PFnExactRunBus
open Go.RowKit Go.Proofs.YtdiibgbekjlmlaaW.PrintWords Go.Proofs.YtdiibgbekjlmlaaW.PrintLast Go.Proofs.YtdiibgbekjlmlaaW.PrintMore
open Go.Proofs.YtdiibgbekjlmlaaW.PrintWords renaming below_alloc → zA, pw_below_drewN → zN, below_drew1 → zD, below_set → zS, below_size → zZ, below_step → zP
open Go.Proofs.YtdiibgbekjlmlaaW.PrintWords.Aside0 renaming mk → aM
open Go.Proofs.YtdiibgbekjlmlaaW.PrintWords.Kd renaming C_alloc → cA, C_drewN → cN, C_drew → cD
attribute [local go_sem] max2_int min2_int max_two min_two max_three min_three max_four min_four   -- for this text's walks alone
set_option linter.unusedVariables false
set_option linter.unusedSimpArgs false

theorem of_ite_none7 {α : Type} {c : Prop} [Decidable c] {x : Option α} {r : α} (h : (if c then x else none) = some r) : c ∧ x = some r := by
 by_cases hc : c
 · exact ⟨hc, by rw [if_pos hc] at h; exact h⟩
 · rw [if_neg hc] at h; exact absurd h (by simp)

/-! ### impl_Arbitrate: function 25 -/
mutual
def impl_Arbitrate.j0 : Nat → List Int → Bool → Option (Int × List Int × Bool)
 | 0, _, _ => none
 | k + 1, x0, x21 => if x21 = true then (some (0, ([] : List Int), false)) else (if 0 ≤ (x0.length : Int) then (if ((x0.length : Int) : Int).toNat ≤ 35184372088832 then (impl_Arbitrate.l0 k x0 (List.replicate ((x0.length : Int) : Int).toNat 0) x0 (x0.length : Int) 0) else (none)) else (none))
def impl_Arbitrate.l0 : Nat → List Int → List Int → List Int → Int → Int → Option (Int × List Int × Bool)
 | 0, _, _, _, _, _ => none
 | k + 1, x0, x5, x25, x26, x27 => if x27 < x26 then (if 0 ≤ x27 then (if x27 < (x25.length : Int) then ((impl_between.f (rd x25 x27) 0 2047).bind fun t257 => (if t257 = true then (if x27 < (x5.length : Int) then (impl_Arbitrate.l0 k x0 (x5.set (x27 : Int).toNat (-1)) x25 x26 (wrap64 (x27 + 1))) else (none)) else (some (0, ([] : List Int), false)))) else (none)) else (none)) else (impl_Arbitrate.l1 k x0 x5 0)
def impl_Arbitrate.l1 : Nat → List Int → List Int → Int → Option (Int × List Int × Bool)
 | 0, _, _, _ => none
 | k + 1, x0, x5, x39 => if x39 < 11 then (impl_Arbitrate.l2 k x0 x5 x39 1 x39 x0 (x0.length : Int) 0) else ((slices_Index_int_int.f k x5 (-1)).bind fun t259 => (some (t259, x5, true)))
def impl_Arbitrate.l2 : Nat → List Int → List Int → Int → Int → Int → List Int → Int → Int → Option (Int × List Int × Bool)
 | 0, _, _, _, _, _, _, _, _ => none
 | k + 1, x0, x5, x8, x9, x39, x42, x43, x44 => if x44 < x43 then (if 0 ≤ x44 then (if x44 < (x42.length : Int) then (if x44 < (x5.length : Int) then (if (rd x5 x44) < 0 then (if 0 ≤ (wrap64 (10 - x8)) then (impl_Arbitrate.l2 k x0 x5 x8 (Go.bits .and .i64 x9 (Go.bits .and .i64 (shr .i64 (rd x42 x44) (wrap64 (10 - x8))) 1)) x39 x42 x43 (wrap64 (x44 + 1))) else (none)) else (impl_Arbitrate.l2 k x0 x5 x8 x9 x39 x42 x43 (wrap64 (x44 + 1)))) else (none)) else (none)) else (none)) else (impl_Arbitrate.l3 k x0 x5 x8 x9 x39 x0 (x0.length : Int) 0)
def impl_Arbitrate.l3 : Nat → List Int → List Int → Int → Int → Int → List Int → Int → Int → Option (Int × List Int × Bool)
 | 0, _, _, _, _, _, _, _, _ => none
 | k + 1, x0, x5, x8, x9, x39, x62, x63, x64 => if x64 < x63 then (if 0 ≤ x64 then (if x64 < (x62.length : Int) then (if x64 < (x5.length : Int) then (if (rd x5 x64) < 0 then (if 0 ≤ (wrap64 (10 - x8)) then (if (Go.bits .and .i64 (shr .i64 (rd x62 x64) (wrap64 (10 - x8))) 1) > x9 then (impl_Arbitrate.l3 k x0 (x5.set (x64 : Int).toNat x8) x8 x9 x39 x62 x63 (wrap64 (x64 + 1))) else (impl_Arbitrate.l3 k x0 x5 x8 x9 x39 x62 x63 (wrap64 (x64 + 1)))) else (none)) else (impl_Arbitrate.l3 k x0 x5 x8 x9 x39 x62 x63 (wrap64 (x64 + 1)))) else (none)) else (none)) else (none)) else (impl_Arbitrate.l1 k x0 x5 (wrap64 (x39 + 1)))
end
def impl_Arbitrate.f (k : Nat) (l0 : List Int) : Option (Int × List Int × Bool) := if (l0.length : Int) < 1 then (impl_Arbitrate.j0 k l0 true) else (impl_Arbitrate.j0 k l0 (decide ((l0.length : Int) > 6)))
set_option maxHeartbeats 8000000 in
set_option maxRecDepth 100000 in
theorem impl_Arbitrate.calls (k : Nat) (A0 : Option Addr) (c0 : Nat) (l0 : List Int) (r1 : Int) (r2 : List Int) (r3 : Bool) (w : World) (hr0 : Kd.C (Kd.int .i64) w A0 l0.length l0) (hc0 : l0.length ≤ c0) (h : impl_Arbitrate.f k l0 = some (r1, r2, r3)) :
 Calls Try.prog 25 #[.slice A0 l0.length c0] w fun e w' => ∃ v1_ : Value, e = .returned (.tuple #[.int .i64 r1, v1_, .bool r3]) ∧ Kd.R (Kd.int .i64) 3 w' w.heap.size (fun _ => True) v1_ r2 ∧ Below w.heap.size w w' := by
 have HR0 := aM hr0
 have HC0 := aM hc0
 clear hr0 hc0
 have HB := aM (Below.refl w.heap.size w)
 have H : (if (l0.length : Int) < 1 then (impl_Arbitrate.j0 k l0 true) else (impl_Arbitrate.j0 k l0 (decide ((l0.length : Int) > 6)))) = some (r1, r2, r3) := h
 clear h
 have HC2 := aM H
 clear H
 go_enter Try.func25, Try.ntmps25
 go_upto_region 1 with (fail)
 go_cut [21] (fun v21 wc => ∃ (kq : Nat) (x21_1 : Bool), v21 = .bool x21_1 ∧ Aside0 (impl_Arbitrate.j0 kq l0 x21_1 = some (r1, r2, r3)) ∧ Aside0 (kq ≤ k) ∧ Aside0 (Below w.heap.size w wc))
 case first =>
  have H := HC2.out; clear HC2
  by_cases c3 : (l0.length : Int) < 1
  · rw [if_pos c3] at H
    (have c3b0 := decide_eq_true c3); (have c3b1 : decide (l0.length < 1) = true := decide_eq_true (by omega)); clear c3
    (first | rw [c3b0] | (simp only [i64_w, i32_w]; rw [c3b0]) | skip)
    (have H' := aM H); clear H
    go_wp2
    go_meet
    case rel => exact ⟨_, (true), (by first | rfl | simp | simp [*]), H', ⟨by first | omega | exact Nat.le_refl _⟩, ⟨by repeat (with_reducible first | exact HB.out | apply zA | apply zN | apply zD)⟩⟩
  · rw [if_neg c3] at H
    (have c3b0 := decide_eq_false c3); (have c3b1 : decide (l0.length < 1) = false := decide_eq_false (by omega)); clear c3
    (first | rw [c3b0] | (simp only [i64_w, i32_w]; rw [c3b0]) | skip)
    (have H' := aM H); clear H
    go_wp2
    go_meet
    case rel => exact ⟨_, (decide ((l0.length : Int) > 6)), (by first | rfl | simp | simp [*]), H', ⟨by first | omega | exact Nat.le_refl _⟩, ⟨by repeat (with_reducible first | exact HB.out | apply zA | apply zN | apply zD)⟩⟩
 case rest =>
  clear HC2; (obtain ⟨kq, x21_1, rfl, HA, HJ1, HB⟩ := hcut)
  cases kq with
  | zero => exact absurd HA.out (by simp [impl_Arbitrate.j0])
  | succ kj1 =>
   have H := HA.out; clear HA; (simp only [impl_Arbitrate.j0] at H)
   by_cases c4 : x21_1 = true
   · subst c4
     (have H1 : (some (0, ([] : List Int), false)) = some (r1, r2, r3) := by rw [if_pos rfl] at H; exact H); clear H; have H := H1; clear H1; (simp only [Option.some.injEq, Prod.mk.injEq] at H); (obtain ⟨rfl, rfl, rfl⟩ := H)
     go_wp2
     go_ret3
     exact ⟨_, by first | rfl | (simp [errW_none, errW_some] <;> rfl) | (simp [*, errW_none, errW_some] <;> rfl), by first | exact Kd.R_nil _ _ _ _ _ | exact Kd.N_nil _ _ _ _ _ | exact Kd.V_nil _ _ _ _ _ | exact Kd.Q_nil _ _ _ _ _ | exact Kd.S_nil _ _ _ _ _, by repeat (with_reducible first | exact HB.out | apply zA | apply zN | apply zD)⟩
   · replace c4 := Bool.eq_false_iff.mpr c4
     subst c4; (have H1 : (if 0 ≤ (l0.length : Int) then (if ((l0.length : Int) : Int).toNat ≤ 35184372088832 then (impl_Arbitrate.l0 kj1 l0 (List.replicate ((l0.length : Int) : Int).toNat 0) l0 (l0.length : Int) 0) else (none)) else (none)) = some (r1, r2, r3) := by rw [if_neg (show ¬ (false = true) by decide)] at H; exact H); clear H; have H := H1; clear H1
     by_cases c5 : 0 ≤ (l0.length : Int)
     · rw [if_pos c5] at H
       (have c5b0 := eq_true c5); (have c5b1 := decide_eq_true c5); clear c5; (obtain ⟨c6, H⟩ := of_ite_none7 H); (have c6b0 := eq_true c6); (have c6b1 := decide_eq_true c6); clear c6; (obtain ⟨y253, hy253⟩ : ∃ y_ : List Int, y_ = (List.replicate ((l0.length : Int) : Int).toNat 0) := ⟨_, rfl⟩); (replace H : (impl_Arbitrate.l0 kj1 l0 y253 l0 (l0.length : Int) 0) = some (r1, r2, r3) := by first | (rw [hy253]; with_reducible exact H) | (have H2_ := (Option.bind_some _ _).symm.trans H; rw [hy253]; with_reducible exact H2_) | (have H2_ := (Option.bind_some _ _).symm.trans H; with_reducible exact H2_) | with_reducible exact H | (rw [hy253]; exact H) | exact H); (have Ny253 := aM hy253); clear hy253; (have H' := aM H); clear H
       go_wp2_with (first | ((with_reducible refine gate_dst (N := 24) rfl ?_); (try (refine gate_guard (by rfl) ?_; dsimp only)); refine Kd.R_make (Kd.int .i64) _ 3 rfl (N := 24) rfl 23 _ _ rfl (l0.length : Int) rfl rfl Try.underlying23 (.int .i64 0) 8 info3 rfl (by decide) (by omega) 0 (ok := fun _ => True) (okp := fun _ => True) rfl (fun _ hk => hk) trivial (od (by assumption)) (Nat.le_trans (Nat.mul_le_mul_right _ (od (by assumption) : (l0.length : Int).toNat ≤ 35184372088832)) (by omega)) (Below.refl _ _) (Nat.le_refl _) ?_; intro v254 w7 ho8 hb hg_ hnew_; clear hg_ hnew_; (first | rw [← Ny253.out] at ho8 | (simp only [Int.reduceToNat] at ho8; rw [← Ny253.out] at ho8)); have n0_ := aM (Kd.R_lower ho8 (zZ (by repeat (with_reducible first | exact HB.out | apply zA | apply zN | apply zD)))); have n1_ := aM (zP (by repeat (with_reducible first | exact HB.out | apply zA | apply zN | apply zD)) hb); clear HB; have HO255 := n0_; have HB := n1_; clear n0_ n1_; clear hb ho8))
       go_loopg [27] kj1 (fun kq v27 w' => ∃ (x5_2 : List Int) (x27_2 : Int), v27 = .int .i64 x27_2 ∧ Aside0 (impl_Arbitrate.l0 kq l0 x5_2 l0 (l0.length : Int) x27_2 = some (r1, r2, r3)) ∧ Aside0 (kq ≤ kj1) ∧ Aside0 (Kd.R (Kd.int .i64) 3 w' w.heap.size (fun _ => True) v254 x5_2) ∧ Aside0 (Below w.heap.size w w'))
       case atStart => exact ⟨(y253), (0), (by first | rfl | simp | simp [*]), H', ⟨Nat.le_refl _⟩, ⟨by exact HO255.out⟩, ⟨by repeat (with_reducible first | exact HB.out | apply zA | apply zN | apply zD)⟩⟩
       case round =>
        clear H'; (obtain ⟨x5_2, x27_2, rfl, HA, HK2, HO_5, HB⟩ := hrel)
        cases gk with
        | zero => exact absurd HA.out (by simp [impl_Arbitrate.l0])
        | succ k2 =>
         have H := HA.out; clear HA; (simp only [impl_Arbitrate.l0] at H)
         by_cases c9 : x27_2 < (l0.length : Int)
         · rw [if_pos c9] at H
           (have c9b0 := decide_eq_true c9); clear c9; (obtain ⟨c10, H⟩ := of_ite_none7 H); (have c10b0 := decide_eq_true c10); clear c10; (obtain ⟨c11, H⟩ := of_ite_none7 H); (have c11b0 := decide_eq_true c11); clear c11; (replace H := Option.bind_eq_some_iff.mp H); (obtain ⟨t257, A120, H⟩ := H); (replace H : (if t257 = true then (if x27_2 < (x5_2.length : Int) then (impl_Arbitrate.l0 k2 l0 (x5_2.set (x27_2 : Int).toNat (-1)) l0 (l0.length : Int) (wrap64 (x27_2 + 1))) else (none)) else (some (0, ([] : List Int), false))) = some (r1, r2, r3) := H); (have A12 := aM A120); clear A120
           by_cases c13 : t257 = true
           · subst c13
             (have H1 : (if x27_2 < (x5_2.length : Int) then (impl_Arbitrate.l0 k2 l0 (x5_2.set (x27_2 : Int).toNat (-1)) l0 (l0.length : Int) (wrap64 (x27_2 + 1))) else (none)) = some (r1, r2, r3) := by rw [if_pos rfl] at H; exact H); clear H; have H := H1; clear H1; (obtain ⟨c14, H⟩ := of_ite_none7 H); (have c14b0 := decide_eq_true c14); clear c14; (obtain ⟨y258, hy258⟩ : ∃ y_ : List Int, y_ = (x5_2.set (x27_2 : Int).toNat (-1)) := ⟨_, rfl⟩); (replace H : (impl_Arbitrate.l0 k2 l0 y258 l0 (l0.length : Int) (wrap64 (x27_2 + 1))) = some (r1, r2, r3) := by first | (rw [hy258]; with_reducible exact H) | (have H2_ := (Option.bind_some _ _).symm.trans H; rw [hy258]; with_reducible exact H2_) | (have H2_ := (Option.bind_some _ _).symm.trans H; with_reducible exact H2_) | with_reducible exact H | (rw [hy258]; exact H) | exact H); (have Ny258 := aM hy258); clear hy258; (have H' := aM H); clear H; (have p256 : 0 ≤ (x27_2 : Int) := od (by assumption)); (have q256 : x27_2 < (l0.length : Int) := od (by assumption)); (obtain ⟨ad256, e256, hx256_0⟩ := Kd.at_int HR0.out x27_2 p256 q256)
             cases e256
             (first | replace hx256_0 := (HB.out.cell (World.block_lt_of_cell? w _ hx256_0)).trans hx256_0 | skip)
             (replace p256 := eq_true p256); (replace q256 := eq_true q256)
             go_wp2_with (first | ((with_reducible refine gate_callee (f := 22) rfl ?_); refine goesL_ (some 33) rfl rfl Try.func22 (by kernel_rfl) rfl #[.int .i64 (rd l0 x27_2), .int .i64 0, .int .i64 2047] rfl (by simp only [List.map_toArray, List.map_cons, List.map_nil]; rfl) ?_; (with_reducible refine (impl_between.calls (rd l0 x27_2) 0 2047 true _ A12.out).mono ?_); rintro e w' ⟨rfl, ⟨nd, rfl⟩⟩; refine ⟨_, rfl, ?_⟩; (try (rw [drewN_self wr]; generalize hq_ : World.drewN wr _ = wr; have n0_ : Aside0 (Kd.R (Kd.int .i64) 3 wr w.heap.size (fun _ => True) v254 x5_2) := ⟨by rw [← hq_]; exact HO_5.out⟩; have n1_ : Aside0 (Below w.heap.size w wr) := ⟨by rw [← hq_]; exact (by repeat (with_reducible first | exact HB.out | apply zA | apply zN | apply zD))⟩; clear HO_5 HB hq_; have HO_5 := n0_; have HB := n1_; clear n0_ n1_)); have p15 : 0 ≤ (x27_2 : Int) := od (by assumption); have q15 : (x27_2 : Int) < ((x5_2.length : Int) : Int) := od (by assumption); obtain ⟨go15, co15, eo15, gb15, gl15, cl15, HG15⟩ := Kd.R_form HO_5.out (by omega); (first | cases eo15 | (injection eo15 with ea_ en_ ec_; (first | subst ea_ | (injection ea_ with ea_; subst ea_)); subst ec_; clear en_)); have GB15 := aM gb15; have GG15 := aM HG15; clear gb15 gl15 HG15; obtain ⟨hx15_0, hf15_0⟩ := Kd.R_celln 0 HO_5.out (x27_2 : Int) p15 q15; replace p15 := eq_true p15; replace q15 := eq_true q15; obtain ⟨hy16_, hz16_⟩ := Kd.R_celln 0 HO_5.out (x27_2 : Int) (od (by assumption)) (od (by assumption)); have HP16 := Kd.R_putg HO_5.out (x27_2 : Int) (-1)) | ((with_reducible refine gate_store (t := 3) (p := 37) rfl ?_); refine store_event (t := 3) (p := 37) (v := ?vo_w17) (w1 := (wr.setCell ⟨go15, (x27_2 : Int).toNat, none⟩ (.int .i64 (-1)))) ?hg ?ho ?hn ?hr ?_; (case ho => rfl); (case hg => rfl); (case hn => rfl); (case hr => first | (go_simp; done) | (go_simp; rfl)); intro w17 hw; have hg : wr.grownBy w17 (some go15) := (by rw [hw]; exact HP16.2); have hp_ : Kd.R (Kd.int .i64) 3 w17 w.heap.size (fun _ => True) (.slice (some ⟨go15, 0, none⟩) x5_2.length co15) y258 := (by rw [hw, Ny258.out]; exact HP16.1); clear HP16; have n0_ := aM (hp_); have n1_ := aM ((by rw [hw]; exact zS (HB.out) GB15.out : Below w.heap.size w w17)); clear HO_5; clear HB; have HO_5 := n0_; have HB := n1_; clear n0_ n1_; clear hg hw hp_))
             go_roundg k2
             case measure => have := HJ1.out; have := HK2.out; omega
             case rel => exact ⟨(y258), (wrap64 (x27_2 + 1)), (by first | rfl | simp | simp [*]), H', ⟨by have := HJ1.out; have := HK2.out; omega⟩, ⟨by exact HO_5.out⟩, ⟨by repeat (with_reducible first | exact HB.out | apply zA | apply zN | apply zD)⟩⟩
           · replace c13 := Bool.eq_false_iff.mpr c13
             subst c13; (have H1 : (some (0, ([] : List Int), false)) = some (r1, r2, r3) := by rw [if_neg (show ¬ (false = true) by decide)] at H; exact H); clear H; have H := H1; clear H1; (simp only [Option.some.injEq, Prod.mk.injEq] at H); (obtain ⟨rfl, rfl, rfl⟩ := H); (have p256 : 0 ≤ (x27_2 : Int) := od (by assumption)); (have q256 : x27_2 < (l0.length : Int) := od (by assumption)); (obtain ⟨ad256, e256, hx256_0⟩ := Kd.at_int HR0.out x27_2 p256 q256)
             cases e256
             (first | replace hx256_0 := (HB.out.cell (World.block_lt_of_cell? w _ hx256_0)).trans hx256_0 | skip)
             (replace p256 := eq_true p256); (replace q256 := eq_true q256)
             go_wp2_with (first | ((with_reducible refine gate_callee (f := 22) rfl ?_); refine goesL_ (some 33) rfl rfl Try.func22 (by kernel_rfl) rfl #[.int .i64 (rd l0 x27_2), .int .i64 0, .int .i64 2047] rfl (by simp only [List.map_toArray, List.map_cons, List.map_nil]; rfl) ?_; (with_reducible refine (impl_between.calls (rd l0 x27_2) 0 2047 false _ A12.out).mono ?_); rintro e w' ⟨rfl, ⟨nd, rfl⟩⟩; refine ⟨_, rfl, ?_⟩))
             go_ret3
             exact ⟨_, by first | rfl | (simp [errW_none, errW_some] <;> rfl) | (simp [*, errW_none, errW_some] <;> rfl), by first | exact Kd.R_nil _ _ _ _ _ | exact Kd.N_nil _ _ _ _ _ | exact Kd.V_nil _ _ _ _ _ | exact Kd.Q_nil _ _ _ _ _ | exact Kd.S_nil _ _ _ _ _, by repeat (with_reducible first | exact HB.out | apply zA | apply zN | apply zD)⟩
         · rw [if_neg c9] at H
           (have c9b0 := decide_eq_false c9); clear c9; (have H' := aM H); clear H
           go_wp2
           go_loopg [39] k2 (fun kq v39 w' => ∃ (x5_3 : List Int) (x39_3 : Int), v39 = .int .i64 x39_3 ∧ Aside0 (impl_Arbitrate.l1 kq l0 x5_3 x39_3 = some (r1, r2, r3)) ∧ Aside0 (kq ≤ k2) ∧ Aside0 (Kd.R (Kd.int .i64) 3 w' w.heap.size (fun _ => True) v254 x5_3) ∧ Aside0 (Below w.heap.size w w'))
           case atStart => exact ⟨(x5_2), (0), (by first | rfl | simp | simp [*]), H', ⟨Nat.le_refl _⟩, ⟨by exact HO_5.out⟩, ⟨by repeat (with_reducible first | exact HB.out | apply zA | apply zN | apply zD)⟩⟩
           case round =>
            clear H'; (obtain ⟨x5_3, x39_3, rfl, HA, HK3, HO_5, HB⟩ := hrel)
            cases gk with
            | zero => exact absurd HA.out (by simp [impl_Arbitrate.l1])
            | succ k3 =>
             have H := HA.out; clear HA; (simp only [impl_Arbitrate.l1] at H)
             by_cases c18 : x39_3 < 11
             · rw [if_pos c18] at H
               (have c18b0 := decide_eq_true c18); clear c18; (have H' := aM H); clear H
               go_wp2
               go_loopg [9, 44] k3 (fun kq v9 v44 w' => ∃ (x9_4 : Int) (x44_4 : Int), v9 = .int .i64 x9_4 ∧ v44 = .int .i64 x44_4 ∧ Aside0 (impl_Arbitrate.l2 kq l0 x5_3 x39_3 x9_4 x39_3 l0 (l0.length : Int) x44_4 = some (r1, r2, r3)) ∧ Aside0 (kq ≤ k3) ∧ Aside0 (Kd.R (Kd.int .i64) 3 w' w.heap.size (fun _ => True) v254 x5_3) ∧ Aside0 (Below w.heap.size w w'))
               case atStart => exact ⟨(1), (0), (by first | rfl | simp | simp [*]), (by first | rfl | simp | simp [*]), H', ⟨Nat.le_refl _⟩, ⟨by exact HO_5.out⟩, ⟨by repeat (with_reducible first | exact HB.out | apply zA | apply zN | apply zD)⟩⟩
               case round =>
                clear H'; (obtain ⟨x9_4, x44_4, rfl, rfl, HA, HK4, HO_5, HB⟩ := hrel)
                cases gk with
                | zero => exact absurd HA.out (by simp [impl_Arbitrate.l2])
                | succ k4 =>
                 have H := HA.out; clear HA; (simp only [impl_Arbitrate.l2] at H)
                 by_cases c19 : x44_4 < (l0.length : Int)
                 · rw [if_pos c19] at H
                   (have c19b0 := decide_eq_true c19); clear c19; (obtain ⟨c20, H⟩ := of_ite_none7 H); (have c20b0 := decide_eq_true c20); clear c20; (obtain ⟨c21, H⟩ := of_ite_none7 H); (have c21b0 := decide_eq_true c21); clear c21; (obtain ⟨c22, H⟩ := of_ite_none7 H); (have c22b0 := decide_eq_true c22); clear c22
                   by_cases c23 : (rd x5_3 x44_4) < 0
                   · rw [if_pos c23] at H
                     (have c23b0 := decide_eq_true c23); clear c23; (obtain ⟨ji24, hji24⟩ : ∃ j_ : Int, (wrap64 (10 - x39_3)) = j_ := ⟨_, rfl⟩); (replace H : (if 0 ≤ (ji24) then (impl_Arbitrate.l2 k4 l0 x5_3 x39_3 (Go.bits .and .i64 x9_4 (Go.bits .and .i64 (shr .i64 (rd l0 x44_4) (ji24)) 1)) x39_3 l0 (l0.length : Int) (wrap64 (x44_4 + 1))) else (none)) = some (r1, r2, r3) := by first | (rw [hji24] at H; exact H) | (simp only [hji24] at H ⊢; exact H)); (have hji24w : (IntKind.i64.wrap (10 - x39_3)) = ji24 := (i64_w _).trans hji24); (obtain ⟨c25, H⟩ := of_ite_none7 H); (have c25b0 := eq_true c25); (have c25b1 := decide_eq_true c25); clear c25; (obtain ⟨ji26, hji26⟩ : ∃ j_ : Int, (shr .i64 (rd l0 x44_4) (ji24)) = j_ := ⟨_, rfl⟩); (replace H : (impl_Arbitrate.l2 k4 l0 x5_3 x39_3 (Go.bits .and .i64 x9_4 (Go.bits .and .i64 (ji26) 1)) x39_3 l0 (l0.length : Int) (wrap64 (x44_4 + 1))) = some (r1, r2, r3) := by first | (rw [hji26] at H; exact H) | (simp only [hji26] at H ⊢; exact H)); (have hji26_ : ((rd l0 x44_4) / 2 ^ min (ji24).toNat 64) = ji26 := hji26); (have hji26z : (ji24) ≤ 64 → ((rd l0 x44_4) / 2 ^ (ji24).toNat) = ji26 := shr_small hji26); (have H' := aM H); clear H; (have p260 : 0 ≤ (x44_4 : Int) := od (by assumption)); (have q260 : x44_4 < (l0.length : Int) := od (by assumption)); (obtain ⟨ad260, e260, hx260_0⟩ := Kd.at_int HR0.out x44_4 p260 q260)
                     cases e260
                     (first | replace hx260_0 := (HB.out.cell (World.block_lt_of_cell? w _ hx260_0)).trans hx260_0 | skip)
                     (replace p260 := eq_true p260); (replace q260 := eq_true q260); (obtain ⟨Ao27, co27, eo27⟩ := Kd.R_slice HO_5.out); subst eo27; (have p261 : 0 ≤ (x44_4 : Int) := od (by assumption)); (have q261 : x44_4 < (x5_3.length : Int) := od (by assumption)); (obtain ⟨ad261, e261, hx261_0⟩ := Kd.at_int (Kd.R_reads' HO_5.out).2.2 x44_4 p261 q261)
                     cases e261
                     (replace p261 := eq_true p261); (replace q261 := eq_true q261)
                     go_wp2
                     go_roundg k4
                     case measure => have := HJ1.out; have := HK2.out; have := HK3.out; have := HK4.out; omega
                     case rel => exact ⟨(Go.bits .and .i64 x9_4 (Go.bits .and .i64 (ji26) 1)), (wrap64 (x44_4 + 1)), (by first | rfl | (simp; done) | (refine congrArg Value.bool (Eq.symm ?_); assumption) | (simp only [← hji26] <;> (first | rfl | (simp; done))) | (simp [*]; done)), (by first | rfl | simp | simp [*]), H', ⟨by have := HJ1.out; have := HK2.out; have := HK3.out; have := HK4.out; omega⟩, ⟨by exact HO_5.out⟩, ⟨by repeat (with_reducible first | exact HB.out | apply zA | apply zN | apply zD)⟩⟩
                   · rw [if_neg c23] at H
                     (have c23b0 := decide_eq_false c23); clear c23; (have H' := aM H); clear H; (have p260 : 0 ≤ (x44_4 : Int) := od (by assumption)); (have q260 : x44_4 < (l0.length : Int) := od (by assumption)); (obtain ⟨ad260, e260, hx260_0⟩ := Kd.at_int HR0.out x44_4 p260 q260)
                     cases e260
                     (first | replace hx260_0 := (HB.out.cell (World.block_lt_of_cell? w _ hx260_0)).trans hx260_0 | skip)
                     (replace p260 := eq_true p260); (replace q260 := eq_true q260); (obtain ⟨Ao28, co28, eo28⟩ := Kd.R_slice HO_5.out); subst eo28; (have p261 : 0 ≤ (x44_4 : Int) := od (by assumption)); (have q261 : x44_4 < (x5_3.length : Int) := od (by assumption)); (obtain ⟨ad261, e261, hx261_0⟩ := Kd.at_int (Kd.R_reads' HO_5.out).2.2 x44_4 p261 q261)
                     cases e261
                     (replace p261 := eq_true p261); (replace q261 := eq_true q261)
                     go_wp2
                     go_roundg k4
                     case measure => have := HJ1.out; have := HK2.out; have := HK3.out; have := HK4.out; omega
                     case rel => exact ⟨(x9_4), (wrap64 (x44_4 + 1)), (by first | rfl | simp | simp [*]), (by first | rfl | simp | simp [*]), H', ⟨by have := HJ1.out; have := HK2.out; have := HK3.out; have := HK4.out; omega⟩, ⟨by exact HO_5.out⟩, ⟨by repeat (with_reducible first | exact HB.out | apply zA | apply zN | apply zD)⟩⟩
                 · rw [if_neg c19] at H
                   (have c19b0 := decide_eq_false c19); clear c19; (have H' := aM H); clear H
                   go_wp2
                   go_loopg [64] k4 (fun kq v64 w' => ∃ (x5_5 : List Int) (x64_5 : Int), v64 = .int .i64 x64_5 ∧ Aside0 (impl_Arbitrate.l3 kq l0 x5_5 x39_3 x9_4 x39_3 l0 (l0.length : Int) x64_5 = some (r1, r2, r3)) ∧ Aside0 (kq ≤ k4) ∧ Aside0 (Kd.R (Kd.int .i64) 3 w' w.heap.size (fun _ => True) v254 x5_5) ∧ Aside0 (Below w.heap.size w w'))
                   case atStart => exact ⟨(x5_3), (0), (by first | rfl | simp | simp [*]), H', ⟨Nat.le_refl _⟩, ⟨by exact HO_5.out⟩, ⟨by repeat (with_reducible first | exact HB.out | apply zA | apply zN | apply zD)⟩⟩
                   case round =>
                    clear H'; (obtain ⟨x5_5, x64_5, rfl, HA, HK5, HO_5, HB⟩ := hrel)
                    cases gk with
                    | zero => exact absurd HA.out (by simp [impl_Arbitrate.l3])
                    | succ k5 =>
                     have H := HA.out; clear HA; (simp only [impl_Arbitrate.l3] at H)
                     by_cases c29 : x64_5 < (l0.length : Int)
                     · rw [if_pos c29] at H
                       (have c29b0 := decide_eq_true c29); clear c29; (obtain ⟨c30, H⟩ := of_ite_none7 H); (have c30b0 := decide_eq_true c30); clear c30; (obtain ⟨c31, H⟩ := of_ite_none7 H); (have c31b0 := decide_eq_true c31); clear c31; (obtain ⟨c32, H⟩ := of_ite_none7 H); (have c32b0 := decide_eq_true c32); clear c32
                       by_cases c33 : (rd x5_5 x64_5) < 0
                       · rw [if_pos c33] at H
                         (have c33b0 := decide_eq_true c33); clear c33; (obtain ⟨ji34, hji34⟩ : ∃ j_ : Int, (wrap64 (10 - x39_3)) = j_ := ⟨_, rfl⟩); (replace H : (if 0 ≤ (ji34) then (if (Go.bits .and .i64 (shr .i64 (rd l0 x64_5) (ji34)) 1) > x9_4 then (impl_Arbitrate.l3 k5 l0 (x5_5.set (x64_5 : Int).toNat x39_3) x39_3 x9_4 x39_3 l0 (l0.length : Int) (wrap64 (x64_5 + 1))) else (impl_Arbitrate.l3 k5 l0 x5_5 x39_3 x9_4 x39_3 l0 (l0.length : Int) (wrap64 (x64_5 + 1)))) else (none)) = some (r1, r2, r3) := by first | (rw [hji34] at H; exact H) | (simp only [hji34] at H ⊢; exact H)); (have hji34w : (IntKind.i64.wrap (10 - x39_3)) = ji34 := (i64_w _).trans hji34); (obtain ⟨c35, H⟩ := of_ite_none7 H); (have c35b0 := eq_true c35); (have c35b1 := decide_eq_true c35); clear c35; (obtain ⟨ji36, hji36⟩ : ∃ j_ : Int, (shr .i64 (rd l0 x64_5) (ji34)) = j_ := ⟨_, rfl⟩); (replace H : (if (Go.bits .and .i64 (ji36) 1) > x9_4 then (impl_Arbitrate.l3 k5 l0 (x5_5.set (x64_5 : Int).toNat x39_3) x39_3 x9_4 x39_3 l0 (l0.length : Int) (wrap64 (x64_5 + 1))) else (impl_Arbitrate.l3 k5 l0 x5_5 x39_3 x9_4 x39_3 l0 (l0.length : Int) (wrap64 (x64_5 + 1)))) = some (r1, r2, r3) := by first | (rw [hji36] at H; exact H) | (simp only [hji36] at H ⊢; exact H)); (have hji36_ : ((rd l0 x64_5) / 2 ^ min (ji34).toNat 64) = ji36 := hji36); (have hji36z : (ji34) ≤ 64 → ((rd l0 x64_5) / 2 ^ (ji34).toNat) = ji36 := shr_small hji36)
                         by_cases c37 : (Go.bits .and .i64 (ji36) 1) > x9_4
                         · rw [if_pos c37] at H
                           (have c37b0 := decide_eq_true c37); clear c37; (obtain ⟨y264, hy264⟩ : ∃ y_ : List Int, y_ = (x5_5.set (x64_5 : Int).toNat x39_3) := ⟨_, rfl⟩); (replace H : (impl_Arbitrate.l3 k5 l0 y264 x39_3 x9_4 x39_3 l0 (l0.length : Int) (wrap64 (x64_5 + 1))) = some (r1, r2, r3) := by first | (rw [hy264]; with_reducible exact H) | (have H2_ := (Option.bind_some _ _).symm.trans H; rw [hy264]; with_reducible exact H2_) | (have H2_ := (Option.bind_some _ _).symm.trans H; with_reducible exact H2_) | with_reducible exact H | (rw [hy264]; exact H) | exact H); (have Ny264 := aM hy264); clear hy264; (have H' := aM H); clear H; (have p262 : 0 ≤ (x64_5 : Int) := od (by assumption)); (have q262 : x64_5 < (l0.length : Int) := od (by assumption)); (obtain ⟨ad262, e262, hx262_0⟩ := Kd.at_int HR0.out x64_5 p262 q262)
                           cases e262
                           (first | replace hx262_0 := (HB.out.cell (World.block_lt_of_cell? w _ hx262_0)).trans hx262_0 | skip)
                           (replace p262 := eq_true p262); (replace q262 := eq_true q262); (obtain ⟨Ao39, co39, eo39⟩ := Kd.R_slice HO_5.out); subst eo39; (have p263 : 0 ≤ (x64_5 : Int) := od (by assumption)); (have q263 : x64_5 < (x5_5.length : Int) := od (by assumption)); (obtain ⟨ad263, e263, hx263_0⟩ := Kd.at_int (Kd.R_reads' HO_5.out).2.2 x64_5 p263 q263)
                           cases e263
                           (replace p263 := eq_true p263); (replace q263 := eq_true q263); (have p38 : 0 ≤ (x64_5 : Int) := od (by assumption)); (have q38 : (x64_5 : Int) < ((x5_5.length : Int) : Int) := od (by assumption)); (obtain ⟨go38, co38, eo38, gb38, gl38, cl38, HG38⟩ := Kd.R_form HO_5.out (by omega))
                           (first | cases eo38 | (injection eo38 with ea_ en_ ec_; (first | subst ea_ | (injection ea_ with ea_; subst ea_)); subst ec_; clear en_))
                           (have GB38 := aM gb38); (have GG38 := aM HG38); clear gb38 gl38 HG38
                           (first | simp only [add_plain] at hx263_0 | skip)
                           (obtain ⟨hx38_0, hf38_0⟩ := Kd.R_celln 0 HO_5.out (x64_5 : Int) p38 q38); (replace p38 := eq_true p38); (replace q38 := eq_true q38); (have HP40 := Kd.R_putg HO_5.out (x64_5 : Int) x39_3)
                           go_wp2_with (first | ((with_reducible refine gate_store (t := 3) (p := 86) rfl ?_); refine store_event (t := 3) (p := 86) (v := ?vo_w41) (w1 := (wr.setCell ⟨go38, (x64_5 : Int).toNat, none⟩ (.int .i64 x39_3))) ?hg ?ho ?hn ?hr ?_; (case ho => rfl); (case hg => rfl); (case hn => rfl); (case hr => first | (go_simp; done) | (go_simp; rfl)); intro w41 hw; have hg : wr.grownBy w41 (some go38) := (by rw [hw]; exact HP40.2); have hp_ : Kd.R (Kd.int .i64) 3 w41 w.heap.size (fun _ => True) (.slice (some ⟨go38, 0, none⟩) x5_5.length co39) y264 := (by rw [hw, Ny264.out]; exact HP40.1); clear HP40; have n0_ := aM (hp_); have n1_ := aM ((by rw [hw]; exact zS (HB.out) GB38.out : Below w.heap.size w w41)); clear HO_5; clear HB; have HO_5 := n0_; have HB := n1_; clear n0_ n1_; clear hg hw hp_))
                           go_roundg k5
                           case measure => have := HJ1.out; have := HK2.out; have := HK3.out; have := HK4.out; have := HK5.out; omega
                           case rel => exact ⟨(y264), (wrap64 (x64_5 + 1)), (by first | rfl | simp | simp [*]), H', ⟨by have := HJ1.out; have := HK2.out; have := HK3.out; have := HK4.out; have := HK5.out; omega⟩, ⟨by exact HO_5.out⟩, ⟨by repeat (with_reducible first | exact HB.out | apply zA | apply zN | apply zD)⟩⟩
                         · rw [if_neg c37] at H
                           (have c37b0 := decide_eq_false c37); clear c37; (have H' := aM H); clear H; (have p262 : 0 ≤ (x64_5 : Int) := od (by assumption)); (have q262 : x64_5 < (l0.length : Int) := od (by assumption)); (obtain ⟨ad262, e262, hx262_0⟩ := Kd.at_int HR0.out x64_5 p262 q262)
                           cases e262
                           (first | replace hx262_0 := (HB.out.cell (World.block_lt_of_cell? w _ hx262_0)).trans hx262_0 | skip)
                           (replace p262 := eq_true p262); (replace q262 := eq_true q262); (obtain ⟨Ao42, co42, eo42⟩ := Kd.R_slice HO_5.out); subst eo42; (have p263 : 0 ≤ (x64_5 : Int) := od (by assumption)); (have q263 : x64_5 < (x5_5.length : Int) := od (by assumption)); (obtain ⟨ad263, e263, hx263_0⟩ := Kd.at_int (Kd.R_reads' HO_5.out).2.2 x64_5 p263 q263)
                           cases e263
                           (replace p263 := eq_true p263); (replace q263 := eq_true q263)
                           go_wp2
                           go_roundg k5
                           case measure => have := HJ1.out; have := HK2.out; have := HK3.out; have := HK4.out; have := HK5.out; omega
                           case rel => exact ⟨(x5_5), (wrap64 (x64_5 + 1)), (by first | rfl | simp | simp [*]), H', ⟨by have := HJ1.out; have := HK2.out; have := HK3.out; have := HK4.out; have := HK5.out; omega⟩, ⟨by exact HO_5.out⟩, ⟨by repeat (with_reducible first | exact HB.out | apply zA | apply zN | apply zD)⟩⟩
                       · rw [if_neg c33] at H
                         (have c33b0 := decide_eq_false c33); clear c33; (have H' := aM H); clear H; (have p262 : 0 ≤ (x64_5 : Int) := od (by assumption)); (have q262 : x64_5 < (l0.length : Int) := od (by assumption)); (obtain ⟨ad262, e262, hx262_0⟩ := Kd.at_int HR0.out x64_5 p262 q262)
                         cases e262
                         (first | replace hx262_0 := (HB.out.cell (World.block_lt_of_cell? w _ hx262_0)).trans hx262_0 | skip)
                         (replace p262 := eq_true p262); (replace q262 := eq_true q262); (obtain ⟨Ao43, co43, eo43⟩ := Kd.R_slice HO_5.out); subst eo43; (have p263 : 0 ≤ (x64_5 : Int) := od (by assumption)); (have q263 : x64_5 < (x5_5.length : Int) := od (by assumption)); (obtain ⟨ad263, e263, hx263_0⟩ := Kd.at_int (Kd.R_reads' HO_5.out).2.2 x64_5 p263 q263)
                         cases e263
                         (replace p263 := eq_true p263); (replace q263 := eq_true q263)
                         go_wp2
                         go_roundg k5
                         case measure => have := HJ1.out; have := HK2.out; have := HK3.out; have := HK4.out; have := HK5.out; omega
                         case rel => exact ⟨(x5_5), (wrap64 (x64_5 + 1)), (by first | rfl | simp | simp [*]), H', ⟨by have := HJ1.out; have := HK2.out; have := HK3.out; have := HK4.out; have := HK5.out; omega⟩, ⟨by exact HO_5.out⟩, ⟨by repeat (with_reducible first | exact HB.out | apply zA | apply zN | apply zD)⟩⟩
                     · rw [if_neg c29] at H
                       (have c29b0 := decide_eq_false c29); clear c29; (have H' := aM H); clear H
                       go_wp2
                       go_roundg k5
                       case measure => have := HJ1.out; have := HK2.out; have := HK3.out; have := HK4.out; have := HK5.out; omega
                       case rel => exact ⟨(x5_5), (wrap64 (x39_3 + 1)), (by first | rfl | simp | simp [*]), H', ⟨by have := HJ1.out; have := HK2.out; have := HK3.out; have := HK4.out; have := HK5.out; omega⟩, ⟨by exact HO_5.out⟩, ⟨by repeat (with_reducible first | exact HB.out | apply zA | apply zN | apply zD)⟩⟩
             · rw [if_neg c18] at H
               (have c18b0 := decide_eq_false c18); clear c18; (replace H := Option.bind_eq_some_iff.mp H); (obtain ⟨t259, A440, H⟩ := H); (replace H : (some (t259, x5_3, true)) = some (r1, r2, r3) := H); (have A44 := aM A440); clear A440; (simp only [Option.some.injEq, Prod.mk.injEq] at H); (obtain ⟨rfl, rfl, rfl⟩ := H); (obtain ⟨Ao45, co45, eo45⟩ := Kd.R_slice HO_5.out); subst eo45
               go_wp2_with (first | ((with_reducible refine gate_callee (f := 36) rfl ?_); refine goesL_ (some 90) rfl rfl Try.func36 (by kernel_rfl) rfl #[.slice Ao45 x5_3.length co45, .int .i64 (-1)] rfl (by simp only [List.map_toArray, List.map_cons, List.map_nil]; rfl) ?_; (with_reducible refine (slices_Index_int_int.calls k3 _ _ x5_3 (-1) t259 _ ?side1 ?side2 A44.out).mono ?_); (case side1 => repeat (first | exact (Kd.R_reads' HO_5.out).2.2 | (with_reducible first | refine cA ?_ _ | refine cN ?_ _ | refine cD ?_))); (case side2 => exact (Kd.R_reads' HO_5.out).2.1); rintro e w' ⟨rfl, ⟨nd, rfl⟩⟩; refine ⟨_, rfl, ?_⟩))
               go_ret3
               exact ⟨_, by first | rfl | (simp [errW_none, errW_some] <;> rfl) | (simp [*, errW_none, errW_some] <;> rfl), by exact HO_5.out, by repeat (with_reducible first | exact HB.out | apply zA | apply zN | apply zD)⟩
     · rw [if_neg c5] at H
       exact absurd H (by simp)

/-! ### slices_Contains_int_int: function 26 -/
def slices_Contains_int_int.f (k : Nat) (l0 : List Int) (a1 : Int) : Option (Bool) := (slices_Index_int_int.f k l0 a1).bind fun t265 => (some (decide (t265 ≥ 0)))
set_option maxHeartbeats 8000000 in
set_option maxRecDepth 100000 in
theorem slices_Contains_int_int.calls (k : Nat) (A0 : Option Addr) (c0 : Nat) (l0 : List Int) (a1 : Int) (r : Bool) (w : World) (hr0 : Kd.C (Kd.int .i64) w A0 l0.length l0) (hc0 : l0.length ≤ c0) (h : slices_Contains_int_int.f k l0 a1 = some r) :
 Calls Try.prog 26 #[.slice A0 l0.length c0, .int .i64 a1] w fun e w' => e = .returned (.bool r) ∧ Drawn0 w w' := by
 have HR0 := aM hr0
 have HC0 := aM hc0
 clear hr0 hc0
 have H : ((slices_Index_int_int.f k l0 a1).bind fun t265 => (some (decide (t265 ≥ 0)))) = some r := h
 clear h
 replace H := Option.bind_eq_some_iff.mp H
 obtain ⟨t265, A30, H⟩ := H
 replace H : (some (decide (t265 ≥ 0))) = some r := H
 have A3 := aM A30
 clear A30
 obtain rfl := Option.some.inj H
 go_enter Try.func26, Try.ntmps26
 go_wp2_with (first | ((with_reducible refine gate_callee (f := 36) rfl ?_); refine goesL_ (some 7) rfl rfl Try.func36 (by kernel_rfl) rfl #[.slice A0 l0.length c0, .int .i64 a1] rfl (by simp only [List.map_toArray, List.map_cons, List.map_nil]; rfl) ?_; (with_reducible refine (slices_Index_int_int.calls k _ _ l0 a1 t265 _ ?side1 ?side2 A3.out).mono ?_); (case side1 => repeat (first | exact HR0.out | (with_reducible first | refine cA ?_ _ | refine cN ?_ _ | refine cD ?_))); (case side2 => exact HC0.out); rintro e w' ⟨rfl, ⟨nd, rfl⟩⟩; refine ⟨_, rfl, ?_⟩))
 go_ret
 exact ⟨by first | rfl | (simp; done) | (simp [*]; done), by repeat (first | exact Drawn0.refl _ | apply Drawn0.step)⟩


end Go.Proofs.Ytdiibgbekjlmlaa.PFnExactRunBus
