-- Written by this session's own program for the law FnExactRunBus; it began as the print's text.
import Derived.Test.YtdiibgbekjlmlaaQFnExactRunBusx0
namespace Go.Proofs.Ytdiibgbekjlmlaa.PFnExactRunBus
open Go.RowKit Go.Proofs.YtdiibgbekjlmlaaW.PrintWords Go.Proofs.YtdiibgbekjlmlaaW.PrintLast Go.Proofs.YtdiibgbekjlmlaaW.PrintMore
open Go.Proofs.YtdiibgbekjlmlaaW.PrintWords renaming below_alloc → zA, pw_below_drewN → zN, below_drew1 → zD, below_set → zS, below_size → zZ, below_step → zP
open Go.Proofs.YtdiibgbekjlmlaaW.PrintWords.Aside0 renaming mk → aM
attribute [local go_sem] max2_int min2_int max_two min_two max_three min_three max_four min_four   -- for this text's walks alone
set_option linter.unusedVariables false
set_option linter.unusedSimpArgs false

theorem of_ite_none3 {α : Type} {c : Prop} [Decidable c] {x : Option α} {r : α} (h : (if c then x else none) = some r) : c ∧ x = some r := by
 by_cases hc : c
 · exact ⟨hc, by rw [if_pos hc] at h; exact h⟩
 · rw [if_neg hc] at h; exact absurd h (by simp)

/-! ### spec_Arbitrate: function 20 -/
mutual
def spec_Arbitrate.j0 : Nat → List Int → Bool → Option (Int × List Int × Bool)
 | 0, _, _ => none
 | k + 1, x0, x23 => if x23 = true then (some (0, ([] : List Int), false)) else (spec_Arbitrate.l0 k x0 x0 (x0.length : Int) 0)
def spec_Arbitrate.l0 : Nat → List Int → List Int → Int → Int → Option (Int × List Int × Bool)
 | 0, _, _, _, _ => none
 | k + 1, x0, x24, x25, x26 => if x26 < x25 then (if 0 ≤ x26 then (if x26 < (x24.length : Int) then (if (rd x24 x26) < 0 then (some (0, ([] : List Int), false)) else (if (rd x24 x26) > 2047 then (some (0, ([] : List Int), false)) else (spec_Arbitrate.l0 k x0 x24 x25 (wrap64 (x26 + 1))))) else (none)) else (none)) else (if 0 ≤ (x0.length : Int) then (if ((x0.length : Int) : Int).toNat ≤ 35184372088832 then ((some (List.replicate ((x0.length : Int) : Int).toNat 0 : List Int)).bind fun y126 => (spec_Arbitrate.l1 k x0 y126 (y126.length : Int) 0)) else (none)) else (none))
def spec_Arbitrate.l1 : Nat → List Int → List Int → Int → Int → Option (Int × List Int × Bool)
 | 0, _, _, _, _ => none
 | k + 1, x0, x7, x41, x42 => if x42 < x41 then (if 0 ≤ x42 then (if x42 < (x7.length : Int) then (spec_Arbitrate.l1 k x0 (x7.set (x42 : Int).toNat (-1)) x41 (wrap64 (x42 + 1))) else (none)) else (none)) else (spec_Arbitrate.l2 k x0 x7 0)
def spec_Arbitrate.l2 : Nat → List Int → List Int → Int → Option (Int × List Int × Bool)
 | 0, _, _, _ => none
 | k + 1, x0, x7, x9 => if x9 < 11 then (spec_Arbitrate.l3 k x0 x7 x9 false x0 (x0.length : Int) 0) else (spec_Arbitrate.l5 k x7 0)
def spec_Arbitrate.l3 : Nat → List Int → List Int → Int → Bool → List Int → Int → Int → Option (Int × List Int × Bool)
 | 0, _, _, _, _, _, _, _ => none
 | k + 1, x0, x7, x9, x10, x53, x54, x55 => if x55 < x54 then (if 0 ≤ x55 then (if x55 < (x53.length : Int) then (if x10 = true then (spec_Arbitrate.l3 k x0 x7 x9 true x53 x54 (wrap64 (x55 + 1))) else (if x55 < (x7.length : Int) then (if (rd x7 x55) < 0 then (if 0 ≤ (IntKind.u64.wrap (wrap64 (10 - x9))) then (spec_Arbitrate.l3 k x0 x7 x9 ((Go.bits .and .i64 (shr .i64 (rd x53 x55) (IntKind.u64.wrap (wrap64 (10 - x9)))) 1) == 0) x53 x54 (wrap64 (x55 + 1))) else (none)) else (spec_Arbitrate.l3 k x0 x7 x9 false x53 x54 (wrap64 (x55 + 1)))) else (none))) else (none)) else (none)) else (spec_Arbitrate.l4 k x0 x7 x9 x10 x0 (x0.length : Int) 0)
def spec_Arbitrate.l4 : Nat → List Int → List Int → Int → Bool → List Int → Int → Int → Option (Int × List Int × Bool)
 | 0, _, _, _, _, _, _, _ => none
 | k + 1, x0, x7, x9, x10, x78, x79, x80 => if x80 < x79 then (if 0 ≤ x80 then (if x80 < (x78.length : Int) then (if x10 = true then (if x80 < (x7.length : Int) then (if (rd x7 x80) < 0 then (if 0 ≤ (IntKind.u64.wrap (wrap64 (10 - x9))) then (if (Go.bits .and .i64 (shr .i64 (rd x78 x80) (IntKind.u64.wrap (wrap64 (10 - x9)))) 1) = 1 then (spec_Arbitrate.l4 k x0 (x7.set (x80 : Int).toNat x9) x9 x10 x78 x79 (wrap64 (x80 + 1))) else (spec_Arbitrate.l4 k x0 x7 x9 x10 x78 x79 (wrap64 (x80 + 1)))) else (none)) else (spec_Arbitrate.l4 k x0 x7 x9 x10 x78 x79 (wrap64 (x80 + 1)))) else (none)) else (spec_Arbitrate.l4 k x0 x7 x9 x10 x78 x79 (wrap64 (x80 + 1)))) else (none)) else (none)) else (spec_Arbitrate.l2 k x0 x7 (wrap64 (x9 + 1)))
def spec_Arbitrate.l5 : Nat → List Int → Int → Option (Int × List Int × Bool)
 | 0, _, _ => none
 | k + 1, x7, x15 => if 0 ≤ x15 then (if x15 < (x7.length : Int) then (if (rd x7 x15) ≥ 0 then (spec_Arbitrate.l5 k x7 (wrap64 (x15 + 1))) else (some (x15, x7, true))) else (none)) else (none)
end
def spec_Arbitrate.f (k : Nat) (l0 : List Int) : Option (Int × List Int × Bool) := if (l0.length : Int) < 1 then (spec_Arbitrate.j0 k l0 true) else (spec_Arbitrate.j0 k l0 (decide ((l0.length : Int) > 6)))
set_option maxHeartbeats 8000000 in
set_option maxRecDepth 100000 in
theorem spec_Arbitrate.calls (k : Nat) (A0 : Option Addr) (c0 : Nat) (l0 : List Int) (r1 : Int) (r2 : List Int) (r3 : Bool) (w : World) (hr0 : Kd.C (Kd.int .i64) w A0 l0.length l0) (hc0 : l0.length ≤ c0) (h : spec_Arbitrate.f k l0 = some (r1, r2, r3)) :
 Calls Try.prog 20 #[.slice A0 l0.length c0] w fun e w' => ∃ v1_ : Value, e = .returned (.tuple #[.int .i64 r1, v1_, .bool r3]) ∧ Kd.R (Kd.int .i64) 3 w' w.heap.size (fun _ => True) v1_ r2 ∧ Below w.heap.size w w' := by
 have HR0 := aM hr0
 have HC0 := aM hc0
 clear hr0 hc0
 have HB := aM (Below.refl w.heap.size w)
 have H : (if (l0.length : Int) < 1 then (spec_Arbitrate.j0 k l0 true) else (spec_Arbitrate.j0 k l0 (decide ((l0.length : Int) > 6)))) = some (r1, r2, r3) := h
 clear h
 have HC2 := aM H
 clear H
 go_enter Try.func20, Try.ntmps20
 go_upto_region 1 with (fail)
 go_cut [23] (fun v23 wc => ∃ (kq : Nat) (x23_1 : Bool), v23 = .bool x23_1 ∧ Aside0 (spec_Arbitrate.j0 kq l0 x23_1 = some (r1, r2, r3)) ∧ Aside0 (kq ≤ k) ∧ Aside0 (Below w.heap.size w wc))
 case first =>
  have H := HC2.out; clear HC2
  by_cases c3 : (l0.length : Int) < 1
  · rw [if_pos c3] at H
    (have c3b0 := decide_eq_true c3); (have c3b1 : decide (l0.length < 1) = true := decide_eq_true (by omega)); clear c3
    (first | rw [c3b0] | (simp only [i64_w, i32_w]; rw [c3b0]) | skip)
    (have H' := aM H); clear H
    go_wp2
    go_meet
    case rel => exact ⟨_, (true), (by first | rfl | simp | simp [*]), H', ⟨by first | omega | exact Nat.le_refl _⟩, ⟨by repeat (with_reducible first | exact HB.out | apply zA | apply zN | apply zD)⟩⟩
  · rw [if_neg c3] at H
    (have c3b0 := decide_eq_false c3); (have c3b1 : decide (l0.length < 1) = false := decide_eq_false (by omega)); clear c3
    (first | rw [c3b0] | (simp only [i64_w, i32_w]; rw [c3b0]) | skip)
    (have H' := aM H); clear H
    go_wp2
    go_meet
    case rel => exact ⟨_, (decide ((l0.length : Int) > 6)), (by first | rfl | simp | simp [*]), H', ⟨by first | omega | exact Nat.le_refl _⟩, ⟨by repeat (with_reducible first | exact HB.out | apply zA | apply zN | apply zD)⟩⟩
 case rest =>
  clear HC2; (obtain ⟨kq, x23_1, rfl, HA, HJ1, HB⟩ := hcut)
  cases kq with
  | zero => exact absurd HA.out (by simp [spec_Arbitrate.j0])
  | succ kj1 =>
   have H := HA.out; clear HA; (simp only [spec_Arbitrate.j0] at H)
   by_cases c4 : x23_1 = true
   · subst c4
     (have H1 : (some (0, ([] : List Int), false)) = some (r1, r2, r3) := by rw [if_pos rfl] at H; exact H); clear H; have H := H1; clear H1; (simp only [Option.some.injEq, Prod.mk.injEq] at H); (obtain ⟨rfl, rfl, rfl⟩ := H)
     go_wp2
     go_ret3
     exact ⟨_, by first | rfl | (simp [errW_none, errW_some] <;> rfl) | (simp [*, errW_none, errW_some] <;> rfl), by first | exact Kd.R_nil _ _ _ _ _ | exact Kd.N_nil _ _ _ _ _ | exact Kd.V_nil _ _ _ _ _ | exact Kd.Q_nil _ _ _ _ _ | exact Kd.S_nil _ _ _ _ _, by repeat (with_reducible first | exact HB.out | apply zA | apply zN | apply zD)⟩
   · replace c4 := Bool.eq_false_iff.mpr c4
     subst c4; (have H1 : (spec_Arbitrate.l0 kj1 l0 l0 (l0.length : Int) 0) = some (r1, r2, r3) := by rw [if_neg (show ¬ (false = true) by decide)] at H; exact H); clear H; have H := H1; clear H1; (have H' := aM H); clear H
     go_wp2
     go_loopg [26] kj1 (fun kq v26 w' => ∃ (x26_2 : Int), v26 = .int .i64 x26_2 ∧ Aside0 (spec_Arbitrate.l0 kq l0 l0 (l0.length : Int) x26_2 = some (r1, r2, r3)) ∧ Aside0 (kq ≤ kj1) ∧ Aside0 (Below w.heap.size w w'))
     case atStart => exact ⟨(0), (by first | rfl | simp | simp [*]), H', ⟨Nat.le_refl _⟩, ⟨by repeat (with_reducible first | exact HB.out | apply zA | apply zN | apply zD)⟩⟩
     case round =>
      clear H'; (obtain ⟨x26_2, rfl, HA, HK2, HB⟩ := hrel)
      cases gk with
      | zero => exact absurd HA.out (by simp [spec_Arbitrate.l0])
      | succ k2 =>
       have H := HA.out; clear HA; (simp only [spec_Arbitrate.l0] at H)
       by_cases c5 : x26_2 < (l0.length : Int)
       · rw [if_pos c5] at H
         (have c5b0 := decide_eq_true c5); clear c5; (obtain ⟨c6, H⟩ := of_ite_none3 H); (have c6b0 := decide_eq_true c6); clear c6; (obtain ⟨c7, H⟩ := of_ite_none3 H); (have c7b0 := decide_eq_true c7); clear c7
         by_cases c8 : (rd l0 x26_2) < 0
         · rw [if_pos c8] at H
           (have c8b0 := decide_eq_true c8); clear c8; (simp only [Option.some.injEq, Prod.mk.injEq] at H); (obtain ⟨rfl, rfl, rfl⟩ := H); (have p125 : 0 ≤ (x26_2 : Int) := od (by assumption)); (have q125 : x26_2 < (l0.length : Int) := od (by assumption)); (obtain ⟨ad125, e125, hx125_0⟩ := Kd.at_int HR0.out x26_2 p125 q125)
           cases e125
           (first | replace hx125_0 := (HB.out.cell (World.block_lt_of_cell? w _ hx125_0)).trans hx125_0 | skip)
           (replace p125 := eq_true p125); (replace q125 := eq_true q125)
           go_wp2
           go_ret3
           exact ⟨_, by first | rfl | (simp [errW_none, errW_some] <;> rfl) | (simp [*, errW_none, errW_some] <;> rfl), by first | exact Kd.R_nil _ _ _ _ _ | exact Kd.N_nil _ _ _ _ _ | exact Kd.V_nil _ _ _ _ _ | exact Kd.Q_nil _ _ _ _ _ | exact Kd.S_nil _ _ _ _ _, by repeat (with_reducible first | exact HB.out | apply zA | apply zN | apply zD)⟩
         · rw [if_neg c8] at H
           (have c8b0 := decide_eq_false c8); clear c8
           by_cases c9 : (rd l0 x26_2) > 2047
           · rw [if_pos c9] at H
             (have c9b0 := decide_eq_true c9); clear c9; (simp only [Option.some.injEq, Prod.mk.injEq] at H); (obtain ⟨rfl, rfl, rfl⟩ := H); (have p125 : 0 ≤ (x26_2 : Int) := od (by assumption)); (have q125 : x26_2 < (l0.length : Int) := od (by assumption)); (obtain ⟨ad125, e125, hx125_0⟩ := Kd.at_int HR0.out x26_2 p125 q125)
             cases e125
             (first | replace hx125_0 := (HB.out.cell (World.block_lt_of_cell? w _ hx125_0)).trans hx125_0 | skip)
             (replace p125 := eq_true p125); (replace q125 := eq_true q125)
             go_wp2
             go_ret3
             exact ⟨_, by first | rfl | (simp [errW_none, errW_some] <;> rfl) | (simp [*, errW_none, errW_some] <;> rfl), by first | exact Kd.R_nil _ _ _ _ _ | exact Kd.N_nil _ _ _ _ _ | exact Kd.V_nil _ _ _ _ _ | exact Kd.Q_nil _ _ _ _ _ | exact Kd.S_nil _ _ _ _ _, by repeat (with_reducible first | exact HB.out | apply zA | apply zN | apply zD)⟩
           · rw [if_neg c9] at H
             (have c9b0 := decide_eq_false c9); clear c9; (have H' := aM H); clear H; (have p125 : 0 ≤ (x26_2 : Int) := od (by assumption)); (have q125 : x26_2 < (l0.length : Int) := od (by assumption)); (obtain ⟨ad125, e125, hx125_0⟩ := Kd.at_int HR0.out x26_2 p125 q125)
             cases e125
             (first | replace hx125_0 := (HB.out.cell (World.block_lt_of_cell? w _ hx125_0)).trans hx125_0 | skip)
             (replace p125 := eq_true p125); (replace q125 := eq_true q125)
             go_wp2
             go_roundg k2
             case measure => have := HJ1.out; have := HK2.out; omega
             case rel => exact ⟨(wrap64 (x26_2 + 1)), (by first | rfl | simp | simp [*]), H', ⟨by have := HJ1.out; have := HK2.out; omega⟩, ⟨by repeat (with_reducible first | exact HB.out | apply zA | apply zN | apply zD)⟩⟩
       · rw [if_neg c5] at H
         (have c5b0 := decide_eq_false c5); clear c5
         by_cases c10 : 0 ≤ (l0.length : Int)
         · rw [if_pos c10] at H
           (have c10b0 := eq_true c10); (have c10b1 := decide_eq_true c10); clear c10; (obtain ⟨c11, H⟩ := of_ite_none3 H); (have c11b0 := eq_true c11); (have c11b1 := decide_eq_true c11); clear c11; (obtain ⟨y126, hy126⟩ : ∃ y_ : List Int, y_ = (List.replicate ((l0.length : Int) : Int).toNat 0) := ⟨_, rfl⟩); (replace H : (spec_Arbitrate.l1 k2 l0 y126 (y126.length : Int) 0) = some (r1, r2, r3) := by first | (rw [hy126]; with_reducible exact H) | (have H2_ := (Option.bind_some _ _).symm.trans H; rw [hy126]; with_reducible exact H2_) | (have H2_ := (Option.bind_some _ _).symm.trans H; with_reducible exact H2_) | with_reducible exact H | (rw [hy126]; exact H) | exact H); (have Ny126 := aM hy126); clear hy126; (have H' := aM H); clear H
           go_wp2_with (first | ((with_reducible refine gate_dst (N := 39) rfl ?_); (try (refine gate_guard (by rfl) ?_; dsimp only)); refine Kd.R_make (Kd.int .i64) _ 3 rfl (N := 39) rfl 23 _ _ rfl (l0.length : Int) rfl rfl Try.underlying23 (.int .i64 0) 8 info3 rfl (by decide) (by omega) 0 (ok := fun _ => True) (okp := fun _ => True) rfl (fun _ hk => hk) trivial (od (by assumption)) (Nat.le_trans (Nat.mul_le_mul_right _ (od (by assumption) : (l0.length : Int).toNat ≤ 35184372088832)) (by omega)) (Below.refl _ _) (Nat.le_refl _) ?_; intro v127 w12 ho13 hb hg_ hnew_; clear hg_ hnew_; (first | rw [← Ny126.out] at ho13 | (simp only [Int.reduceToNat] at ho13; rw [← Ny126.out] at ho13)); have n0_ := aM (Kd.R_lower ho13 (zZ (by repeat (with_reducible first | exact HB.out | apply zA | apply zN | apply zD)))); have n1_ := aM (zP (by repeat (with_reducible first | exact HB.out | apply zA | apply zN | apply zD)) hb); clear HB; have HO128 := n0_; have HB := n1_; clear n0_ n1_; clear hb ho13; obtain ⟨Ao14, co14, eo14⟩ := Kd.R_slice HO128.out; subst eo14))
           go_loopg [42] k2 (fun kq v42 w' => ∃ (x7_3 : List Int) (x42_3 : Int), v42 = .int .i64 x42_3 ∧ Aside0 (spec_Arbitrate.l1 kq l0 x7_3 (y126.length : Int) x42_3 = some (r1, r2, r3)) ∧ Aside0 (kq ≤ k2) ∧ Aside0 (Kd.R (Kd.int .i64) 3 w' w.heap.size (fun _ => True) (.slice Ao14 y126.length co14) x7_3) ∧ Aside0 (Below w.heap.size w w'))
           case atStart => exact ⟨(y126), (0), (by first | rfl | simp | simp [*]), H', ⟨Nat.le_refl _⟩, ⟨by exact HO128.out⟩, ⟨by repeat (with_reducible first | exact HB.out | apply zA | apply zN | apply zD)⟩⟩
           case round =>
            clear H'; (obtain ⟨x7_3, x42_3, rfl, HA, HK3, HO_7, HB⟩ := hrel); (have hl7_3 := (Kd.R_reads' HO_7.out).1); (rw [hl7_3] at HO_7); ((try simp only [hl7_3]))
            cases gk with
            | zero => exact absurd HA.out (by simp [spec_Arbitrate.l1])
            | succ k3 =>
             have H := HA.out; clear HA; (simp only [spec_Arbitrate.l1] at H)
             by_cases c15 : x42_3 < (y126.length : Int)
             · rw [if_pos c15] at H
               (have c15b0 := decide_eq_true c15); clear c15; (obtain ⟨c16, H⟩ := of_ite_none3 H); (have c16b0 := decide_eq_true c16); clear c16; (obtain ⟨c17, H⟩ := of_ite_none3 H); (have c17b0 := decide_eq_true c17); clear c17; (obtain ⟨y129, hy129⟩ : ∃ y_ : List Int, y_ = (x7_3.set (x42_3 : Int).toNat (-1)) := ⟨_, rfl⟩); (replace H : (spec_Arbitrate.l1 k3 l0 y129 (y126.length : Int) (wrap64 (x42_3 + 1))) = some (r1, r2, r3) := by first | (rw [hy129]; with_reducible exact H) | (have H2_ := (Option.bind_some _ _).symm.trans H; rw [hy129]; with_reducible exact H2_) | (have H2_ := (Option.bind_some _ _).symm.trans H; with_reducible exact H2_) | with_reducible exact H | (rw [hy129]; exact H) | exact H); (have Ny129 := aM hy129); clear hy129; (have H' := aM H); clear H; (have p18 : 0 ≤ (x42_3 : Int) := od (by assumption)); (have q18 : (x42_3 : Int) < ((x7_3.length : Int) : Int) := od (by assumption)); (obtain ⟨go18, co18, eo18, gb18, gl18, cl18, HG18⟩ := Kd.R_form HO_7.out (by omega))
               (first | cases eo18 | (injection eo18 with ea_ en_ ec_; (first | subst ea_ | (injection ea_ with ea_; subst ea_)); subst ec_; clear en_))
               (have GB18 := aM gb18); (have GG18 := aM HG18); clear gb18 gl18 HG18; (obtain ⟨hx18_0, hf18_0⟩ := Kd.R_celln 0 HO_7.out (x42_3 : Int) p18 q18); (replace p18 := eq_true p18); (replace q18 := eq_true q18); (have HP19 := Kd.R_putg HO_7.out (x42_3 : Int) (-1))
               go_wp2_with (first | ((with_reducible refine gate_store (t := 3) (p := 47) rfl ?_); refine store_event (t := 3) (p := 47) (v := ?vo_w20) (w1 := (wr.setCell ⟨go18, (x42_3 : Int).toNat, none⟩ (.int .i64 (-1)))) ?hg ?ho ?hn ?hr ?_; (case ho => rfl); (case hg => rfl); (case hn => rfl); (case hr => first | (go_simp; done) | (go_simp; rfl)); intro w20 hw; have hg : wr.grownBy w20 (some go18) := (by rw [hw]; exact HP19.2); have hp_ : Kd.R (Kd.int .i64) 3 w20 w.heap.size (fun _ => True) (.slice (some ⟨go18, 0, none⟩) x7_3.length co14) y129 := (by rw [hw, Ny129.out]; exact HP19.1); clear HP19; have n0_ := aM (hp_); have n1_ := aM ((by rw [hw]; exact zS (HB.out) GB18.out : Below w.heap.size w w20)); clear HO_7; clear HB; have HO_7 := n0_; have HB := n1_; clear n0_ n1_; clear hg hw hp_))
               (try simp only [← hl7_3])
               go_roundg k3
               case measure => have := HJ1.out; have := HK2.out; have := HK3.out; omega
               case rel => exact ⟨(y129), (wrap64 (x42_3 + 1)), (by first | rfl | simp | simp [*]), H', ⟨by have := HJ1.out; have := HK2.out; have := HK3.out; omega⟩, ⟨by (try simp only [hl7_3]); exact HO_7.out⟩, ⟨by repeat (with_reducible first | exact HB.out | apply zA | apply zN | apply zD)⟩⟩
             · rw [if_neg c15] at H
               have c15b0 := decide_eq_false c15
               try have c15b0' : decide (x42_3 < (x7_3.length : Int)) = false := by first | (rw [hl7_3]; exact c15b0) | (rw [← hl7_3]; exact c15b0)
               clear c15; (have H' := aM H); clear H
               go_wp2
               go_loopg [9] k3 (fun kq v9 w' => ∃ (x7_4 : List Int) (x9_4 : Int), v9 = .int .i64 x9_4 ∧ Aside0 (spec_Arbitrate.l2 kq l0 x7_4 x9_4 = some (r1, r2, r3)) ∧ Aside0 (kq ≤ k3) ∧ Aside0 (Kd.R (Kd.int .i64) 3 w' w.heap.size (fun _ => True) (.slice Ao14 x7_3.length co14) x7_4) ∧ Aside0 (Below w.heap.size w w'))
               case atStart => exact ⟨(x7_3), (0), (by first | rfl | simp | simp [*]), H', ⟨Nat.le_refl _⟩, ⟨by (try simp only [hl7_3]); exact HO_7.out⟩, ⟨by repeat (with_reducible first | exact HB.out | apply zA | apply zN | apply zD)⟩⟩
               case round =>
                clear H'; (obtain ⟨x7_4, x9_4, rfl, HA, HK4, HO_7, HB⟩ := hrel); (have hl7_4 := (Kd.R_reads' HO_7.out).1); (rw [hl7_4] at HO_7); ((try simp only [hl7_4]))
                cases gk with
                | zero => exact absurd HA.out (by simp [spec_Arbitrate.l2])
                | succ k4 =>
                 have H := HA.out; clear HA; (simp only [spec_Arbitrate.l2] at H)
                 by_cases c21 : x9_4 < 11
                 · rw [if_pos c21] at H
                   (have c21b0 := decide_eq_true c21); clear c21; (have H' := aM H); clear H
                   go_wp2
                   go_loopg [10, 55] k4 (fun kq v10 v55 w' => ∃ (x10_5 : Bool) (x55_5 : Int), v10 = .bool x10_5 ∧ v55 = .int .i64 x55_5 ∧ Aside0 (spec_Arbitrate.l3 kq l0 x7_4 x9_4 x10_5 l0 (l0.length : Int) x55_5 = some (r1, r2, r3)) ∧ Aside0 (kq ≤ k4) ∧ Aside0 (Kd.R (Kd.int .i64) 3 w' w.heap.size (fun _ => True) (.slice Ao14 x7_4.length co14) x7_4) ∧ Aside0 (Below w.heap.size w w'))
                   case atStart => exact ⟨(false), (0), (by first | rfl | simp | simp [*]), (by first | rfl | simp | simp [*]), H', ⟨Nat.le_refl _⟩, ⟨by (try simp only [hl7_3]); (try simp only [hl7_4]); exact HO_7.out⟩, ⟨by repeat (with_reducible first | exact HB.out | apply zA | apply zN | apply zD)⟩⟩
                   case round =>
                    clear H'; (obtain ⟨x10_5, x55_5, rfl, rfl, HA, HK5, HO_7, HB⟩ := hrel)
                    cases gk with
                    | zero => exact absurd HA.out (by simp [spec_Arbitrate.l3])
                    | succ k5 =>
                     have H := HA.out; clear HA; (simp only [spec_Arbitrate.l3] at H)
                     by_cases c22 : x55_5 < (l0.length : Int)
                     · rw [if_pos c22] at H
                       (have c22b0 := decide_eq_true c22); clear c22; (obtain ⟨c23, H⟩ := of_ite_none3 H); (have c23b0 := decide_eq_true c23); clear c23; (obtain ⟨c24, H⟩ := of_ite_none3 H); (have c24b0 := decide_eq_true c24); clear c24
                       by_cases c25 : x10_5 = true
                       · subst c25
                         (have H1 : (spec_Arbitrate.l3 k5 l0 x7_4 x9_4 true l0 (l0.length : Int) (wrap64 (x55_5 + 1))) = some (r1, r2, r3) := by rw [if_pos rfl] at H; exact H); clear H; have H := H1; clear H1; (have H' := aM H); clear H; (have p130 : 0 ≤ (x55_5 : Int) := od (by assumption)); (have q130 : x55_5 < (l0.length : Int) := od (by assumption)); (obtain ⟨ad130, e130, hx130_0⟩ := Kd.at_int HR0.out x55_5 p130 q130)
                         cases e130
                         (first | replace hx130_0 := (HB.out.cell (World.block_lt_of_cell? w _ hx130_0)).trans hx130_0 | skip)
                         (replace p130 := eq_true p130); (replace q130 := eq_true q130)
                         go_wp2
                         go_roundg k5
                         case measure => have := HJ1.out; have := HK2.out; have := HK3.out; have := HK4.out; have := HK5.out; omega
                         case rel => exact ⟨(true), (wrap64 (x55_5 + 1)), (by first | rfl | simp | simp [*]), (by first | rfl | simp | simp [*]), H', ⟨by have := HJ1.out; have := HK2.out; have := HK3.out; have := HK4.out; have := HK5.out; omega⟩, ⟨by (try simp only [hl7_3]); (try simp only [hl7_4]); exact HO_7.out⟩, ⟨by repeat (with_reducible first | exact HB.out | apply zA | apply zN | apply zD)⟩⟩
                       · replace c25 := Bool.eq_false_iff.mpr c25
                         subst c25; (have H1 : (if x55_5 < (x7_4.length : Int) then (if (rd x7_4 x55_5) < 0 then (if 0 ≤ (IntKind.u64.wrap (wrap64 (10 - x9_4))) then (spec_Arbitrate.l3 k5 l0 x7_4 x9_4 ((Go.bits .and .i64 (shr .i64 (rd l0 x55_5) (IntKind.u64.wrap (wrap64 (10 - x9_4)))) 1) == 0) l0 (l0.length : Int) (wrap64 (x55_5 + 1))) else (none)) else (spec_Arbitrate.l3 k5 l0 x7_4 x9_4 false l0 (l0.length : Int) (wrap64 (x55_5 + 1)))) else (none)) = some (r1, r2, r3) := by rw [if_neg (show ¬ (false = true) by decide)] at H; exact H); clear H; have H := H1; clear H1; (obtain ⟨c26, H⟩ := of_ite_none3 H); (have c26b0 := decide_eq_true c26); clear c26
                         by_cases c27 : (rd x7_4 x55_5) < 0
                         · rw [if_pos c27] at H
                           (have c27b0 := decide_eq_true c27); clear c27; (obtain ⟨ji28, hji28⟩ : ∃ j_ : Int, (IntKind.u64.wrap (wrap64 (10 - x9_4))) = j_ := ⟨_, rfl⟩); (replace H : (if 0 ≤ (ji28) then (spec_Arbitrate.l3 k5 l0 x7_4 x9_4 ((Go.bits .and .i64 (shr .i64 (rd l0 x55_5) (ji28)) 1) == 0) l0 (l0.length : Int) (wrap64 (x55_5 + 1))) else (none)) = some (r1, r2, r3) := by first | (rw [hji28] at H; exact H) | (simp only [hji28] at H ⊢; exact H)); (obtain ⟨c29, H⟩ := of_ite_none3 H); (have c29b0 := eq_true c29); (have c29b1 := decide_eq_true c29); clear c29; (obtain ⟨ji30, hji30⟩ : ∃ j_ : Int, (shr .i64 (rd l0 x55_5) (ji28)) = j_ := ⟨_, rfl⟩); (replace H : (spec_Arbitrate.l3 k5 l0 x7_4 x9_4 ((Go.bits .and .i64 (ji30) 1) == 0) l0 (l0.length : Int) (wrap64 (x55_5 + 1))) = some (r1, r2, r3) := by first | (rw [hji30] at H; exact H) | (simp only [hji30] at H ⊢; exact H)); (have hji30_ : ((rd l0 x55_5) / 2 ^ min (ji28).toNat 64) = ji30 := hji30); (have hji30z : (ji28) ≤ 64 → ((rd l0 x55_5) / 2 ^ (ji28).toNat) = ji30 := shr_small hji30); (have H' := aM H); clear H; (have p130 : 0 ≤ (x55_5 : Int) := od (by assumption)); (have q130 : x55_5 < (l0.length : Int) := od (by assumption)); (obtain ⟨ad130, e130, hx130_0⟩ := Kd.at_int HR0.out x55_5 p130 q130)
                           cases e130
                           (first | replace hx130_0 := (HB.out.cell (World.block_lt_of_cell? w _ hx130_0)).trans hx130_0 | skip)
                           (replace p130 := eq_true p130); (replace q130 := eq_true q130); (have p131 : 0 ≤ (x55_5 : Int) := od (by assumption)); (have q131 : x55_5 < (x7_4.length : Int) := od (by assumption)); (obtain ⟨ad131, e131, hx131_0⟩ := Kd.at_int (Kd.R_reads' HO_7.out).2.2 x55_5 p131 q131)
                           cases e131
                           (replace p131 := eq_true p131); (replace q131 := eq_true q131)
                           go_wp2
                           go_roundg k5
                           case measure => have := HJ1.out; have := HK2.out; have := HK3.out; have := HK4.out; have := HK5.out; omega
                           case rel => exact ⟨(((Go.bits .and .i64 (ji30) 1) == 0)), (wrap64 (x55_5 + 1)), (by first | rfl | (simp; done) | (refine congrArg Value.bool (Eq.symm ?_); assumption) | (simp only [← hji30] <;> (first | rfl | (simp; done))) | (simp [*]; done)), (by first | rfl | simp | simp [*]), H', ⟨by have := HJ1.out; have := HK2.out; have := HK3.out; have := HK4.out; have := HK5.out; omega⟩, ⟨by (try simp only [hl7_3]); (try simp only [hl7_4]); exact HO_7.out⟩, ⟨by repeat (with_reducible first | exact HB.out | apply zA | apply zN | apply zD)⟩⟩
                         · rw [if_neg c27] at H
                           (have c27b0 := decide_eq_false c27); clear c27; (have H' := aM H); clear H; (have p130 : 0 ≤ (x55_5 : Int) := od (by assumption)); (have q130 : x55_5 < (l0.length : Int) := od (by assumption)); (obtain ⟨ad130, e130, hx130_0⟩ := Kd.at_int HR0.out x55_5 p130 q130)
                           cases e130
                           (first | replace hx130_0 := (HB.out.cell (World.block_lt_of_cell? w _ hx130_0)).trans hx130_0 | skip)
                           (replace p130 := eq_true p130); (replace q130 := eq_true q130); (have p131 : 0 ≤ (x55_5 : Int) := od (by assumption)); (have q131 : x55_5 < (x7_4.length : Int) := od (by assumption)); (obtain ⟨ad131, e131, hx131_0⟩ := Kd.at_int (Kd.R_reads' HO_7.out).2.2 x55_5 p131 q131)
                           cases e131
                           (replace p131 := eq_true p131); (replace q131 := eq_true q131)
                           go_wp2
                           go_roundg k5
                           case measure => have := HJ1.out; have := HK2.out; have := HK3.out; have := HK4.out; have := HK5.out; omega
                           case rel => exact ⟨(false), (wrap64 (x55_5 + 1)), (by first | rfl | simp | simp [*]), (by first | rfl | simp | simp [*]), H', ⟨by have := HJ1.out; have := HK2.out; have := HK3.out; have := HK4.out; have := HK5.out; omega⟩, ⟨by (try simp only [hl7_3]); (try simp only [hl7_4]); exact HO_7.out⟩, ⟨by repeat (with_reducible first | exact HB.out | apply zA | apply zN | apply zD)⟩⟩
                     · rw [if_neg c22] at H
                       (have c22b0 := decide_eq_false c22); clear c22; (have H' := aM H); clear H
                       go_wp2
                       go_loopg [80] k5 (fun kq v80 w' => ∃ (x7_6 : List Int) (x80_6 : Int), v80 = .int .i64 x80_6 ∧ Aside0 (spec_Arbitrate.l4 kq l0 x7_6 x9_4 x10_5 l0 (l0.length : Int) x80_6 = some (r1, r2, r3)) ∧ Aside0 (kq ≤ k5) ∧ Aside0 (Kd.R (Kd.int .i64) 3 w' w.heap.size (fun _ => True) (.slice Ao14 x7_4.length co14) x7_6) ∧ Aside0 (Below w.heap.size w w'))
                       case atStart => exact ⟨(x7_4), (0), (by first | rfl | simp | simp [*]), H', ⟨Nat.le_refl _⟩, ⟨by (try simp only [hl7_3]); (try simp only [hl7_4]); exact HO_7.out⟩, ⟨by repeat (with_reducible first | exact HB.out | apply zA | apply zN | apply zD)⟩⟩
                       case round =>
                        clear H'; (obtain ⟨x7_6, x80_6, rfl, HA, HK6, HO_7, HB⟩ := hrel); (have hl7_6 := (Kd.R_reads' HO_7.out).1); (rw [hl7_6] at HO_7); ((try simp only [hl7_6]))
                        cases gk with
                        | zero => exact absurd HA.out (by simp [spec_Arbitrate.l4])
                        | succ k6 =>
                         have H := HA.out; clear HA; (simp only [spec_Arbitrate.l4] at H)
                         by_cases c31 : x80_6 < (l0.length : Int)
                         · rw [if_pos c31] at H
                           (have c31b0 := decide_eq_true c31); clear c31; (obtain ⟨c32, H⟩ := of_ite_none3 H); (have c32b0 := decide_eq_true c32); clear c32; (obtain ⟨c33, H⟩ := of_ite_none3 H); (have c33b0 := decide_eq_true c33); clear c33
                           by_cases c34 : x10_5 = true
                           · subst c34
                             (have H1 : (if x80_6 < (x7_6.length : Int) then (if (rd x7_6 x80_6) < 0 then (if 0 ≤ (IntKind.u64.wrap (wrap64 (10 - x9_4))) then (if (Go.bits .and .i64 (shr .i64 (rd l0 x80_6) (IntKind.u64.wrap (wrap64 (10 - x9_4)))) 1) = 1 then (spec_Arbitrate.l4 k6 l0 (x7_6.set (x80_6 : Int).toNat x9_4) x9_4 true l0 (l0.length : Int) (wrap64 (x80_6 + 1))) else (spec_Arbitrate.l4 k6 l0 x7_6 x9_4 true l0 (l0.length : Int) (wrap64 (x80_6 + 1)))) else (none)) else (spec_Arbitrate.l4 k6 l0 x7_6 x9_4 true l0 (l0.length : Int) (wrap64 (x80_6 + 1)))) else (none)) = some (r1, r2, r3) := by rw [if_pos rfl] at H; exact H); clear H; have H := H1; clear H1; (obtain ⟨c35, H⟩ := of_ite_none3 H); (have c35b0 := decide_eq_true c35); clear c35
                             by_cases c36 : (rd x7_6 x80_6) < 0
                             · rw [if_pos c36] at H
                               (have c36b0 := decide_eq_true c36); clear c36; (obtain ⟨ji37, hji37⟩ : ∃ j_ : Int, (IntKind.u64.wrap (wrap64 (10 - x9_4))) = j_ := ⟨_, rfl⟩); (replace H : (if 0 ≤ (ji37) then (if (Go.bits .and .i64 (shr .i64 (rd l0 x80_6) (ji37)) 1) = 1 then (spec_Arbitrate.l4 k6 l0 (x7_6.set (x80_6 : Int).toNat x9_4) x9_4 true l0 (l0.length : Int) (wrap64 (x80_6 + 1))) else (spec_Arbitrate.l4 k6 l0 x7_6 x9_4 true l0 (l0.length : Int) (wrap64 (x80_6 + 1)))) else (none)) = some (r1, r2, r3) := by first | (rw [hji37] at H; exact H) | (simp only [hji37] at H ⊢; exact H)); (obtain ⟨c38, H⟩ := of_ite_none3 H); (have c38b0 := eq_true c38); (have c38b1 := decide_eq_true c38); clear c38; (obtain ⟨ji39, hji39⟩ : ∃ j_ : Int, (shr .i64 (rd l0 x80_6) (ji37)) = j_ := ⟨_, rfl⟩); (replace H : (if (Go.bits .and .i64 (ji39) 1) = 1 then (spec_Arbitrate.l4 k6 l0 (x7_6.set (x80_6 : Int).toNat x9_4) x9_4 true l0 (l0.length : Int) (wrap64 (x80_6 + 1))) else (spec_Arbitrate.l4 k6 l0 x7_6 x9_4 true l0 (l0.length : Int) (wrap64 (x80_6 + 1)))) = some (r1, r2, r3) := by first | (rw [hji39] at H; exact H) | (simp only [hji39] at H ⊢; exact H)); (have hji39_ : ((rd l0 x80_6) / 2 ^ min (ji37).toNat 64) = ji39 := hji39); (have hji39z : (ji37) ≤ 64 → ((rd l0 x80_6) / 2 ^ (ji37).toNat) = ji39 := shr_small hji39)
                               by_cases c40 : (Go.bits .and .i64 (ji39) 1) = 1
                               · rw [if_pos c40] at H
                                 (have c40b0 : ((Go.bits .and .i64 (ji39) 1) == 1) = true := beq_iff_eq.mpr c40); (have c40b1 : ((Go.bits .and .i64 (ji39) 1) != 1) = false := bne_eq_false_iff_eq.mpr c40); clear c40; (obtain ⟨y134, hy134⟩ : ∃ y_ : List Int, y_ = (x7_6.set (x80_6 : Int).toNat x9_4) := ⟨_, rfl⟩); (replace H : (spec_Arbitrate.l4 k6 l0 y134 x9_4 true l0 (l0.length : Int) (wrap64 (x80_6 + 1))) = some (r1, r2, r3) := by first | (rw [hy134]; with_reducible exact H) | (have H2_ := (Option.bind_some _ _).symm.trans H; rw [hy134]; with_reducible exact H2_) | (have H2_ := (Option.bind_some _ _).symm.trans H; with_reducible exact H2_) | with_reducible exact H | (rw [hy134]; exact H) | exact H); (have Ny134 := aM hy134); clear hy134; (have H' := aM H); clear H; (have p132 : 0 ≤ (x80_6 : Int) := od (by assumption)); (have q132 : x80_6 < (l0.length : Int) := od (by assumption)); (obtain ⟨ad132, e132, hx132_0⟩ := Kd.at_int HR0.out x80_6 p132 q132)
                                 cases e132
                                 (first | replace hx132_0 := (HB.out.cell (World.block_lt_of_cell? w _ hx132_0)).trans hx132_0 | skip)
                                 (replace p132 := eq_true p132); (replace q132 := eq_true q132); (have p133 : 0 ≤ (x80_6 : Int) := od (by assumption)); (have q133 : x80_6 < (x7_6.length : Int) := od (by assumption)); (obtain ⟨ad133, e133, hx133_0⟩ := Kd.at_int (Kd.R_reads' HO_7.out).2.2 x80_6 p133 q133)
                                 cases e133
                                 (replace p133 := eq_true p133); (replace q133 := eq_true q133); (have p41 : 0 ≤ (x80_6 : Int) := od (by assumption)); (have q41 : (x80_6 : Int) < ((x7_6.length : Int) : Int) := od (by assumption)); (obtain ⟨go41, co41, eo41, gb41, gl41, cl41, HG41⟩ := Kd.R_form HO_7.out (by omega))
                                 (first | cases eo41 | (injection eo41 with ea_ en_ ec_; (first | subst ea_ | (injection ea_ with ea_; subst ea_)); subst ec_; clear en_))
                                 (have GB41 := aM gb41); (have GG41 := aM HG41); clear gb41 gl41 HG41
                                 (first | simp only [add_plain] at hx133_0 | skip)
                                 (obtain ⟨hx41_0, hf41_0⟩ := Kd.R_celln 0 HO_7.out (x80_6 : Int) p41 q41); (replace p41 := eq_true p41); (replace q41 := eq_true q41); (have HP42 := Kd.R_putg HO_7.out (x80_6 : Int) x9_4)
                                 go_wp2_with (first | ((with_reducible refine gate_store (t := 3) (p := 105) rfl ?_); refine store_event (t := 3) (p := 105) (v := ?vo_w43) (w1 := (wr.setCell ⟨go41, (x80_6 : Int).toNat, none⟩ (.int .i64 x9_4))) ?hg ?ho ?hn ?hr ?_; (case ho => rfl); (case hg => rfl); (case hn => rfl); (case hr => first | (go_simp; done) | (go_simp; rfl)); intro w43 hw; have hg : wr.grownBy w43 (some go41) := (by rw [hw]; exact HP42.2); have hp_ : Kd.R (Kd.int .i64) 3 w43 w.heap.size (fun _ => True) (.slice (some ⟨go41, 0, none⟩) x7_6.length co14) y134 := (by rw [hw, Ny134.out]; exact HP42.1); clear HP42; have n0_ := aM (hp_); have n1_ := aM ((by rw [hw]; exact zS (HB.out) GB41.out : Below w.heap.size w w43)); clear HO_7; clear HB; have HO_7 := n0_; have HB := n1_; clear n0_ n1_; clear hg hw hp_))
                                 (try simp only [← hl7_6])
                                 go_roundg k6
                                 case measure => have := HJ1.out; have := HK2.out; have := HK3.out; have := HK4.out; have := HK5.out; have := HK6.out; omega
                                 case rel => exact ⟨(y134), (wrap64 (x80_6 + 1)), (by first | rfl | simp | simp [*]), H', ⟨by have := HJ1.out; have := HK2.out; have := HK3.out; have := HK4.out; have := HK5.out; have := HK6.out; omega⟩, ⟨by (try simp only [hl7_3]); (try simp only [hl7_4]); (try simp only [hl7_6]); exact HO_7.out⟩, ⟨by repeat (with_reducible first | exact HB.out | apply zA | apply zN | apply zD)⟩⟩
                               · rw [if_neg c40] at H
                                 (have c40b0 : ((Go.bits .and .i64 (ji39) 1) == 1) = false := beq_eq_false_iff_ne.mpr c40); (have c40b1 : ((Go.bits .and .i64 (ji39) 1) != 1) = true := bne_iff_ne.mpr c40); (have H' := aM H); clear H; (have p132 : 0 ≤ (x80_6 : Int) := od (by assumption)); (have q132 : x80_6 < (l0.length : Int) := od (by assumption)); (obtain ⟨ad132, e132, hx132_0⟩ := Kd.at_int HR0.out x80_6 p132 q132)
                                 cases e132
                                 (first | replace hx132_0 := (HB.out.cell (World.block_lt_of_cell? w _ hx132_0)).trans hx132_0 | skip)
                                 (replace p132 := eq_true p132); (replace q132 := eq_true q132); (have p133 : 0 ≤ (x80_6 : Int) := od (by assumption)); (have q133 : x80_6 < (x7_6.length : Int) := od (by assumption)); (obtain ⟨ad133, e133, hx133_0⟩ := Kd.at_int (Kd.R_reads' HO_7.out).2.2 x80_6 p133 q133)
                                 cases e133
                                 (replace p133 := eq_true p133); (replace q133 := eq_true q133)
                                 go_wp2
                                 (try simp only [← hl7_6])
                                 go_roundg k6
                                 case measure => have := HJ1.out; have := HK2.out; have := HK3.out; have := HK4.out; have := HK5.out; have := HK6.out; omega
                                 case rel => exact ⟨(x7_6), (wrap64 (x80_6 + 1)), (by first | rfl | simp | simp [*]), H', ⟨by have := HJ1.out; have := HK2.out; have := HK3.out; have := HK4.out; have := HK5.out; have := HK6.out; omega⟩, ⟨by (try simp only [hl7_3]); (try simp only [hl7_4]); (try simp only [hl7_6]); exact HO_7.out⟩, ⟨by repeat (with_reducible first | exact HB.out | apply zA | apply zN | apply zD)⟩⟩
                             · rw [if_neg c36] at H
                               (have c36b0 := decide_eq_false c36); clear c36; (have H' := aM H); clear H; (have p132 : 0 ≤ (x80_6 : Int) := od (by assumption)); (have q132 : x80_6 < (l0.length : Int) := od (by assumption)); (obtain ⟨ad132, e132, hx132_0⟩ := Kd.at_int HR0.out x80_6 p132 q132)
                               cases e132
                               (first | replace hx132_0 := (HB.out.cell (World.block_lt_of_cell? w _ hx132_0)).trans hx132_0 | skip)
                               (replace p132 := eq_true p132); (replace q132 := eq_true q132); (have p133 : 0 ≤ (x80_6 : Int) := od (by assumption)); (have q133 : x80_6 < (x7_6.length : Int) := od (by assumption)); (obtain ⟨ad133, e133, hx133_0⟩ := Kd.at_int (Kd.R_reads' HO_7.out).2.2 x80_6 p133 q133)
                               cases e133
                               (replace p133 := eq_true p133); (replace q133 := eq_true q133)
                               go_wp2
                               (try simp only [← hl7_6])
                               go_roundg k6
                               case measure => have := HJ1.out; have := HK2.out; have := HK3.out; have := HK4.out; have := HK5.out; have := HK6.out; omega
                               case rel => exact ⟨(x7_6), (wrap64 (x80_6 + 1)), (by first | rfl | simp | simp [*]), H', ⟨by have := HJ1.out; have := HK2.out; have := HK3.out; have := HK4.out; have := HK5.out; have := HK6.out; omega⟩, ⟨by (try simp only [hl7_3]); (try simp only [hl7_4]); (try simp only [hl7_6]); exact HO_7.out⟩, ⟨by repeat (with_reducible first | exact HB.out | apply zA | apply zN | apply zD)⟩⟩
                           · replace c34 := Bool.eq_false_iff.mpr c34
                             subst c34; (have H1 : (spec_Arbitrate.l4 k6 l0 x7_6 x9_4 false l0 (l0.length : Int) (wrap64 (x80_6 + 1))) = some (r1, r2, r3) := by rw [if_neg (show ¬ (false = true) by decide)] at H; exact H); clear H; have H := H1; clear H1; (have H' := aM H); clear H; (have p132 : 0 ≤ (x80_6 : Int) := od (by assumption)); (have q132 : x80_6 < (l0.length : Int) := od (by assumption)); (obtain ⟨ad132, e132, hx132_0⟩ := Kd.at_int HR0.out x80_6 p132 q132)
                             cases e132
                             (first | replace hx132_0 := (HB.out.cell (World.block_lt_of_cell? w _ hx132_0)).trans hx132_0 | skip)
                             (replace p132 := eq_true p132); (replace q132 := eq_true q132)
                             go_wp2
                             (try simp only [← hl7_6])
                             go_roundg k6
                             case measure => have := HJ1.out; have := HK2.out; have := HK3.out; have := HK4.out; have := HK5.out; have := HK6.out; omega
                             case rel => exact ⟨(x7_6), (wrap64 (x80_6 + 1)), (by first | rfl | simp | simp [*]), H', ⟨by have := HJ1.out; have := HK2.out; have := HK3.out; have := HK4.out; have := HK5.out; have := HK6.out; omega⟩, ⟨by (try simp only [hl7_3]); (try simp only [hl7_4]); (try simp only [hl7_6]); exact HO_7.out⟩, ⟨by repeat (with_reducible first | exact HB.out | apply zA | apply zN | apply zD)⟩⟩
                         · rw [if_neg c31] at H
                           (have c31b0 := decide_eq_false c31); clear c31; (have H' := aM H); clear H
                           go_wp2
                           (try simp only [← hl7_4, ← hl7_6])
                           go_roundg k6
                           case measure => have := HJ1.out; have := HK2.out; have := HK3.out; have := HK4.out; have := HK5.out; have := HK6.out; omega
                           case rel => exact ⟨(x7_6), (wrap64 (x9_4 + 1)), (by first | rfl | simp | simp [*]), H', ⟨by have := HJ1.out; have := HK2.out; have := HK3.out; have := HK4.out; have := HK5.out; have := HK6.out; omega⟩, ⟨by (try simp only [hl7_3]); (try simp only [hl7_4]); (try simp only [hl7_6]); exact HO_7.out⟩, ⟨by repeat (with_reducible first | exact HB.out | apply zA | apply zN | apply zD)⟩⟩
                 · rw [if_neg c21] at H
                   (have c21b0 := decide_eq_false c21); clear c21; (have H' := aM H); clear H
                   go_wp2
                   go_loopg [15] k4 (fun kq v15 w' => ∃ (x15_5 : Int), v15 = .int .i64 x15_5 ∧ Aside0 (spec_Arbitrate.l5 kq x7_4 x15_5 = some (r1, r2, r3)) ∧ Aside0 (kq ≤ k4) ∧ Aside0 (Kd.R (Kd.int .i64) 3 w' w.heap.size (fun _ => True) (.slice Ao14 x7_4.length co14) x7_4) ∧ Aside0 (Below w.heap.size w w'))
                   case atStart => exact ⟨(0), (by first | rfl | simp | simp [*]), H', ⟨Nat.le_refl _⟩, ⟨by (try simp only [hl7_3]); (try simp only [hl7_4]); exact HO_7.out⟩, ⟨by repeat (with_reducible first | exact HB.out | apply zA | apply zN | apply zD)⟩⟩
                   case round =>
                    clear H'; (obtain ⟨x15_5, rfl, HA, HK5, HO_7, HB⟩ := hrel)
                    cases gk with
                    | zero => exact absurd HA.out (by simp [spec_Arbitrate.l5])
                    | succ k5 =>
                     have H := HA.out; clear HA; (simp only [spec_Arbitrate.l5] at H); (obtain ⟨c44, H⟩ := of_ite_none3 H); (have c44b0 := decide_eq_true c44); clear c44; (obtain ⟨c45, H⟩ := of_ite_none3 H); (have c45b0 := decide_eq_true c45); clear c45
                     by_cases c46 : (rd x7_4 x15_5) ≥ 0
                     · rw [if_pos c46] at H
                       (have c46b0 := decide_eq_true c46); clear c46; (have H' := aM H); clear H; (have p135 : 0 ≤ (x15_5 : Int) := od (by assumption)); (have q135 : x15_5 < (x7_4.length : Int) := od (by assumption)); (obtain ⟨ad135, e135, hx135_0⟩ := Kd.at_int (Kd.R_reads' HO_7.out).2.2 x15_5 p135 q135)
                       cases e135
                       (replace p135 := eq_true p135); (replace q135 := eq_true q135)
                       go_wp2
                       go_roundg k5
                       case measure => have := HJ1.out; have := HK2.out; have := HK3.out; have := HK4.out; have := HK5.out; omega
                       case rel => exact ⟨(wrap64 (x15_5 + 1)), (by first | rfl | simp | simp [*]), H', ⟨by have := HJ1.out; have := HK2.out; have := HK3.out; have := HK4.out; have := HK5.out; omega⟩, ⟨by (try simp only [hl7_3]); (try simp only [hl7_4]); exact HO_7.out⟩, ⟨by repeat (with_reducible first | exact HB.out | apply zA | apply zN | apply zD)⟩⟩
                     · rw [if_neg c46] at H
                       (have c46b0 := decide_eq_false c46); clear c46; (simp only [Option.some.injEq, Prod.mk.injEq] at H); (obtain ⟨rfl, rfl, rfl⟩ := H); (have p135 : 0 ≤ (x15_5 : Int) := od (by assumption)); (have q135 : x15_5 < (x7_4.length : Int) := od (by assumption)); (obtain ⟨ad135, e135, hx135_0⟩ := Kd.at_int (Kd.R_reads' HO_7.out).2.2 x15_5 p135 q135)
                       cases e135
                       (replace p135 := eq_true p135); (replace q135 := eq_true q135)
                       go_wp2
                       go_ret3
                       exact ⟨_, by first | rfl | (simp [errW_none, errW_some] <;> rfl) | (simp [*, errW_none, errW_some] <;> rfl), by exact HO_7.out, by repeat (with_reducible first | exact HB.out | apply zA | apply zN | apply zD)⟩
         · rw [if_neg c10] at H
           exact absurd H (by simp)

end Go.Proofs.Ytdiibgbekjlmlaa.PFnExactRunBus
