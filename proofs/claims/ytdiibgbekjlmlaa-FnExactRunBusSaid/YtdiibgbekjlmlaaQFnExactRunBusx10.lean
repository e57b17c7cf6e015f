-- Written by this session's own program for the law FnExactRunBus; it began as the print's text.
import Derived.Test.YtdiibgbekjlmlaaQFnExactRunBusx0
import Derived.Test.YtdiibgbekjlmlaaQFnExactRunBusx9
namespace Go.Proofs.Ytdiibgbekjlmlaa.PFnExactRunBus
open Go.RowKit Go.Proofs.YtdiibgbekjlmlaaW.PrintWords Go.Proofs.YtdiibgbekjlmlaaW.PrintLast Go.Proofs.YtdiibgbekjlmlaaW.PrintMore
open Go.Proofs.YtdiibgbekjlmlaaW.PrintWords renaming below_alloc → zA, pw_below_drewN → zN, below_drew1 → zD, below_set → zS, below_step → zP
open Go.Proofs.YtdiibgbekjlmlaaW.PrintWords.Aside0 renaming mk → aM
open Go.Proofs.YtdiibgbekjlmlaaW.PrintWords.Kd renaming C_alloc → cA, C_drewN → cN, C_drew → cD
attribute [local go_sem] max2_int min2_int max_two min_two max_three min_three max_four min_four   -- for this text's walks alone
set_option linter.unusedVariables false
set_option linter.unusedSimpArgs false

theorem of_ite_none10 {α : Type} {c : Prop} [Decidable c] {x : Option α} {r : α} (h : (if c then x else none) = some r) : c ∧ x = some r := by
 by_cases hc : c
 · exact ⟨hc, by rw [if_pos hc] at h; exact h⟩
 · rw [if_neg hc] at h; exact absurd h (by simp)

/-! ### laws_eqTalkerS: function 10 -/
def laws_eqTalkerS.l0 : Nat → List (S44) → List (S44) → Int → Option (Bool)
 | 0, _, _, _ => none
 | k + 1, x0, x1, x5 => if x5 < (x0.length : Int) then (if 0 ≤ x5 then (if x5 < (x1.length : Int) then ((laws_eqTalker.f k ((rd_T44 x0 x5).f0) ((rd_T44 x0 x5).f1) ((rd_T44 x0 x5).f2) ((rd_T44 x0 x5).f3) ((rd_T44 x1 x5).f0) ((rd_T44 x1 x5).f1) ((rd_T44 x1 x5).f2) ((rd_T44 x1 x5).f3)).bind fun t296 => (if t296 = true then (laws_eqTalkerS.l0 k x0 x1 (wrap64 (x5 + 1))) else (some false))) else (none)) else (none)) else (some true)
def laws_eqTalkerS.f (k : Nat) (l0 : List (S44)) (l1 : List (S44)) : Option (Bool) := if (l0.length : Int) = (l1.length : Int) then (laws_eqTalkerS.l0 k l0 l1 0) else (some false)
def laws_eqTalkerS.T6 : Bool × List (List Nat × List Nat) := (true, [([], []), ([], []), ([0, 1], [0, 1]), ([2], [2]), ([], []), ([], []), ([4, 5], [4, 5]), ([6], [6]), ([3, 7], [3, 7]), ([8], [8])])
def laws_eqTalkerS.B6 : List Nat := [0, 0, 3, 7, 0, 0, 48, 112, 255, 511]
theorem laws_eqTalkerS.tab6 : rtab .any (opsOf Try.f10 6) = laws_eqTalkerS.T6 := by kernel_rfl
theorem laws_eqTalkerS.bits6 : waitsOk laws_eqTalkerS.T6.2 laws_eqTalkerS.B6 = true := by kernel_rfl
set_option maxHeartbeats 8000000 in
set_option maxRecDepth 100000 in
theorem laws_eqTalkerS.calls (k : Nat) (A0 : Option Addr) (c0 : Nat) (l0 : List (S44)) (A1 : Option Addr) (c1 : Nat) (l1 : List (S44)) (r : Bool) (w : World) (hr0 : Kd.C k44 w A0 l0.length l0) (hc0 : l0.length ≤ c0) (hr1 : Kd.C k44 w A1 l1.length l1) (hc1 : l1.length ≤ c1) (h : laws_eqTalkerS.f k l0 l1 = some r) :
 Calls Try.prog 10 #[.slice A0 l0.length c0, .slice A1 l1.length c1] w fun e w' => e = .returned (.bool r) ∧ Below w.heap.size w w' := by
 have hu44 := Try.underlying44
 have HR0 := aM hr0
 have HC0 := aM hc0
 clear hr0 hc0
 have HR1 := aM hr1
 have HC1 := aM hc1
 clear hr1 hc1
 have HB := aM (Below.refl w.heap.size w)
 have H : (if (l0.length : Int) = (l1.length : Int) then (laws_eqTalkerS.l0 k l0 l1 0) else (some false)) = some r := h
 clear h
 by_cases c3 : (l0.length : Int) = (l1.length : Int)
 · rw [if_pos c3] at H
   (have c3b0 : ((l0.length : Int) == (l1.length : Int)) = true := beq_iff_eq.mpr c3); (have c3b1 : ((l0.length : Int) != (l1.length : Int)) = false := bne_eq_false_iff_eq.mpr c3); (have c3b2 : (l0.length == l1.length) = true := by first | simpa using c3 | (simp at c3 ⊢; omega)); clear c3; (have H' := aM H); clear H
   go_enter Try.func10, Try.ntmps10
   go_wp2
   go_loopg [5] k (fun kq v5 w' => ∃ (x5_1 : Int), v5 = .int .i64 x5_1 ∧ Aside0 (laws_eqTalkerS.l0 kq l0 l1 x5_1 = some r) ∧ Aside0 (kq ≤ k) ∧ Aside0 (Below w.heap.size w w'))
   case atStart => exact ⟨(0), (by first | rfl | simp | simp [*]), H', ⟨Nat.le_refl _⟩, ⟨by repeat (with_reducible first | exact HB.out | apply zA | apply zN | apply zD)⟩⟩
   case round =>
    clear H'; (obtain ⟨x5_1, rfl, HA, HK1, HB⟩ := hrel)
    cases gk with
    | zero => exact absurd HA.out (by simp [laws_eqTalkerS.l0])
    | succ k1 =>
     have H := HA.out; clear HA; (simp only [laws_eqTalkerS.l0] at H)
     by_cases c4 : x5_1 < (l0.length : Int)
     · rw [if_pos c4] at H
       (have c4b0 := decide_eq_true c4); clear c4; (obtain ⟨c5, H⟩ := of_ite_none10 H); (have c5b0 := decide_eq_true c5); clear c5; (obtain ⟨c6, H⟩ := of_ite_none10 H); (have c6b0 := decide_eq_true c6); clear c6; (replace H := Option.bind_eq_some_iff.mp H); (obtain ⟨t296, A70, H⟩ := H); (replace H : (if t296 = true then (laws_eqTalkerS.l0 k1 l0 l1 (wrap64 (x5_1 + 1))) else (some false)) = some r := H); (have A7 := aM A70); clear A70
       by_cases c8 : t296 = true
       · subst c8
         (have H1 : (laws_eqTalkerS.l0 k1 l0 l1 (wrap64 (x5_1 + 1))) = some r := by rw [if_pos rfl] at H; exact H); clear H; have H := H1; clear H1; (have H' := aM H); clear H
         try go_wp2
         (have n0_ := aM (zD HB.out)); clear HB; have HB := n0_; clear n0_; (have p294 : 0 ≤ (x5_1 : Int) := od (by assumption)); (have q294 : x5_1 < (l0.length : Int) := od (by assumption)); (obtain ⟨ad294, A294_0, c294_0, e294, hx294_0, hx294_1, hx294_2, hx294_3, hl294_0, hi294_0⟩ := at_T44 HR0.out x5_1 p294 q294); have hw294_3 := hx294_3; have hw294_2 := hx294_2; have hw294_1 := hx294_1; have hw294_0 := hx294_0
         cases e294
         (first | replace hx294_0 := (HB.out.cell (World.block_lt_of_cell? w _ hx294_0)).trans hx294_0 | skip)
         (first | replace hx294_1 := (HB.out.cell (World.block_lt_of_cell? w _ hx294_1)).trans hx294_1 | skip)
         (first | replace hx294_2 := (HB.out.cell (World.block_lt_of_cell? w _ hx294_2)).trans hx294_2 | skip)
         (first | replace hx294_3 := (HB.out.cell (World.block_lt_of_cell? w _ hx294_3)).trans hx294_3 | skip)
         (have HR294_0 := aM hi294_0); (have HC294_0 := aM hl294_0); clear hi294_0 hl294_0; (replace p294 := eq_true p294); (replace q294 := eq_true q294); (have p295 : 0 ≤ (x5_1 : Int) := od (by assumption)); (have q295 : x5_1 < (l1.length : Int) := od (by assumption)); (obtain ⟨ad295, A295_0, c295_0, e295, hx295_0, hx295_1, hx295_2, hx295_3, hl295_0, hi295_0⟩ := at_T44 HR1.out x5_1 p295 q295); have hw295_3 := hx295_3; have hw295_2 := hx295_2; have hw295_1 := hx295_1; have hw295_0 := hx295_0
         cases e295
         (first | replace hx295_0 := (HB.out.cell (World.block_lt_of_cell? w _ hx295_0)).trans hx295_0 | skip)
         (first | replace hx295_1 := (HB.out.cell (World.block_lt_of_cell? w _ hx295_1)).trans hx295_1 | skip)
         (first | replace hx295_2 := (HB.out.cell (World.block_lt_of_cell? w _ hx295_2)).trans hx295_2 | skip)
         (first | replace hx295_3 := (HB.out.cell (World.block_lt_of_cell? w _ hx295_3)).trans hx295_3 | skip)
         (have HR295_0 := aM hi295_0); (have HC295_0 := aM hl295_0); clear hi295_0 hl295_0; (replace p295 := eq_true p295); (replace q295 := eq_true q295)
         refine start_ (n := 10) (S := fun w' => w'.cell? (ad294.add ((x5_1).toNat * 4)) = some (.slice A294_0 ((rd_T44 l0 x5_1).f0).length c294_0) ∧ w'.cell? ⟨(ad294.add ((x5_1).toNat * 4)).block, (ad294.add ((x5_1).toNat * 4)).off + 1, none⟩ = some (.int .i64 ((rd_T44 l0 x5_1).f1)) ∧ w'.cell? ⟨(ad294.add ((x5_1).toNat * 4)).block, (ad294.add ((x5_1).toNat * 4)).off + 2, none⟩ = some (.int .i64 ((rd_T44 l0 x5_1).f2)) ∧ w'.cell? ⟨(ad294.add ((x5_1).toNat * 4)).block, (ad294.add ((x5_1).toNat * 4)).off + 3, none⟩ = some (.bool ((rd_T44 l0 x5_1).f3)) ∧ w'.cell? (ad295.add ((x5_1).toNat * 4)) = some (.slice A295_0 ((rd_T44 l1 x5_1).f0).length c295_0) ∧ w'.cell? ⟨(ad295.add ((x5_1).toNat * 4)).block, (ad295.add ((x5_1).toNat * 4)).off + 1, none⟩ = some (.int .i64 ((rd_T44 l1 x5_1).f1)) ∧ w'.cell? ⟨(ad295.add ((x5_1).toNat * 4)).block, (ad295.add ((x5_1).toNat * 4)).off + 2, none⟩ = some (.int .i64 ((rd_T44 l1 x5_1).f2)) ∧ w'.cell? ⟨(ad295.add ((x5_1).toNat * 4)).block, (ad295.add ((x5_1).toNat * 4)).off + 3, none⟩ = some (.bool ((rd_T44 l1 x5_1).f3))) (ds := []) #[false, false, false, false, false, false, false, false, false, false] (by kernel_rfl) rfl rfl ⟨(by first | exact (HB.out.cell (World.block_lt_of_cell? w _ hw294_0)).trans hw294_0 | exact hw294_0), (by first | exact (HB.out.cell (World.block_lt_of_cell? w _ hw294_1)).trans hw294_1 | exact hw294_1), (by first | exact (HB.out.cell (World.block_lt_of_cell? w _ hw294_2)).trans hw294_2 | exact hw294_2), (by first | exact (HB.out.cell (World.block_lt_of_cell? w _ hw294_3)).trans hw294_3 | exact hw294_3), (by first | exact (HB.out.cell (World.block_lt_of_cell? w _ hw295_0)).trans hw295_0 | exact hw295_0), (by first | exact (HB.out.cell (World.block_lt_of_cell? w _ hw295_1)).trans hw295_1 | exact hw295_1), (by first | exact (HB.out.cell (World.block_lt_of_cell? w _ hw295_2)).trans hw295_2 | exact hw295_2), (by first | exact (HB.out.cell (World.block_lt_of_cell? w _ hw295_3)).trans hw295_3 | exact hw295_3)⟩ (fun hHeld => ?_); refine with_tabW laws_eqTalkerS.tab6 laws_eqTalkerS.bits6 (fun HT_ HW_ => ?_)
         generalize wr.drew = w9 at HB HR294_0 HR295_0 hx294_0 hx294_1 hx294_2 hx294_3 hx295_0 hx295_1 hx295_2 hx295_3 hHeld ⊢
         refine pure_ (i := 0) (N := some 17) (v := ?_) (a' := ?_) #[true, false, false, false, false, false, false, false, false, false] rfl rfl (any_of HT_.out (by kernel_rfl)) (fun _ _ _ h => h) (Or.inl ⟨by rfl, ?_⟩) ?_ ?_
         rotate_left; (· intro w'; go_simp; with_reducible rfl); rotate_left; (· simp only [Act.put, sA, s0, s1, i64_w, i32_w]; rfl)
         refine pure_ (i := 1) (N := some 18) (v := ?_) (a' := ?_) #[true, true, false, false, false, false, false, false, false, false] rfl rfl (any_of HT_.out (by kernel_rfl)) (fun _ _ _ h => h) (Or.inl ⟨by rfl, ?_⟩) ?_ ?_
         rotate_left; (· intro w'; go_simp; with_reducible rfl); rotate_left; (· simp only [Act.put, sA, s0, s1, i64_w, i32_w]; rfl)
         refine pure_ (i := 2) (N := some 19) (v := ?_) (a' := ?_) #[true, true, true, false, false, false, false, false, false, false] rfl rfl (any_of HT_.out (by kernel_rfl)) (fun _ _ _ h => h) (Or.inl ⟨by rfl, ?_⟩) ?_ ?_
         rotate_left; (· intro w'; go_simp; with_reducible rfl); rotate_left; (· simp only [Act.put, sA, s0, s1, i64_w, i32_w]; rfl)
         refine pure_ (i := 4) (N := some 21) (v := ?_) (a' := ?_) #[true, true, true, false, true, false, false, false, false, false] rfl rfl (any_of HT_.out (by kernel_rfl)) (fun _ _ _ h => h) (Or.inl ⟨by rfl, ?_⟩) ?_ ?_
         rotate_left; (· intro w'; go_simp; with_reducible rfl); rotate_left; (· simp only [Act.put, sA, s0, s1, i64_w, i32_w]; rfl)
         refine pure_ (i := 5) (N := some 22) (v := ?_) (a' := ?_) #[true, true, true, false, true, true, false, false, false, false] rfl rfl (any_of HT_.out (by kernel_rfl)) (fun _ _ _ h => h) (Or.inl ⟨by rfl, ?_⟩) ?_ ?_
         rotate_left; (· intro w'; go_simp; with_reducible rfl); rotate_left; (· simp only [Act.put, sA, s0, s1, i64_w, i32_w]; rfl)
         refine pure_ (i := 6) (N := some 23) (v := ?_) (a' := ?_) #[true, true, true, false, true, true, true, false, false, false] rfl rfl (any_of HT_.out (by kernel_rfl)) (fun _ _ _ h => h) (Or.inl ⟨by rfl, ?_⟩) ?_ ?_
         rotate_left; (· intro w'; go_simp; with_reducible rfl); rotate_left; (· simp only [Act.put, sA, s0, s1, i64_w, i32_w]; rfl)
         refine take_ (i := 3) (N := some 20) (v := ?_) (a' := ?_) #[true, true, true, true, true, true, true, false, false, false] rfl rfl (take_ofW HT_.out HW_.out (by kernel_rfl)) (fun _ _ _ h => h) (Or.inl ⟨by rfl, ?_⟩) hHeld ?_ ?_
         rotate_left; (· rintro w' ⟨s0, s1, s2, s3, s4, s5, s6, s7⟩; go_simp; with_reducible rfl); rotate_left; (· simp only [Act.put, sA, s0, s1, i64_w, i32_w]; rfl)
         refine take_ (i := 7) (N := some 24) (v := ?_) (a' := ?_) #[true, true, true, true, true, true, true, true, false, false] rfl rfl (take_ofW HT_.out HW_.out (by kernel_rfl)) (fun _ _ _ h => h) (Or.inl ⟨by rfl, ?_⟩) hHeld ?_ ?_
         rotate_left; (· rintro w' ⟨s0, s1, s2, s3, s4, s5, s6, s7⟩; go_simp; with_reducible rfl); rotate_left; (· simp only [Act.put, sA, s0, s1, i64_w, i32_w]; rfl)
         refine one_ (i := 8) (N := some 25) #[true, true, true, true, true, true, true, true, true, false] rfl rfl (one_of HT_.out (by kernel_rfl)) (by decide) (fun K hK => ?_)
         refine goes_ Try.func29 (by kernel_rfl) rfl #[.agg #[.slice A294_0 ((rd_T44 l0 x5_1).f0).length c294_0, .int .i64 ((rd_T44 l0 x5_1).f1), .int .i64 ((rd_T44 l0 x5_1).f2), .bool ((rd_T44 l0 x5_1).f3)], .agg #[.slice A295_0 ((rd_T44 l1 x5_1).f0).length c295_0, .int .i64 ((rd_T44 l1 x5_1).f1), .int .i64 ((rd_T44 l1 x5_1).f2), .bool ((rd_T44 l1 x5_1).f3)]] (by rfl) rfl rfl (by simp only [List.map_toArray, List.map_cons, List.map_nil]; rfl) ?_
         with_reducible refine (laws_eqTalker.calls k1 _ _ ((rd_T44 l0 x5_1).f0) ((rd_T44 l0 x5_1).f1) ((rd_T44 l0 x5_1).f2) ((rd_T44 l0 x5_1).f3) _ _ ((rd_T44 l1 x5_1).f0) ((rd_T44 l1 x5_1).f1) ((rd_T44 l1 x5_1).f2) ((rd_T44 l1 x5_1).f3) true _ ?side1 ?side2 ?side3 ?side4 A7.out).mono ?_
         (case side1 => repeat (first | exact (Kd.C_below HR294_0.out HB.out) | (with_reducible first | refine cA ?_ _ | refine cN ?_ _ | refine cD ?_)))
         (case side2 => exact HC294_0.out)
         (case side3 => repeat (first | exact (Kd.C_below HR295_0.out HB.out) | (with_reducible first | refine cA ?_ _ | refine cN ?_ _ | refine cD ?_)))
         (case side4 => exact HC295_0.out)
         rintro e w10 ⟨rfl, hb⟩
         refine ⟨_, rfl, ?_⟩
         (have n0_ := aM (zP (by repeat (with_reducible first | exact HB.out | apply zA | apply zN | apply zD)) hb)); clear HB; have HB := n0_; clear n0_




         refine hK.out _ _ ⟨(by first | exact (HB.out.cell (World.block_lt_of_cell? w _ hw294_0)).trans hw294_0 | exact hw294_0), (by first | exact (HB.out.cell (World.block_lt_of_cell? w _ hw294_1)).trans hw294_1 | exact hw294_1), (by first | exact (HB.out.cell (World.block_lt_of_cell? w _ hw294_2)).trans hw294_2 | exact hw294_2), (by first | exact (HB.out.cell (World.block_lt_of_cell? w _ hw294_3)).trans hw294_3 | exact hw294_3), (by first | exact (HB.out.cell (World.block_lt_of_cell? w _ hw295_0)).trans hw295_0 | exact hw295_0), (by first | exact (HB.out.cell (World.block_lt_of_cell? w _ hw295_1)).trans hw295_1 | exact hw295_1), (by first | exact (HB.out.cell (World.block_lt_of_cell? w _ hw295_2)).trans hw295_2 | exact hw295_2), (by first | exact (HB.out.cell (World.block_lt_of_cell? w _ hw295_3)).trans hw295_3 | exact hw295_3)⟩ (fun hHeld => ?_)
         clear hK K
         refine norm_ (a' := ?_) ?_ ?_
         rotate_left; (· show Act.put _ (some 25) _ = _; simp only [Act.put, sA, s0, s1, i64_w, i32_w]; rfl)
         refine pure_ (i := 9) (N := some 26) (v := ?_) (a' := ?_) #[true, true, true, true, true, true, true, true, true, true] rfl rfl (any_of HT_.out (by kernel_rfl)) (fun _ _ _ h => h) (Or.inl ⟨by rfl, ?_⟩) ?_ ?_
         rotate_left; (· intro w'; go_simp; with_reducible rfl); rotate_left; (· simp only [Act.put, sA, s0, s1, i64_w, i32_w]; rfl)
         refine done_ (done_of HT_.out (by kernel_rfl)) ?_
         try go_wp2
         go_roundg k1
         case measure => have := HK1.out; omega
         case rel => exact ⟨(wrap64 (x5_1 + 1)), (by first | rfl | simp | simp [*]), H', ⟨by have := HK1.out; omega⟩, ⟨by repeat (with_reducible first | exact HB.out | apply zA | apply zN | apply zD)⟩⟩
       · replace c8 := Bool.eq_false_iff.mpr c8
         subst c8; (have H1 : (some false) = some r := by rw [if_neg (show ¬ (false = true) by decide)] at H; exact H); clear H; have H := H1; clear H1; (obtain rfl := Option.some.inj H)
         try go_wp2
         (have n0_ := aM (zD HB.out)); clear HB; have HB := n0_; clear n0_; (have p294 : 0 ≤ (x5_1 : Int) := od (by assumption)); (have q294 : x5_1 < (l0.length : Int) := od (by assumption)); (obtain ⟨ad294, A294_0, c294_0, e294, hx294_0, hx294_1, hx294_2, hx294_3, hl294_0, hi294_0⟩ := at_T44 HR0.out x5_1 p294 q294); have hw294_3 := hx294_3; have hw294_2 := hx294_2; have hw294_1 := hx294_1; have hw294_0 := hx294_0
         cases e294
         (first | replace hx294_0 := (HB.out.cell (World.block_lt_of_cell? w _ hx294_0)).trans hx294_0 | skip)
         (first | replace hx294_1 := (HB.out.cell (World.block_lt_of_cell? w _ hx294_1)).trans hx294_1 | skip)
         (first | replace hx294_2 := (HB.out.cell (World.block_lt_of_cell? w _ hx294_2)).trans hx294_2 | skip)
         (first | replace hx294_3 := (HB.out.cell (World.block_lt_of_cell? w _ hx294_3)).trans hx294_3 | skip)
         (have HR294_0 := aM hi294_0); (have HC294_0 := aM hl294_0); clear hi294_0 hl294_0; (replace p294 := eq_true p294); (replace q294 := eq_true q294); (have p295 : 0 ≤ (x5_1 : Int) := od (by assumption)); (have q295 : x5_1 < (l1.length : Int) := od (by assumption)); (obtain ⟨ad295, A295_0, c295_0, e295, hx295_0, hx295_1, hx295_2, hx295_3, hl295_0, hi295_0⟩ := at_T44 HR1.out x5_1 p295 q295); have hw295_3 := hx295_3; have hw295_2 := hx295_2; have hw295_1 := hx295_1; have hw295_0 := hx295_0
         cases e295
         (first | replace hx295_0 := (HB.out.cell (World.block_lt_of_cell? w _ hx295_0)).trans hx295_0 | skip)
         (first | replace hx295_1 := (HB.out.cell (World.block_lt_of_cell? w _ hx295_1)).trans hx295_1 | skip)
         (first | replace hx295_2 := (HB.out.cell (World.block_lt_of_cell? w _ hx295_2)).trans hx295_2 | skip)
         (first | replace hx295_3 := (HB.out.cell (World.block_lt_of_cell? w _ hx295_3)).trans hx295_3 | skip)
         (have HR295_0 := aM hi295_0); (have HC295_0 := aM hl295_0); clear hi295_0 hl295_0; (replace p295 := eq_true p295); (replace q295 := eq_true q295)
         refine start_ (n := 10) (S := fun w' => w'.cell? (ad294.add ((x5_1).toNat * 4)) = some (.slice A294_0 ((rd_T44 l0 x5_1).f0).length c294_0) ∧ w'.cell? ⟨(ad294.add ((x5_1).toNat * 4)).block, (ad294.add ((x5_1).toNat * 4)).off + 1, none⟩ = some (.int .i64 ((rd_T44 l0 x5_1).f1)) ∧ w'.cell? ⟨(ad294.add ((x5_1).toNat * 4)).block, (ad294.add ((x5_1).toNat * 4)).off + 2, none⟩ = some (.int .i64 ((rd_T44 l0 x5_1).f2)) ∧ w'.cell? ⟨(ad294.add ((x5_1).toNat * 4)).block, (ad294.add ((x5_1).toNat * 4)).off + 3, none⟩ = some (.bool ((rd_T44 l0 x5_1).f3)) ∧ w'.cell? (ad295.add ((x5_1).toNat * 4)) = some (.slice A295_0 ((rd_T44 l1 x5_1).f0).length c295_0) ∧ w'.cell? ⟨(ad295.add ((x5_1).toNat * 4)).block, (ad295.add ((x5_1).toNat * 4)).off + 1, none⟩ = some (.int .i64 ((rd_T44 l1 x5_1).f1)) ∧ w'.cell? ⟨(ad295.add ((x5_1).toNat * 4)).block, (ad295.add ((x5_1).toNat * 4)).off + 2, none⟩ = some (.int .i64 ((rd_T44 l1 x5_1).f2)) ∧ w'.cell? ⟨(ad295.add ((x5_1).toNat * 4)).block, (ad295.add ((x5_1).toNat * 4)).off + 3, none⟩ = some (.bool ((rd_T44 l1 x5_1).f3))) (ds := []) #[false, false, false, false, false, false, false, false, false, false] (by kernel_rfl) rfl rfl ⟨(by first | exact (HB.out.cell (World.block_lt_of_cell? w _ hw294_0)).trans hw294_0 | exact hw294_0), (by first | exact (HB.out.cell (World.block_lt_of_cell? w _ hw294_1)).trans hw294_1 | exact hw294_1), (by first | exact (HB.out.cell (World.block_lt_of_cell? w _ hw294_2)).trans hw294_2 | exact hw294_2), (by first | exact (HB.out.cell (World.block_lt_of_cell? w _ hw294_3)).trans hw294_3 | exact hw294_3), (by first | exact (HB.out.cell (World.block_lt_of_cell? w _ hw295_0)).trans hw295_0 | exact hw295_0), (by first | exact (HB.out.cell (World.block_lt_of_cell? w _ hw295_1)).trans hw295_1 | exact hw295_1), (by first | exact (HB.out.cell (World.block_lt_of_cell? w _ hw295_2)).trans hw295_2 | exact hw295_2), (by first | exact (HB.out.cell (World.block_lt_of_cell? w _ hw295_3)).trans hw295_3 | exact hw295_3)⟩ (fun hHeld => ?_); refine with_tabW laws_eqTalkerS.tab6 laws_eqTalkerS.bits6 (fun HT_ HW_ => ?_)
         generalize wr.drew = w11 at HB HR294_0 HR295_0 hx294_0 hx294_1 hx294_2 hx294_3 hx295_0 hx295_1 hx295_2 hx295_3 hHeld ⊢
         refine pure_ (i := 0) (N := some 17) (v := ?_) (a' := ?_) #[true, false, false, false, false, false, false, false, false, false] rfl rfl (any_of HT_.out (by kernel_rfl)) (fun _ _ _ h => h) (Or.inl ⟨by rfl, ?_⟩) ?_ ?_
         rotate_left; (· intro w'; go_simp; with_reducible rfl); rotate_left; (· simp only [Act.put, sA, s0, s1, i64_w, i32_w]; rfl)
         refine pure_ (i := 1) (N := some 18) (v := ?_) (a' := ?_) #[true, true, false, false, false, false, false, false, false, false] rfl rfl (any_of HT_.out (by kernel_rfl)) (fun _ _ _ h => h) (Or.inl ⟨by rfl, ?_⟩) ?_ ?_
         rotate_left; (· intro w'; go_simp; with_reducible rfl); rotate_left; (· simp only [Act.put, sA, s0, s1, i64_w, i32_w]; rfl)
         refine pure_ (i := 2) (N := some 19) (v := ?_) (a' := ?_) #[true, true, true, false, false, false, false, false, false, false] rfl rfl (any_of HT_.out (by kernel_rfl)) (fun _ _ _ h => h) (Or.inl ⟨by rfl, ?_⟩) ?_ ?_
         rotate_left; (· intro w'; go_simp; with_reducible rfl); rotate_left; (· simp only [Act.put, sA, s0, s1, i64_w, i32_w]; rfl)
         refine pure_ (i := 4) (N := some 21) (v := ?_) (a' := ?_) #[true, true, true, false, true, false, false, false, false, false] rfl rfl (any_of HT_.out (by kernel_rfl)) (fun _ _ _ h => h) (Or.inl ⟨by rfl, ?_⟩) ?_ ?_
         rotate_left; (· intro w'; go_simp; with_reducible rfl); rotate_left; (· simp only [Act.put, sA, s0, s1, i64_w, i32_w]; rfl)
         refine pure_ (i := 5) (N := some 22) (v := ?_) (a' := ?_) #[true, true, true, false, true, true, false, false, false, false] rfl rfl (any_of HT_.out (by kernel_rfl)) (fun _ _ _ h => h) (Or.inl ⟨by rfl, ?_⟩) ?_ ?_
         rotate_left; (· intro w'; go_simp; with_reducible rfl); rotate_left; (· simp only [Act.put, sA, s0, s1, i64_w, i32_w]; rfl)
         refine pure_ (i := 6) (N := some 23) (v := ?_) (a' := ?_) #[true, true, true, false, true, true, true, false, false, false] rfl rfl (any_of HT_.out (by kernel_rfl)) (fun _ _ _ h => h) (Or.inl ⟨by rfl, ?_⟩) ?_ ?_
         rotate_left; (· intro w'; go_simp; with_reducible rfl); rotate_left; (· simp only [Act.put, sA, s0, s1, i64_w, i32_w]; rfl)
         refine take_ (i := 3) (N := some 20) (v := ?_) (a' := ?_) #[true, true, true, true, true, true, true, false, false, false] rfl rfl (take_ofW HT_.out HW_.out (by kernel_rfl)) (fun _ _ _ h => h) (Or.inl ⟨by rfl, ?_⟩) hHeld ?_ ?_
         rotate_left; (· rintro w' ⟨s0, s1, s2, s3, s4, s5, s6, s7⟩; go_simp; with_reducible rfl); rotate_left; (· simp only [Act.put, sA, s0, s1, i64_w, i32_w]; rfl)
         refine take_ (i := 7) (N := some 24) (v := ?_) (a' := ?_) #[true, true, true, true, true, true, true, true, false, false] rfl rfl (take_ofW HT_.out HW_.out (by kernel_rfl)) (fun _ _ _ h => h) (Or.inl ⟨by rfl, ?_⟩) hHeld ?_ ?_
         rotate_left; (· rintro w' ⟨s0, s1, s2, s3, s4, s5, s6, s7⟩; go_simp; with_reducible rfl); rotate_left; (· simp only [Act.put, sA, s0, s1, i64_w, i32_w]; rfl)
         refine one_ (i := 8) (N := some 25) #[true, true, true, true, true, true, true, true, true, false] rfl rfl (one_of HT_.out (by kernel_rfl)) (by decide) (fun K hK => ?_)
         refine goes_ Try.func29 (by kernel_rfl) rfl #[.agg #[.slice A294_0 ((rd_T44 l0 x5_1).f0).length c294_0, .int .i64 ((rd_T44 l0 x5_1).f1), .int .i64 ((rd_T44 l0 x5_1).f2), .bool ((rd_T44 l0 x5_1).f3)], .agg #[.slice A295_0 ((rd_T44 l1 x5_1).f0).length c295_0, .int .i64 ((rd_T44 l1 x5_1).f1), .int .i64 ((rd_T44 l1 x5_1).f2), .bool ((rd_T44 l1 x5_1).f3)]] (by rfl) rfl rfl (by simp only [List.map_toArray, List.map_cons, List.map_nil]; rfl) ?_
         with_reducible refine (laws_eqTalker.calls k1 _ _ ((rd_T44 l0 x5_1).f0) ((rd_T44 l0 x5_1).f1) ((rd_T44 l0 x5_1).f2) ((rd_T44 l0 x5_1).f3) _ _ ((rd_T44 l1 x5_1).f0) ((rd_T44 l1 x5_1).f1) ((rd_T44 l1 x5_1).f2) ((rd_T44 l1 x5_1).f3) false _ ?side1 ?side2 ?side3 ?side4 A7.out).mono ?_
         (case side1 => repeat (first | exact (Kd.C_below HR294_0.out HB.out) | (with_reducible first | refine cA ?_ _ | refine cN ?_ _ | refine cD ?_)))
         (case side2 => exact HC294_0.out)
         (case side3 => repeat (first | exact (Kd.C_below HR295_0.out HB.out) | (with_reducible first | refine cA ?_ _ | refine cN ?_ _ | refine cD ?_)))
         (case side4 => exact HC295_0.out)
         rintro e w12 ⟨rfl, hb⟩
         refine ⟨_, rfl, ?_⟩
         (have n0_ := aM (zP (by repeat (with_reducible first | exact HB.out | apply zA | apply zN | apply zD)) hb)); clear HB; have HB := n0_; clear n0_




         refine hK.out _ _ ⟨(by first | exact (HB.out.cell (World.block_lt_of_cell? w _ hw294_0)).trans hw294_0 | exact hw294_0), (by first | exact (HB.out.cell (World.block_lt_of_cell? w _ hw294_1)).trans hw294_1 | exact hw294_1), (by first | exact (HB.out.cell (World.block_lt_of_cell? w _ hw294_2)).trans hw294_2 | exact hw294_2), (by first | exact (HB.out.cell (World.block_lt_of_cell? w _ hw294_3)).trans hw294_3 | exact hw294_3), (by first | exact (HB.out.cell (World.block_lt_of_cell? w _ hw295_0)).trans hw295_0 | exact hw295_0), (by first | exact (HB.out.cell (World.block_lt_of_cell? w _ hw295_1)).trans hw295_1 | exact hw295_1), (by first | exact (HB.out.cell (World.block_lt_of_cell? w _ hw295_2)).trans hw295_2 | exact hw295_2), (by first | exact (HB.out.cell (World.block_lt_of_cell? w _ hw295_3)).trans hw295_3 | exact hw295_3)⟩ (fun hHeld => ?_)
         clear hK K
         refine norm_ (a' := ?_) ?_ ?_
         rotate_left; (· show Act.put _ (some 25) _ = _; simp only [Act.put, sA, s0, s1, i64_w, i32_w]; rfl)
         refine pure_ (i := 9) (N := some 26) (v := ?_) (a' := ?_) #[true, true, true, true, true, true, true, true, true, true] rfl rfl (any_of HT_.out (by kernel_rfl)) (fun _ _ _ h => h) (Or.inl ⟨by rfl, ?_⟩) ?_ ?_
         rotate_left; (· intro w'; go_simp; with_reducible rfl); rotate_left; (· simp only [Act.put, sA, s0, s1, i64_w, i32_w]; rfl)
         refine done_ (done_of HT_.out (by kernel_rfl)) ?_
         try go_wp2
         go_ret
         exact ⟨by first | rfl | (simp [errW_none, errW_some] <;> rfl) | (simp [*, errW_none, errW_some] <;> rfl), by repeat (with_reducible first | exact HB.out | apply zA | apply zN | apply zD)⟩
     · rw [if_neg c4] at H
       (have c4b0 := decide_eq_false c4); clear c4; (obtain rfl := Option.some.inj H)
       go_wp2
       go_ret
       exact ⟨by first | rfl | (simp [errW_none, errW_some] <;> rfl) | (simp [*, errW_none, errW_some] <;> rfl), by repeat (with_reducible first | exact HB.out | apply zA | apply zN | apply zD)⟩
 · rw [if_neg c3] at H
   (have c3b0 : ((l0.length : Int) == (l1.length : Int)) = false := beq_eq_false_iff_ne.mpr c3); (have c3b1 : ((l0.length : Int) != (l1.length : Int)) = true := bne_iff_ne.mpr c3); (have c3b2 : (l0.length == l1.length) = false := by first | simpa using c3 | (simp at c3 ⊢; omega)); (obtain rfl := Option.some.inj H)
   go_enter Try.func10, Try.ntmps10
   go_wp2
   go_ret
   exact ⟨by first | rfl | (simp [errW_none, errW_some] <;> rfl) | (simp [*, errW_none, errW_some] <;> rfl), by repeat (with_reducible first | exact HB.out | apply zA | apply zN | apply zD)⟩

/-! ### laws_eqIntS: function 11 -/
def laws_eqIntS.l0 : Nat → List Int → List Int → Int → Option (Bool)
 | 0, _, _, _ => none
 | k + 1, x0, x1, x5 => if x5 < (x0.length : Int) then (if 0 ≤ x5 then (if x5 < (x1.length : Int) then (if (rd x0 x5) = (rd x1 x5) then (laws_eqIntS.l0 k x0 x1 (wrap64 (x5 + 1))) else (some false)) else (none)) else (none)) else (some true)
def laws_eqIntS.f (k : Nat) (l0 : List Int) (l1 : List Int) : Option (Bool) := if (l0.length : Int) = (l1.length : Int) then (laws_eqIntS.l0 k l0 l1 0) else (some false)
set_option maxHeartbeats 8000000 in
set_option maxRecDepth 100000 in
theorem laws_eqIntS.calls (k : Nat) (A0 : Option Addr) (c0 : Nat) (l0 : List Int) (A1 : Option Addr) (c1 : Nat) (l1 : List Int) (r : Bool) (w : World) (hr0 : Kd.C (Kd.int .i64) w A0 l0.length l0) (hc0 : l0.length ≤ c0) (hr1 : Kd.C (Kd.int .i64) w A1 l1.length l1) (hc1 : l1.length ≤ c1) (h : laws_eqIntS.f k l0 l1 = some r) :
 Calls Try.prog 11 #[.slice A0 l0.length c0, .slice A1 l1.length c1] w fun e w' => e = .returned (.bool r) ∧ Drawn0 w w' := by
 have HR0 := aM hr0
 have HC0 := aM hc0
 clear hr0 hc0
 have HR1 := aM hr1
 have HC1 := aM hc1
 clear hr1 hc1
 have H : (if (l0.length : Int) = (l1.length : Int) then (laws_eqIntS.l0 k l0 l1 0) else (some false)) = some r := h
 clear h
 by_cases c3 : (l0.length : Int) = (l1.length : Int)
 · rw [if_pos c3] at H
   (have c3b0 : ((l0.length : Int) == (l1.length : Int)) = true := beq_iff_eq.mpr c3); (have c3b1 : ((l0.length : Int) != (l1.length : Int)) = false := bne_eq_false_iff_eq.mpr c3); (have c3b2 : (l0.length == l1.length) = true := by first | simpa using c3 | (simp at c3 ⊢; omega)); clear c3; (have H' := aM H); clear H
   go_enter Try.func11, Try.ntmps11
   go_wp2
   repeat (go_quiet (fail); try go_wp2)
   go_loopg [5] k (fun kq v5 w' => ∃ (x5_1 : Int), v5 = .int .i64 x5_1 ∧ Aside0 (laws_eqIntS.l0 kq l0 l1 x5_1 = some r) ∧ Aside0 (kq ≤ k) ∧ Drawn0 w w')
   case atStart => exact ⟨(0), (by first | rfl | simp | simp [*]), H', ⟨Nat.le_refl _⟩, by repeat (first | exact Drawn0.refl _ | apply Drawn0.step)⟩
   case round =>
    clear H'; (obtain ⟨x5_1, rfl, HA, HK1, ⟨m1, rfl⟩⟩ := hrel)
    cases gk with
    | zero => exact absurd HA.out (by simp [laws_eqIntS.l0])
    | succ k1 =>
     have H := HA.out; clear HA; (simp only [laws_eqIntS.l0] at H)
     by_cases c4 : x5_1 < (l0.length : Int)
     · rw [if_pos c4] at H
       (have c4b0 := decide_eq_true c4); clear c4; (obtain ⟨c5, H⟩ := of_ite_none10 H); (have c5b0 := decide_eq_true c5); clear c5; (obtain ⟨c6, H⟩ := of_ite_none10 H); (have c6b0 := decide_eq_true c6); clear c6
       by_cases c7 : (rd l0 x5_1) = (rd l1 x5_1)
       · rw [if_pos c7] at H
         (have c7b0 : ((rd l0 x5_1) == (rd l1 x5_1)) = true := beq_iff_eq.mpr c7); (have c7b1 : ((rd l0 x5_1) != (rd l1 x5_1)) = false := bne_eq_false_iff_eq.mpr c7); clear c7; (have H' := aM H); clear H; (have p297 : 0 ≤ (x5_1 : Int) := od (by assumption)); (have q297 : x5_1 < (l0.length : Int) := od (by assumption)); (obtain ⟨ad297, e297, hx297_0⟩ := Kd.at_int HR0.out x5_1 p297 q297)
         cases e297
         (replace p297 := eq_true p297); (replace q297 := eq_true q297); (have p298 : 0 ≤ (x5_1 : Int) := od (by assumption)); (have q298 : x5_1 < (l1.length : Int) := od (by assumption)); (obtain ⟨ad298, e298, hx298_0⟩ := Kd.at_int HR1.out x5_1 p298 q298)
         cases e298
         (replace p298 := eq_true p298); (replace q298 := eq_true q298)
         go_wp2
         repeat (go_quiet (fail); try go_wp2)
         go_roundg k1
         case measure => have := HK1.out; omega
         case rel => exact ⟨(wrap64 (x5_1 + 1)), (by first | rfl | simp | simp [*]), H', ⟨by have := HK1.out; omega⟩, by repeat (first | exact Drawn0.refl _ | apply Drawn0.step)⟩
       · rw [if_neg c7] at H
         (have c7b0 : ((rd l0 x5_1) == (rd l1 x5_1)) = false := beq_eq_false_iff_ne.mpr c7); (have c7b1 : ((rd l0 x5_1) != (rd l1 x5_1)) = true := bne_iff_ne.mpr c7); (obtain rfl := Option.some.inj H); (have p297 : 0 ≤ (x5_1 : Int) := od (by assumption)); (have q297 : x5_1 < (l0.length : Int) := od (by assumption)); (obtain ⟨ad297, e297, hx297_0⟩ := Kd.at_int HR0.out x5_1 p297 q297)
         cases e297
         (replace p297 := eq_true p297); (replace q297 := eq_true q297); (have p298 : 0 ≤ (x5_1 : Int) := od (by assumption)); (have q298 : x5_1 < (l1.length : Int) := od (by assumption)); (obtain ⟨ad298, e298, hx298_0⟩ := Kd.at_int HR1.out x5_1 p298 q298)
         cases e298
         (replace p298 := eq_true p298); (replace q298 := eq_true q298)
         go_wp2
         repeat (go_quiet (fail); try go_wp2)
         go_ret
         exact ⟨by first | rfl | (simp; done) | (simp [*]; done), by repeat (first | exact Drawn0.refl _ | apply Drawn0.step)⟩
     · rw [if_neg c4] at H
       (have c4b0 := decide_eq_false c4); clear c4; (obtain rfl := Option.some.inj H)
       go_wp2
       repeat (go_quiet (fail); try go_wp2)
       go_ret
       exact ⟨by first | rfl | (simp; done) | (simp [*]; done), by repeat (first | exact Drawn0.refl _ | apply Drawn0.step)⟩
 · rw [if_neg c3] at H
   (have c3b0 : ((l0.length : Int) == (l1.length : Int)) = false := beq_eq_false_iff_ne.mpr c3); (have c3b1 : ((l0.length : Int) != (l1.length : Int)) = true := bne_iff_ne.mpr c3); (have c3b2 : (l0.length == l1.length) = false := by first | simpa using c3 | (simp at c3 ⊢; omega)); (obtain rfl := Option.some.inj H)
   go_enter Try.func11, Try.ntmps11
   go_wp2
   repeat (go_quiet (fail); try go_wp2)
   go_ret
   exact ⟨by first | rfl | (simp; done) | (simp [*]; done), by repeat (first | exact Drawn0.refl _ | apply Drawn0.step)⟩

/-! ### laws_markByteS: function 38 -/
def laws_markByteS.l0 : Nat → List Int → Int → Int → Option (Int × List Int)
 | 0, _, _, _ => none
 | k + 1, x0, x1, x5 => if x5 < (x0.length : Int) then (if 0 ≤ x5 then (laws_markByteS.l0 k (x0.set (x5 : Int).toNat ((x1) % 256)) (wrap64 (x1 + 1)) (wrap64 (x5 + 1))) else (none)) else (some (x1, x0))
def laws_markByteS.f (k : Nat) (l0 : List Int) (a1 : Int) : Option (Int × List Int) := laws_markByteS.l0 k l0 a1 0
set_option maxHeartbeats 8000000 in
set_option maxRecDepth 100000 in
theorem laws_markByteS.calls (k : Nat) (P0_ : Nat → Prop) (u9000_ : Value) (l0 : List Int) (a1 : Int) (r1 : Int) (r2 : List Int) (w0 w : World) (hB : Below w0.heap.size w0 w) (ho0 : Kd.R (Kd.int .u8) 5 w w0.heap.size P0_ u9000_ l0) (h : laws_markByteS.f k l0 a1 = some (r1, r2)) :
 Calls Try.prog 38 #[u9000_, .int .i64 a1] w fun e w' => e = .returned (.int .i64 r1) ∧ Kd.R (Kd.int .u8) 5 w' w0.heap.size (fun k_ => (P0_ k_ ∨ w.heap.size ≤ k_)) u9000_ r2 ∧ Below w0.heap.size w0 w' ∧ Kept w w' (fun k_ => P0_ k_) := by
 have HO0 := aM (show Kd.R (Kd.int .u8) 5 w w0.heap.size (fun k_ => (P0_ k_ ∨ w.heap.size ≤ k_)) u9000_ l0 from Kd.R_mono ho0 (fun k_ hk => (.inl hk)))
 have HK := aM (Kept.refl w (fun k_ => P0_ k_))
 have HW0 := aM hB.size
 have HB := aM hB
 clear hB
 have H : (laws_markByteS.l0 k l0 a1 0) = some (r1, r2) := h
 clear h
 have H' := aM H
 clear H
 go_enter Try.func38, Try.ntmps38
 go_wp2
 go_loopg [1, 5] k (fun kq v1 v5 w' => ∃ (x0_1 : List Int) (x1_1 : Int) (x5_1 : Int), v1 = .int .i64 x1_1 ∧ v5 = .int .i64 x5_1 ∧ Aside0 (laws_markByteS.l0 kq x0_1 x1_1 x5_1 = some (r1, r2)) ∧ Aside0 (kq ≤ k) ∧ Aside0 (Kd.R (Kd.int .u8) 5 w' w0.heap.size (fun k_ => (P0_ k_ ∨ w.heap.size ≤ k_)) u9000_ x0_1) ∧ Aside0 (Kept w w' (fun k_ => P0_ k_)) ∧ Aside0 (Below w0.heap.size w0 w'))
 case atStart => exact ⟨(l0), (a1), (0), (by first | rfl | simp | simp [*]), (by first | rfl | simp | simp [*]), H', ⟨Nat.le_refl _⟩, ⟨by exact HO0.out⟩, ⟨by repeat (first | (with_reducible first | exact HK.out | apply Kept.alloc | apply Kept.drewN | apply Kept.drew) | exact HK.out)⟩, ⟨by repeat (with_reducible first | exact HB.out | apply zA | apply zN | apply zD)⟩⟩
 case round =>
  clear H'; (obtain ⟨x0_1, x1_1, x5_1, rfl, rfl, HA, HK1, HO_0, HK, HB⟩ := hrel)
  cases gk with
  | zero => exact absurd HA.out (by simp [laws_markByteS.l0])
  | succ k1 =>
   have H := HA.out; clear HA; (simp only [laws_markByteS.l0] at H)
   by_cases c3 : x5_1 < (x0_1.length : Int)
   · rw [if_pos c3] at H
     (have c3b0 := decide_eq_true c3); clear c3; (obtain ⟨c4, H⟩ := of_ite_none10 H); (have c4b0 := decide_eq_true c4); clear c4; (obtain ⟨y299, hy299⟩ : ∃ y_ : List Int, y_ = (x0_1.set (x5_1 : Int).toNat ((x1_1) % 256)) := ⟨_, rfl⟩); (replace H : (laws_markByteS.l0 k1 y299 (wrap64 (x1_1 + 1)) (wrap64 (x5_1 + 1))) = some (r1, r2) := by first | (rw [hy299]; with_reducible exact H) | (have H2_ := (Option.bind_some _ _).symm.trans H; rw [hy299]; with_reducible exact H2_) | (have H2_ := (Option.bind_some _ _).symm.trans H; with_reducible exact H2_) | with_reducible exact H | (rw [hy299]; exact H) | exact H); (have Ny299 := aM hy299); clear hy299; (have H' := aM H); clear H; (obtain ⟨Ao6, co6, eo6⟩ := Kd.R_slice HO_0.out); subst eo6; (have p5 : 0 ≤ (x5_1 : Int) := od (by assumption)); (have q5 : (x5_1 : Int) < ((x0_1.length : Int) : Int) := od (by assumption)); (obtain ⟨go5, co5, eo5, gb5, gl5, cl5, HG5⟩ := Kd.R_form HO_0.out (by omega))
     (first | cases eo5 | (injection eo5 with ea_ en_ ec_; (first | subst ea_ | (injection ea_ with ea_; subst ea_)); subst ec_; clear en_))
     (have GB5 := aM gb5); (have GG5 := aM HG5); clear gb5 gl5 HG5; (have HMgo5 := aM (show (P0_ go5 ∨ w.heap.size ≤ go5) from (HO_0.out.1 _ rfl))); (obtain ⟨hx5_0, hf5_0⟩ := Kd.R_celln 0 HO_0.out (x5_1 : Int) p5 q5); (replace p5 := eq_true p5); (replace q5 := eq_true q5); (have HP7 := Kd.R_putg HO_0.out (x5_1 : Int) ((x1_1) % 256))
     go_wp2_with (first | ((with_reducible refine gate_store (t := 5) (p := 16) rfl ?_); refine store_event (t := 5) (p := 16) (v := ?vo_w8) (w1 := (wr.setCell ⟨go5, (x5_1 : Int).toNat, none⟩ (.int .u8 ((x1_1) % 256)))) ?hg ?ho ?hn ?hr ?_; (case ho => rfl); (case hg => rfl); (case hn => rfl); (case hr => first | (go_simp; done) | (go_simp; rfl)); intro w8 hw; have hg : wr.grownBy w8 (some go5) := (by rw [hw]; exact HP7.2); have hp_ : Kd.R (Kd.int .u8) 5 w8 w0.heap.size (fun k_ => (P0_ k_ ∨ w.heap.size ≤ k_)) (.slice (some ⟨go5, 0, none⟩) x0_1.length co6) y299 := (by rw [hw, Ny299.out]; exact HP7.1); clear HP7; have n0_ := aM (hp_); have n1_ := aM ((by rw [hw]; exact zS (HB.out) GB5.out : Below w0.heap.size w0 w8)); have n2_ := aM (Kept.of_grown (S := (fun k_ => P0_ k_)) hg (by repeat (first | (with_reducible first | exact HK.out | apply Kept.alloc | apply Kept.drewN | apply Kept.drew) | exact HK.out)) (fun k_ e_ => (HO_0.out.1 k_ e_))); clear HO_0; clear HB; clear HK; have HO_0 := n0_; have HB := n1_; have HK := n2_; clear n0_ n1_ n2_; clear hg hw hp_))
     go_roundg k1
     case measure => have := HK1.out; omega
     case rel => exact ⟨(y299), (wrap64 (x1_1 + 1)), (wrap64 (x5_1 + 1)), (by first | rfl | simp | simp [*]), (by first | rfl | simp | simp [*]), H', ⟨by have := HK1.out; omega⟩, ⟨by exact HO_0.out⟩, ⟨by repeat (first | (with_reducible first | exact HK.out | apply Kept.alloc | apply Kept.drewN | apply Kept.drew) | exact HK.out)⟩, ⟨by repeat (with_reducible first | exact HB.out | apply zA | apply zN | apply zD)⟩⟩
   · rw [if_neg c3] at H
     (have c3b0 := decide_eq_false c3); clear c3; (simp only [Option.some.injEq, Prod.mk.injEq] at H); (obtain ⟨rfl, rfl⟩ := H); (obtain ⟨Ao9, co9, eo9⟩ := Kd.R_slice HO_0.out); subst eo9
     go_wp2
     go_ret
     exact ⟨by first | rfl | (simp [errW_none, errW_some] <;> rfl) | (simp [*, errW_none, errW_some] <;> rfl), by exact HO_0.out, by repeat (with_reducible first | exact HB.out | apply zA | apply zN | apply zD), by repeat (first | (with_reducible first | exact HK.out | apply Kept.alloc | apply Kept.drewN | apply Kept.drew) | exact HK.out)⟩

/-! ### laws_markFrameS: function 30 -/
def laws_markFrameS.l0 : Nat → List (S49) → Int → Int → Option (Int × (List (S49)))
 | 0, _, _, _ => none
 | k + 1, x0, x1, x5 => if x5 < (x0.length : Int) then (if 0 ≤ x5 then ((laws_markByteS.f k (rd_T49 x0 x5).f1 (wrap64 (x1 + 1))).bind fun bt => (laws_markFrameS.l0 k (x0.set (x5 : Int).toNat (⟨x1, bt.2⟩ : S49)) bt.1 (wrap64 (x5 + 1)))) else (none)) else (some (x1, x0))
def laws_markFrameS.f (k : Nat) (l0 : List (S49)) (a1 : Int) : Option (Int × (List (S49))) := laws_markFrameS.l0 k l0 a1 0
set_option maxHeartbeats 8000000 in
set_option maxRecDepth 100000 in
theorem laws_markFrameS.calls (k : Nat) (P0_ : Nat → Prop) (u9000_ : Value) (l0 : List (S49)) (a1 : Int) (r1 : Int) (r2 : List (S49)) (w0 w : World) (hB : Below w0.heap.size w0 w) (ho0 : Kd.S k49 49 w w0.heap.size P0_ u9000_ l0) (h : laws_markFrameS.f k l0 a1 = some (r1, r2)) :
 Calls Try.prog 30 #[u9000_, .int .i64 a1] w fun e w' => e = .returned (.int .i64 r1) ∧ Kd.S k49 49 w' w0.heap.size (fun k_ => (P0_ k_ ∨ w.heap.size ≤ k_)) u9000_ r2 ∧ Below w0.heap.size w0 w' ∧ Kept w w' (fun k_ => P0_ k_) := by
 have HO0 := aM (show Kd.S k49 49 w w0.heap.size (fun k_ => (P0_ k_ ∨ w.heap.size ≤ k_)) u9000_ l0 from Kd.S_mono ho0 (fun k_ hk => (.inl hk)))
 have HK := aM (Kept.refl w (fun k_ => P0_ k_))
 have HW0 := aM hB.size
 have HB := aM hB
 clear hB
 have H : (laws_markFrameS.l0 k l0 a1 0) = some (r1, r2) := h
 clear h
 have H' := aM H
 clear H
 go_enter Try.func30, Try.ntmps30
 go_wp2
 go_loopg [1, 5] k (fun kq v1 v5 w' => ∃ (x0_1 : List (S49)) (x1_1 : Int) (x5_1 : Int), v1 = .int .i64 x1_1 ∧ v5 = .int .i64 x5_1 ∧ Aside0 (laws_markFrameS.l0 kq x0_1 x1_1 x5_1 = some (r1, r2)) ∧ Aside0 (kq ≤ k) ∧ Aside0 (Kd.S k49 49 w' w0.heap.size (fun k_ => (P0_ k_ ∨ w.heap.size ≤ k_)) u9000_ x0_1) ∧ Aside0 (Kept w w' (fun k_ => P0_ k_)) ∧ Aside0 (Below w0.heap.size w0 w'))
 case atStart => exact ⟨(l0), (a1), (0), (by first | rfl | simp | simp [*]), (by first | rfl | simp | simp [*]), H', ⟨Nat.le_refl _⟩, ⟨by (with_reducible repeat (first | apply Kd.S_alloc | apply Kd.S_drewN | apply Kd.S_drew)); exact HO0.out⟩, ⟨by repeat (first | (with_reducible first | exact HK.out | apply Kept.alloc | apply Kept.drewN | apply Kept.drew) | exact HK.out)⟩, ⟨by repeat (with_reducible first | exact HB.out | apply zA | apply zN | apply zD)⟩⟩
 case round =>
  clear H'; (obtain ⟨x0_1, x1_1, x5_1, rfl, rfl, HA, HK1, HO_0, HK, HB⟩ := hrel)
  cases gk with
  | zero => exact absurd HA.out (by simp [laws_markFrameS.l0])
  | succ k1 =>
   have H := HA.out; clear HA; (simp only [laws_markFrameS.l0] at H)
   by_cases c3 : x5_1 < (x0_1.length : Int)
   · rw [if_pos c3] at H
     (have c3b0 := decide_eq_true c3); clear c3; (obtain ⟨c4, H⟩ := of_ite_none10 H); (have c4b0 := decide_eq_true c4); clear c4; (replace H := Option.bind_eq_some_iff.mp H); (obtain ⟨⟨t1, t2⟩, A50, H⟩ := H); (replace H : laws_markFrameS.l0 k1 (x0_1.set (x5_1 : Int).toNat (⟨x1_1, t2⟩ : S49)) t1 (wrap64 (x5_1 + 1)) = some (r1, r2) := H); (have A5 := aM A50); clear A50; (obtain ⟨y300, hy300⟩ : ∃ y_ : List (S49), y_ = (x0_1.set (x5_1 : Int).toNat (⟨x1_1, (rd_T49 x0_1 x5_1).f1⟩ : S49)) := ⟨_, rfl⟩); (have Ny300 := aM hy300); clear hy300; (have H' := aM H); clear H; (obtain ⟨Ao6, co6, eo6⟩ := Kd.S_slice HO_0.out); subst eo6; (have p5 : 0 ≤ (x5_1 : Int) := od (by assumption)); (have q5 : (x5_1 : Int) < ((x0_1.length : Int) : Int) := od (by assumption)); (obtain ⟨go5, co5, eo5, gb5, gl5, cl5, HG5⟩ := Kd.S_form HO_0.out (by omega))
     (first | cases eo5 | (injection eo5 with ea_ en_ ec_; (first | subst ea_ | (injection ea_ with ea_; subst ea_)); subst ec_; clear en_))
     (have GB5 := aM gb5); (have GG5 := aM HG5); clear gb5 gl5 HG5; (have HMgo5 := aM (show (P0_ go5 ∨ w.heap.size ≤ go5) from ((Kd.S_R HO_0.out).1 _ rfl))); (obtain ⟨_, ce5, hcl5, hM5, hcc5, hfr5, _, _⟩ := Kd.S_elem HO_0.out z49 (x5_1 : Int) p5 q5); (obtain ⟨ve5_1, rfl, ge5_1⟩ := k49_openM hM5); (have hx5_0 : wr.cell? ⟨go5, (x5_1 : Int).toNat * 2, none⟩ = some (.int .i64 ((rd_T49 x0_1 x5_1).f0)) := hcc5 0 _ rfl); (have hx5_1 : wr.cell? ⟨go5, (x5_1 : Int).toNat * 2 + 1, none⟩ = some (ve5_1) := hcc5 1 _ rfl); (have hf5_0 : wr.frozen? ⟨go5, (x5_1 : Int).toNat * 2, none⟩ = false := hfr5 0); (have hf5_1 : wr.frozen? ⟨go5, (x5_1 : Int).toNat * 2 + 1, none⟩ = false := hfr5 1); (clear hcl5 hcc5 hfr5;); (replace p5 := eq_true p5); (replace q5 := eq_true q5); (have HX7 := aM (show Kd.S k49 49 wr w0.heap.size (fun k_ => ((fun k_ => (P0_ k_ ∨ w.heap.size ≤ k_))) k_ ∧ ¬ ((fun _ => False)) k_) (.slice (some ⟨go5, 0, none⟩) x0_1.length co6) x0_1 from (by (with_reducible repeat (first | apply Kd.S_alloc | apply Kd.S_drewN | apply Kd.S_drew)); exact Kd.S_mono HO_0.out (fun k_ hk => ⟨hk, fun e_ => e_⟩)))); (obtain ⟨oki7, ce7, hcl7, hM7, hcc7, hfr7, hoki7, hH7⟩ := Kd.S_elem HX7.out z49 (x5_1 : Int) (od (by assumption)) (by have h_ : (x5_1 : Int) < ((x0_1.length : Int) : Int) := od (by assumption); first | exact h_ | (have e_ := (Kd.S_reads' HO_0.out).1; omega) | simpa using h_)); (obtain ⟨ve7_1, rfl, ge7_1⟩ := k49_openM hM7)
     (have HP7 := Kd.S_seg hH7 (od (by assumption)) (by have h_ : (x5_1 : Int) < ((x0_1.length : Int) : Int) := od (by assumption); first | exact h_ | (have e_ := (Kd.S_reads' HO_0.out).1; omega) | simpa using h_) (seg := [.int .i64 x1_1]) (j := 0) (show 1 ≤ 2 from by decide) (x' := (⟨x1_1, (rd_T49 x0_1 x5_1).f1⟩ : S49)) (k49_mkM _ _ _ (⟨x1_1, (rd_T49 x0_1 x5_1).f1⟩ : S49) (Kd.R_mono ge7_1 (fun _ h_ => Or.inl h_))) (fun _ hk => hk) (fun k_ hk_ => hk_.elim)); (have hx7_0 := hcc7 0 _ rfl); ((try simp only [show (k49).sz = 2 from rfl, Nat.mul_one, Nat.add_zero] at hx7_0)); (have hf7_0 := hfr7 0); ((try simp only [show (k49).sz = 2 from rfl, Nat.mul_one, Nat.add_zero] at hf7_0)); (clear hcl7 hcc7 hfr7; clear hoki7 hH7)
     go_wp2_with (first | ((with_reducible refine gate_store (t := 3) (p := 16) rfl ?_); refine store_event (t := 3) (p := 16) (v := ?vo_w8) (w1 := (wr.setCell ⟨go5, (x5_1 : Int).toNat * 2, none⟩ (.int .i64 x1_1))) ?hg ?ho ?hn ?hr ?_; (case ho => rfl); (case hg => rfl); (case hn => rfl); (case hr => first | (go_simp; done) | (go_simp; rfl)); intro w8 hw; have hg : wr.grownBy w8 (some go5) := (by rw [hw]; exact HP7.2); have hp_ : Kd.S k49 49 w8 w0.heap.size (fun k_ => (P0_ k_ ∨ w.heap.size ≤ k_)) (.slice (some ⟨go5, 0, none⟩) x0_1.length co6) y300 := (by rw [hw, Ny300.out]; exact HP7.1); clear HP7; have n0_ := aM (hp_); have n1_ := aM ((by rw [hw]; exact zS (HB.out) GB5.out : Below w0.heap.size w0 w8)); have n2_ := aM (Kept.of_grown (S := (fun k_ => P0_ k_)) hg (by repeat (first | (with_reducible first | exact HK.out | apply Kept.alloc | apply Kept.drewN | apply Kept.drew) | exact HK.out)) (fun k_ e_ => ((Kd.S_R HO_0.out).1 k_ e_))); clear HO_0; clear HB; clear HK; have HO_0 := n0_; have HB := n1_; have HK := n2_; clear n0_ n1_ n2_; clear hg hw hp_; have hl9 : (y300.length : Int) = (x0_1.length : Int) := (by rw [Ny300.out, List.length_set]); obtain ⟨oki9, ce9, hcl9, hM9, hcc9, hfr9, hoki9, hH9⟩ := Kd.S_elem HO_0.out z49 (x5_1 : Int) (od (by assumption)) (by have h_ : (x5_1 : Int) < (x0_1.length : Int) := od (by assumption); exact h_); have hv9 : y300.getD (x5_1 : Int).toNat z49 = (⟨x1_1, (rd_T49 x0_1 x5_1).f1⟩ : S49) := (by have h0_ : 0 ≤ x5_1 := od (by assumption); have h1_ : x5_1 < (x0_1.length : Int) := od (by assumption); have h2_ : x5_1.toNat < x0_1.length := (by omega); rw [Ny300.out, List.getD_eq_getElem?_getD, List.getElem?_set]; simp [h2_]); rw [hv9] at hM9; obtain ⟨ve9_1, rfl, ge9_1⟩ := k49_openM hM9; have hx9_1 : w8.cell? ⟨go5, (x5_1 : Int).toNat * 2 + 1, none⟩ = some (ve9_1) := hcc9 1 _ rfl; clear hcl9 hcc9 hfr9 hM9 hl9 hv9; have HE9 := aM ge9_1; have HH9 := aM hH9; have HK9 := aM hoki9; clear ge9_1 hH9 hoki9) | ((with_reducible refine gate_callee (f := 38) rfl ?_); refine goesL_ (some 25) rfl rfl Try.func38 (by kernel_rfl) rfl #[ve9_1, .int .i64 (wrap64 (x1_1 + 1))] rfl (by (try simp only [List.map_toArray, List.map_cons, List.map_nil]); first | done | rfl) ?_; (with_reducible refine (laws_markByteS.calls k1 oki9 ve9_1 ((rd_T49 x0_1 x5_1).f1) (wrap64 (x1_1 + 1)) t1 t2 w0 _ ?side1 ?side2 A5.out).mono ?_); (case side1 => exact HB.out); (case side2 => exact HE9.out); rintro e w10 ⟨rfl, hy0, hb, hkp⟩; refine ⟨_, rfl, ?_⟩; have n0_ := aM (Kd.H_back (Kd.H_kept HH9.out hkp (fun k_ _ hn_ hs_ => hn_ hs_)) (k49_mkM _ _ _ (⟨x1_1, t2⟩ : S49) (Kd.R_reok rfl hy0 (fun k_ e_ => HE9.out.1 k_ e_))) (fun _ h_ => h_)); have n1_ := aM (Kept.then_ HK.out hkp (fun k_ h_ => (HK9.out k_ h_).1)); have n2_ := aM hb; clear HO_0 HB HK; have HO_0 := n0_; have HK := n1_; have HB := n2_; clear n0_ n1_ n2_ hy0 hb hkp))
     go_roundg k1
     case measure => have := HK1.out; omega
     case rel => exact ⟨(x0_1.set (x5_1 : Int).toNat (⟨x1_1, t2⟩ : S49)), (t1), (wrap64 (x5_1 + 1)), (by first | rfl | simp | simp [*]), (by first | rfl | simp | simp [*]), H', ⟨by have := HK1.out; omega⟩, ⟨by have h_ := HO_0.out; rw [Ny300.out, List.set_set] at h_; exact h_⟩, ⟨by repeat (first | (with_reducible first | exact HK.out | apply Kept.alloc | apply Kept.drewN | apply Kept.drew) | exact HK.out)⟩, ⟨by repeat (with_reducible first | exact HB.out | apply zA | apply zN | apply zD)⟩⟩
   · rw [if_neg c3] at H
     (have c3b0 := decide_eq_false c3); clear c3; (simp only [Option.some.injEq, Prod.mk.injEq] at H); (obtain ⟨rfl, rfl⟩ := H); (obtain ⟨Ao9, co9, eo9⟩ := Kd.S_slice HO_0.out); subst eo9
     go_wp2
     go_ret
     exact ⟨by first | rfl | (simp [errW_none, errW_some] <;> rfl) | (simp [*, errW_none, errW_some] <;> rfl), by (with_reducible repeat (first | apply Kd.S_alloc | apply Kd.S_drewN | apply Kd.S_drew)); exact HO_0.out, by repeat (with_reducible first | exact HB.out | apply zA | apply zN | apply zD), by repeat (first | (with_reducible first | exact HK.out | apply Kept.alloc | apply Kept.drewN | apply Kept.drew) | exact HK.out)⟩

end Go.Proofs.Ytdiibgbekjlmlaa.PFnExactRunBus
