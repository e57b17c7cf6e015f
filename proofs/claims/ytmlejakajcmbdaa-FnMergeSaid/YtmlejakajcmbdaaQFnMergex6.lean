-- Written by this session's own program for the law FnMerge; it began as the print's text.
import Derived.Test.YtmlejakajcmbdaaQFnMergex0
import Derived.Test.YtmlejakajcmbdaaQFnMergex2
namespace Go.Proofs.Ytmlejakajcmbdaa.PFnMerge
open Go.RowKit Go.Proofs.YtmlejakajcmbdaaW.PrintWords Go.Proofs.YtmlejakajcmbdaaW.PrintLast Go.Proofs.YtmlejakajcmbdaaW.PrintMore
attribute [local go_sem] max2_int min2_int max_two min_two max_three min_three max_four min_four   -- for this text's walks alone
set_option linter.unusedVariables false
set_option linter.unusedSimpArgs false

/-! ### spec_l24Stamped: function 56 -/
def spec_l24Stamped.l0 : Nat → List (S48) → Int → Option (Bool)
  | 0, _, _ => none
  | k + 1, x0, x3 => if x3 < (x0.length : Int) then (if 0 ≤ (wrap64 (x3 - 1)) then (if (wrap64 (x3 - 1)) < (x0.length : Int) then (if 0 ≤ x3 then ((spec_l24Before.f ((rd_T48 x0 (wrap64 (x3 - 1))).f0) ((rd_T48 x0 (wrap64 (x3 - 1))).f1) ((rd_T48 x0 (wrap64 (x3 - 1))).f2) ((rd_T48 x0 x3).f0) ((rd_T48 x0 x3).f1) ((rd_T48 x0 x3).f2)).bind fun t205 => (if t205 = true then (spec_l24Stamped.l0 k x0 (wrap64 (x3 + 1))) else (some false))) else (none)) else (none)) else (none)) else (some true)
def spec_l24Stamped.f (k : Nat) (l0 : List (S48)) : Option (Bool) := if (l0.length : Int) > 40 then (some false) else (spec_l24Stamped.l0 k l0 1)
theorem spec_l24Stamped.mono_l : ∀ k, (∀ y0 y1, LeO (spec_l24Stamped.l0 k y0 y1) (spec_l24Stamped.l0 (k + 1) y0 y1))
  | 0 => fun _ _ r h => by simp [spec_l24Stamped.l0] at h
  | k + 1 => by
    have ih0 := spec_l24Stamped.mono_l k
    · intro y0 y1
      unfold spec_l24Stamped.l0
      repeat' first
      | (with_reducible exact ih0 _ _)
      | (with_reducible exact LeO.refl _)
      | (with_reducible exact LeO.none _)
      | (with_reducible refine LeO.ite ?_ ?_)
      | (with_reducible refine LeO.bind ?_ (fun _ => ?_))
      | exact ih0 _ _
      | exact LeO.none _
      | refine LeO.ite ?_ ?_
      | refine LeO.bind ?_ (fun _ => ?_)
theorem spec_l24Stamped.mono : ∀ a0 k, LeO (spec_l24Stamped.f k a0) (spec_l24Stamped.f (k + 1) a0) := by
  intro a0 k
  have ih0 := spec_l24Stamped.mono_l k
  unfold spec_l24Stamped.f
  repeat' first
      | (with_reducible exact ih0 _ _)
      | (with_reducible exact LeO.refl _)
      | (with_reducible exact LeO.none _)
      | (with_reducible refine LeO.ite ?_ ?_)
      | (with_reducible refine LeO.bind ?_ (fun _ => ?_))
      | exact ih0 _ _
      | exact LeO.none _
      | refine LeO.ite ?_ ?_
      | refine LeO.bind ?_ (fun _ => ?_)
def spec_l24Stamped.T6 : Bool × List (List Nat × List Nat) := (true, [([], []), ([], []), ([1], [1]), ([0, 2], [0, 2]), ([3], [3]), ([], []), ([], []), ([5, 6], [5, 6]), ([7], [7]), ([4, 8], [4, 8]), ([9], [9])])
def spec_l24Stamped.B6 : List Nat := [0, 0, 2, 7, 15, 0, 0, 96, 224, 511, 1023]
theorem spec_l24Stamped.tab6 : rtab .any (opsOf Try.f56 6) = spec_l24Stamped.T6 := by kernel_rfl
theorem spec_l24Stamped.bits6 : waitsOk spec_l24Stamped.T6.2 spec_l24Stamped.B6 = true := by kernel_rfl
set_option maxHeartbeats 8000000 in
set_option maxRecDepth 100000 in
theorem spec_l24Stamped.calls (k : Nat) (A0 : Option Addr) (c0 : Nat) (l0 : List (S48)) (r : Bool) (w : World) (hr0 : Kd.C k48 w A0 l0.length l0) (hc0 : l0.length ≤ c0) (h : spec_l24Stamped.f k l0 = some r) :
    Calls Try.prog 56 #[.slice A0 l0.length c0] w fun e w' => e = .returned (.bool r) ∧ Below w.heap.size w w' := by
  have hu48 := Try.underlying48
  have HR0 := Aside0.mk hr0
  have HC0 := Aside0.mk hc0
  clear hr0 hc0
  have HB := Aside0.mk (Below.refl w.heap.size w)
  have H : (if (l0.length : Int) > 40 then (some false) else (spec_l24Stamped.l0 k l0 1)) = some r := h
  clear h
  by_cases c2 : (l0.length : Int) > 40
  · rw [if_pos c2] at H
    have c2b0 : decide (40 < (l0.length : Int)) = true := decide_eq_true c2
    have c2b1 : decide (40 < l0.length) = true := decide_eq_true (by omega)
    clear c2
    obtain rfl := Option.some.inj H
    go_enter Try.func56, Try.ntmps56
    go_wp2
    go_ret
    exact ⟨by first | rfl | (simp [errW_none, errW_some] <;> rfl) | (simp [*, errW_none, errW_some] <;> rfl), by repeat (first | (with_reducible first | exact HB.out | apply below_alloc | apply pw_below_drewN | apply below_drew1) | exact HB.out)⟩
  · rw [if_neg c2] at H
    have c2b0 : decide (40 < (l0.length : Int)) = false := decide_eq_false c2
    have c2b1 : decide (40 < l0.length) = false := decide_eq_false (by omega)
    clear c2
    have H' := Aside0.mk H
    clear H
    go_enter Try.func56, Try.ntmps56
    go_wp2
    go_loopg [3] k (fun kq v3 w' => ∃ (x3_1 : Int), v3 = .int .i64 x3_1 ∧ Aside0 (spec_l24Stamped.l0 kq l0 x3_1 = some r) ∧ Aside0 (kq ≤ k) ∧ Aside0 (Below w.heap.size w w'))
    case atStart => exact ⟨(1), (by first | rfl | (simp; done) | (simp [*]; done)), H', ⟨Nat.le_refl _⟩, ⟨by repeat (first | (with_reducible first | exact HB.out | apply below_alloc | apply pw_below_drewN | apply below_drew1) | exact HB.out)⟩⟩
    case round =>
      clear H'
      try clear c2
      try clear c2b0
      try clear c2b1
      try clear p2
      obtain ⟨x3_1, rfl, HA, HK1, HB⟩ := hrel
      cases gk with
      | zero => exact absurd HA.out (by simp [spec_l24Stamped.l0])
      | succ k1 =>
        have H := HA.out
        clear HA
        simp only [spec_l24Stamped.l0] at H
        by_cases c3 : x3_1 < (l0.length : Int)
        · rw [if_pos c3] at H
          have c3b0 : decide (x3_1 < (l0.length : Int)) = true := decide_eq_true c3
          clear c3
          obtain ⟨ji4, hji4⟩ : ∃ j_ : Int, (wrap64 (x3_1 - 1)) = j_ := ⟨_, rfl⟩
          replace H : (if 0 ≤ (ji4) then (if (ji4) < (l0.length : Int) then (if 0 ≤ x3_1 then ((spec_l24Before.f ((rd_T48 l0 (ji4)).f0) ((rd_T48 l0 (ji4)).f1) ((rd_T48 l0 (ji4)).f2) ((rd_T48 l0 x3_1).f0) ((rd_T48 l0 x3_1).f1) ((rd_T48 l0 x3_1).f2)).bind fun t205 => (if t205 = true then (spec_l24Stamped.l0 k1 l0 (wrap64 (x3_1 + 1))) else (some false))) else (none)) else (none)) else (none)) = some r := by first | (rw [hji4] at H; exact H) | (simp only [hji4] at H ⊢; exact H)
          have hji4w : (IntKind.i64.wrap (x3_1 - 1)) = ji4 := (i64_w _).trans hji4
          by_cases c5 : 0 ≤ (ji4)
          · rw [if_pos c5] at H
            have c5b0 : decide (0 ≤ (ji4)) = true := decide_eq_true c5
            clear c5
            by_cases c6 : (ji4) < (l0.length : Int)
            · rw [if_pos c6] at H
              have c6b0 : decide ((ji4) < (l0.length : Int)) = true := decide_eq_true c6
              clear c6
              by_cases c7 : 0 ≤ x3_1
              · rw [if_pos c7] at H
                have c7b0 : decide (0 ≤ x3_1) = true := decide_eq_true c7
                clear c7
                replace H := Option.bind_eq_some_iff.mp H
                obtain ⟨t205, A80, H⟩ := H
                replace H : (if t205 = true then (spec_l24Stamped.l0 k1 l0 (wrap64 (x3_1 + 1))) else (some false)) = some r := H
                have A8 := Aside0.mk A80
                clear A80
                by_cases c9 : t205 = true
                · subst c9
                  have H1 : (spec_l24Stamped.l0 k1 l0 (wrap64 (x3_1 + 1))) = some r := by rw [if_pos rfl] at H; exact H
                  clear H
                  have H := H1
                  clear H1
                  have H' := Aside0.mk H
                  clear H
                  try go_wp2
                  have n0_ := Aside0.mk (below_drew1 HB.out)
                  clear HB
                  have HB := n0_
                  clear n0_
                  have p203 : 0 ≤ ((ji4) : Int) := of_decide_eq_true (by first | (with_reducible assumption) | assumption)
                  have q203 : (ji4) < (l0.length : Int) := of_decide_eq_true (by first | (with_reducible assumption) | assumption)
                  obtain ⟨ad203, e203, hx203_0, hx203_1, hx203_2⟩ := at_T48 HR0.out (ji4) p203 q203
                  have hw203_2 := hx203_2
                  have hw203_1 := hx203_1
                  have hw203_0 := hx203_0
                  cases e203
                  (first | replace hx203_0 := (HB.out.cell (World.block_lt_of_cell? w _ hx203_0)).trans hx203_0 | skip)
                  (first | replace hx203_1 := (HB.out.cell (World.block_lt_of_cell? w _ hx203_1)).trans hx203_1 | skip)
                  (first | replace hx203_2 := (HB.out.cell (World.block_lt_of_cell? w _ hx203_2)).trans hx203_2 | skip)
                  replace p203 := eq_true p203
                  replace q203 := eq_true q203
                  have p204 : 0 ≤ (x3_1 : Int) := of_decide_eq_true (by first | (with_reducible assumption) | assumption)
                  have q204 : x3_1 < (l0.length : Int) := of_decide_eq_true (by first | (with_reducible assumption) | assumption)
                  obtain ⟨ad204, e204, hx204_0, hx204_1, hx204_2⟩ := at_T48 HR0.out x3_1 p204 q204
                  have hw204_2 := hx204_2
                  have hw204_1 := hx204_1
                  have hw204_0 := hx204_0
                  obtain rfl : ad203 = ad204 := (by injection e204)
                  (first | replace hx204_0 := (HB.out.cell (World.block_lt_of_cell? w _ hx204_0)).trans hx204_0 | skip)
                  (first | replace hx204_1 := (HB.out.cell (World.block_lt_of_cell? w _ hx204_1)).trans hx204_1 | skip)
                  (first | replace hx204_2 := (HB.out.cell (World.block_lt_of_cell? w _ hx204_2)).trans hx204_2 | skip)
                  replace p204 := eq_true p204
                  replace q204 := eq_true q204
                  refine start_ (n := 11) (S := fun w' => w'.cell? (ad203.add (((ji4)).toNat * 3)) = some (.int .i64 ((rd_T48 l0 (ji4)).f0)) ∧ w'.cell? ⟨(ad203.add (((ji4)).toNat * 3)).block, (ad203.add (((ji4)).toNat * 3)).off + 1, none⟩ = some (.int .i64 ((rd_T48 l0 (ji4)).f1)) ∧ w'.cell? ⟨(ad203.add (((ji4)).toNat * 3)).block, (ad203.add (((ji4)).toNat * 3)).off + 2, none⟩ = some (.int .i64 ((rd_T48 l0 (ji4)).f2)) ∧ w'.cell? (ad203.add ((x3_1).toNat * 3)) = some (.int .i64 ((rd_T48 l0 x3_1).f0)) ∧ w'.cell? ⟨(ad203.add ((x3_1).toNat * 3)).block, (ad203.add ((x3_1).toNat * 3)).off + 1, none⟩ = some (.int .i64 ((rd_T48 l0 x3_1).f1)) ∧ w'.cell? ⟨(ad203.add ((x3_1).toNat * 3)).block, (ad203.add ((x3_1).toNat * 3)).off + 2, none⟩ = some (.int .i64 ((rd_T48 l0 x3_1).f2))) (ds := []) #[false, false, false, false, false, false, false, false, false, false, false] (by kernel_rfl) rfl rfl ⟨(by first | exact (HB.out.cell (World.block_lt_of_cell? w _ hw203_0)).trans hw203_0 | exact hw203_0 | (obtain ⟨ad_, e_, h0_, h1_, h2_⟩ := at_T48 HR0.out (ji4) (by first | exact of_eq_true p203 | exact of_decide_eq_true (by assumption)) (by first | exact of_eq_true q203 | exact of_decide_eq_true (by assumption)); cases e_; first | exact h0_ | exact h1_ | exact h2_)), (by first | exact (HB.out.cell (World.block_lt_of_cell? w _ hw203_1)).trans hw203_1 | exact hw203_1 | (obtain ⟨ad_, e_, h0_, h1_, h2_⟩ := at_T48 HR0.out (ji4) (by first | exact of_eq_true p203 | exact of_decide_eq_true (by assumption)) (by first | exact of_eq_true q203 | exact of_decide_eq_true (by assumption)); cases e_; first | exact h0_ | exact h1_ | exact h2_)), (by first | exact (HB.out.cell (World.block_lt_of_cell? w _ hw203_2)).trans hw203_2 | exact hw203_2 | (obtain ⟨ad_, e_, h0_, h1_, h2_⟩ := at_T48 HR0.out (ji4) (by first | exact of_eq_true p203 | exact of_decide_eq_true (by assumption)) (by first | exact of_eq_true q203 | exact of_decide_eq_true (by assumption)); cases e_; first | exact h0_ | exact h1_ | exact h2_)), (by first | exact (HB.out.cell (World.block_lt_of_cell? w _ hw204_0)).trans hw204_0 | exact hw204_0 | (obtain ⟨ad_, e_, h0_, h1_, h2_⟩ := at_T48 HR0.out x3_1 (by first | exact of_eq_true p204 | exact of_decide_eq_true (by assumption)) (by first | exact of_eq_true q204 | exact of_decide_eq_true (by assumption)); cases e_; first | exact h0_ | exact h1_ | exact h2_)), (by first | exact (HB.out.cell (World.block_lt_of_cell? w _ hw204_1)).trans hw204_1 | exact hw204_1 | (obtain ⟨ad_, e_, h0_, h1_, h2_⟩ := at_T48 HR0.out x3_1 (by first | exact of_eq_true p204 | exact of_decide_eq_true (by assumption)) (by first | exact of_eq_true q204 | exact of_decide_eq_true (by assumption)); cases e_; first | exact h0_ | exact h1_ | exact h2_)), (by first | exact (HB.out.cell (World.block_lt_of_cell? w _ hw204_2)).trans hw204_2 | exact hw204_2 | (obtain ⟨ad_, e_, h0_, h1_, h2_⟩ := at_T48 HR0.out x3_1 (by first | exact of_eq_true p204 | exact of_decide_eq_true (by assumption)) (by first | exact of_eq_true q204 | exact of_decide_eq_true (by assumption)); cases e_; first | exact h0_ | exact h1_ | exact h2_))⟩ (fun hHeld => ?_); refine with_tabW spec_l24Stamped.tab6 spec_l24Stamped.bits6 (fun HT_ HW_ => ?_)
                  generalize wr.drew = w10 at HB hx203_0 hx203_1 hx203_2 hx204_0 hx204_1 hx204_2 hHeld ⊢
                  refine pure_ (i := 0) (N := some 13) (v := ?_) (a' := ?_) #[true, false, false, false, false, false, false, false, false, false, false] rfl rfl (any_of HT_.out (by kernel_rfl)) (fun _ _ _ h => h) (Or.inl ⟨by rfl, ?_⟩) ?_ ?_
                  rotate_left
                  · intro w'
                    go_simp
                    with_reducible rfl
                  rotate_left
                  · simp only [Act.put, List.setIfInBounds_toArray, List.set_cons_zero, List.set_cons_succ, i64_w, i32_w]
                    rfl
                  refine pure_ (i := 1) (N := some 14) (v := ?_) (a' := ?_) #[true, true, false, false, false, false, false, false, false, false, false] rfl rfl (any_of HT_.out (by kernel_rfl)) (fun _ _ _ h => h) (Or.inl ⟨by rfl, ?_⟩) ?_ ?_
                  rotate_left
                  · intro w'
                    go_simp
                    with_reducible rfl
                  rotate_left
                  · simp only [Act.put, List.setIfInBounds_toArray, List.set_cons_zero, List.set_cons_succ, i64_w, i32_w]
                    rfl
                  refine pure_ (i := 2) (N := some 15) (v := ?_) (a' := ?_) #[true, true, true, false, false, false, false, false, false, false, false] rfl rfl (any_of HT_.out (by kernel_rfl)) (fun _ _ _ h => h) (Or.inl ⟨by rfl, ?_⟩) ?_ ?_
                  rotate_left
                  · intro w'
                    go_simp
                    with_reducible rfl
                  rotate_left
                  · simp only [Act.put, List.setIfInBounds_toArray, List.set_cons_zero, List.set_cons_succ, i64_w, i32_w]
                    rfl
                  refine pure_ (i := 3) (N := some 16) (v := ?_) (a' := ?_) #[true, true, true, true, false, false, false, false, false, false, false] rfl rfl (any_of HT_.out (by kernel_rfl)) (fun _ _ _ h => h) (Or.inl ⟨by rfl, ?_⟩) ?_ ?_
                  rotate_left
                  · intro w'
                    go_simp
                    with_reducible rfl
                  rotate_left
                  · simp only [Act.put, List.setIfInBounds_toArray, List.set_cons_zero, List.set_cons_succ, i64_w, i32_w]
                    rfl
                  refine pure_ (i := 5) (N := some 18) (v := ?_) (a' := ?_) #[true, true, true, true, false, true, false, false, false, false, false] rfl rfl (any_of HT_.out (by kernel_rfl)) (fun _ _ _ h => h) (Or.inl ⟨by rfl, ?_⟩) ?_ ?_
                  rotate_left
                  · intro w'
                    go_simp
                    with_reducible rfl
                  rotate_left
                  · simp only [Act.put, List.setIfInBounds_toArray, List.set_cons_zero, List.set_cons_succ, i64_w, i32_w]
                    rfl
                  refine pure_ (i := 6) (N := some 19) (v := ?_) (a' := ?_) #[true, true, true, true, false, true, true, false, false, false, false] rfl rfl (any_of HT_.out (by kernel_rfl)) (fun _ _ _ h => h) (Or.inl ⟨by rfl, ?_⟩) ?_ ?_
                  rotate_left
                  · intro w'
                    go_simp
                    with_reducible rfl
                  rotate_left
                  · simp only [Act.put, List.setIfInBounds_toArray, List.set_cons_zero, List.set_cons_succ, i64_w, i32_w]
                    rfl
                  refine pure_ (i := 7) (N := some 20) (v := ?_) (a' := ?_) #[true, true, true, true, false, true, true, true, false, false, false] rfl rfl (any_of HT_.out (by kernel_rfl)) (fun _ _ _ h => h) (Or.inl ⟨by rfl, ?_⟩) ?_ ?_
                  rotate_left
                  · intro w'
                    go_simp
                    with_reducible rfl
                  rotate_left
                  · simp only [Act.put, List.setIfInBounds_toArray, List.set_cons_zero, List.set_cons_succ, i64_w, i32_w]
                    rfl
                  refine take_ (i := 4) (N := some 17) (v := ?_) (a' := ?_) #[true, true, true, true, true, true, true, true, false, false, false] rfl rfl (take_ofW HT_.out HW_.out (by kernel_rfl)) (fun _ _ _ h => h) (Or.inl ⟨by rfl, ?_⟩) hHeld ?_ ?_
                  rotate_left
                  · rintro w' ⟨s0, s1, s2, s3, s4, s5⟩
                    go_simp
                    with_reducible rfl
                  rotate_left
                  · simp only [Act.put, List.setIfInBounds_toArray, List.set_cons_zero, List.set_cons_succ, i64_w, i32_w]
                    rfl
                  refine take_ (i := 8) (N := some 21) (v := ?_) (a' := ?_) #[true, true, true, true, true, true, true, true, true, false, false] rfl rfl (take_ofW HT_.out HW_.out (by kernel_rfl)) (fun _ _ _ h => h) (Or.inl ⟨by rfl, ?_⟩) hHeld ?_ ?_
                  rotate_left
                  · rintro w' ⟨s0, s1, s2, s3, s4, s5⟩
                    go_simp
                    with_reducible rfl
                  rotate_left
                  · simp only [Act.put, List.setIfInBounds_toArray, List.set_cons_zero, List.set_cons_succ, i64_w, i32_w]
                    rfl
                  refine one_ (i := 9) (N := some 22) #[true, true, true, true, true, true, true, true, true, true, false] rfl rfl (one_of HT_.out (by kernel_rfl)) (by decide) (fun K hK => ?_)
                  refine goes_ Try.func57 (by kernel_rfl) rfl #[.agg #[.int .i64 ((rd_T48 l0 (ji4)).f0), .int .i64 ((rd_T48 l0 (ji4)).f1), .int .i64 ((rd_T48 l0 (ji4)).f2)], .agg #[.int .i64 ((rd_T48 l0 x3_1).f0), .int .i64 ((rd_T48 l0 x3_1).f1), .int .i64 ((rd_T48 l0 x3_1).f2)]] (by rfl) rfl rfl (by (try simp only [List.map_toArray, List.map_cons, List.map_nil]); first | done | (simp only [hji4]; rfl) | rfl | (simp only [List.length_drop, List.length_take]; rfl)) ?_
                  with_reducible refine (spec_l24Before.calls ((rd_T48 l0 (ji4)).f0) ((rd_T48 l0 (ji4)).f1) ((rd_T48 l0 (ji4)).f2) ((rd_T48 l0 x3_1).f0) ((rd_T48 l0 x3_1).f1) ((rd_T48 l0 x3_1).f2) true _ A8.out).mono ?_
                  rintro e w11 ⟨rfl, hb⟩
                  refine ⟨_, rfl, ?_⟩
                  have n0_ := Aside0.mk (below_step (by repeat (first | (with_reducible first | exact HB.out | apply below_alloc | apply pw_below_drewN | apply below_drew1) | exact HB.out)) hb)
                  clear HB
                  have HB := n0_
                  clear n0_
                  (try clear hb)
                  (try clear hb2)
                  (try clear hk)
                  (try clear hi)
                  refine hK.out _ _ ⟨(by first | exact (HB.out.cell (World.block_lt_of_cell? w _ hw203_0)).trans hw203_0 | exact hw203_0 | (obtain ⟨ad_, e_, h0_, h1_, h2_⟩ := at_T48 HR0.out (ji4) (by first | exact of_eq_true p203 | exact of_decide_eq_true (by assumption)) (by first | exact of_eq_true q203 | exact of_decide_eq_true (by assumption)); cases e_; first | exact h0_ | exact h1_ | exact h2_)), (by first | exact (HB.out.cell (World.block_lt_of_cell? w _ hw203_1)).trans hw203_1 | exact hw203_1 | (obtain ⟨ad_, e_, h0_, h1_, h2_⟩ := at_T48 HR0.out (ji4) (by first | exact of_eq_true p203 | exact of_decide_eq_true (by assumption)) (by first | exact of_eq_true q203 | exact of_decide_eq_true (by assumption)); cases e_; first | exact h0_ | exact h1_ | exact h2_)), (by first | exact (HB.out.cell (World.block_lt_of_cell? w _ hw203_2)).trans hw203_2 | exact hw203_2 | (obtain ⟨ad_, e_, h0_, h1_, h2_⟩ := at_T48 HR0.out (ji4) (by first | exact of_eq_true p203 | exact of_decide_eq_true (by assumption)) (by first | exact of_eq_true q203 | exact of_decide_eq_true (by assumption)); cases e_; first | exact h0_ | exact h1_ | exact h2_)), (by first | exact (HB.out.cell (World.block_lt_of_cell? w _ hw204_0)).trans hw204_0 | exact hw204_0 | (obtain ⟨ad_, e_, h0_, h1_, h2_⟩ := at_T48 HR0.out x3_1 (by first | exact of_eq_true p204 | exact of_decide_eq_true (by assumption)) (by first | exact of_eq_true q204 | exact of_decide_eq_true (by assumption)); cases e_; first | exact h0_ | exact h1_ | exact h2_)), (by first | exact (HB.out.cell (World.block_lt_of_cell? w _ hw204_1)).trans hw204_1 | exact hw204_1 | (obtain ⟨ad_, e_, h0_, h1_, h2_⟩ := at_T48 HR0.out x3_1 (by first | exact of_eq_true p204 | exact of_decide_eq_true (by assumption)) (by first | exact of_eq_true q204 | exact of_decide_eq_true (by assumption)); cases e_; first | exact h0_ | exact h1_ | exact h2_)), (by first | exact (HB.out.cell (World.block_lt_of_cell? w _ hw204_2)).trans hw204_2 | exact hw204_2 | (obtain ⟨ad_, e_, h0_, h1_, h2_⟩ := at_T48 HR0.out x3_1 (by first | exact of_eq_true p204 | exact of_decide_eq_true (by assumption)) (by first | exact of_eq_true q204 | exact of_decide_eq_true (by assumption)); cases e_; first | exact h0_ | exact h1_ | exact h2_))⟩ (fun hHeld => ?_)
                  clear hK K
                  refine norm_ (a' := ?_) ?_ ?_
                  rotate_left
                  · show Act.put _ (some 22) _ = _
                    simp only [Act.put, List.setIfInBounds_toArray, List.set_cons_zero, List.set_cons_succ, i64_w, i32_w]
                    rfl
                  refine pure_ (i := 10) (N := some 23) (v := ?_) (a' := ?_) #[true, true, true, true, true, true, true, true, true, true, true] rfl rfl (any_of HT_.out (by kernel_rfl)) (fun _ _ _ h => h) (Or.inl ⟨by rfl, ?_⟩) ?_ ?_
                  rotate_left
                  · intro w'
                    go_simp
                    with_reducible rfl
                  rotate_left
                  · simp only [Act.put, List.setIfInBounds_toArray, List.set_cons_zero, List.set_cons_succ, i64_w, i32_w]
                    rfl
                  refine done_ (done_of HT_.out (by kernel_rfl)) ?_
                  try go_wp2
                  go_roundg k1
                  case measure => have := HK1.out; omega
                  case rel => exact ⟨(wrap64 (x3_1 + 1)), (by first | rfl | (simp; done) | (simp [*]; done)), H', ⟨by have := HK1.out; omega⟩, ⟨by repeat (first | (with_reducible first | exact HB.out | apply below_alloc | apply pw_below_drewN | apply below_drew1) | exact HB.out)⟩⟩
                · replace c9 := Bool.eq_false_iff.mpr c9
                  subst c9
                  have H1 : (some false) = some r := by rw [if_neg (show ¬ (false = true) by decide)] at H; exact H
                  clear H
                  have H := H1
                  clear H1
                  obtain rfl := Option.some.inj H
                  try go_wp2
                  have n0_ := Aside0.mk (below_drew1 HB.out)
                  clear HB
                  have HB := n0_
                  clear n0_
                  have p203 : 0 ≤ ((ji4) : Int) := of_decide_eq_true (by first | (with_reducible assumption) | assumption)
                  have q203 : (ji4) < (l0.length : Int) := of_decide_eq_true (by first | (with_reducible assumption) | assumption)
                  obtain ⟨ad203, e203, hx203_0, hx203_1, hx203_2⟩ := at_T48 HR0.out (ji4) p203 q203
                  have hw203_2 := hx203_2
                  have hw203_1 := hx203_1
                  have hw203_0 := hx203_0
                  cases e203
                  (first | replace hx203_0 := (HB.out.cell (World.block_lt_of_cell? w _ hx203_0)).trans hx203_0 | skip)
                  (first | replace hx203_1 := (HB.out.cell (World.block_lt_of_cell? w _ hx203_1)).trans hx203_1 | skip)
                  (first | replace hx203_2 := (HB.out.cell (World.block_lt_of_cell? w _ hx203_2)).trans hx203_2 | skip)
                  replace p203 := eq_true p203
                  replace q203 := eq_true q203
                  have p204 : 0 ≤ (x3_1 : Int) := of_decide_eq_true (by first | (with_reducible assumption) | assumption)
                  have q204 : x3_1 < (l0.length : Int) := of_decide_eq_true (by first | (with_reducible assumption) | assumption)
                  obtain ⟨ad204, e204, hx204_0, hx204_1, hx204_2⟩ := at_T48 HR0.out x3_1 p204 q204
                  have hw204_2 := hx204_2
                  have hw204_1 := hx204_1
                  have hw204_0 := hx204_0
                  obtain rfl : ad203 = ad204 := (by injection e204)
                  (first | replace hx204_0 := (HB.out.cell (World.block_lt_of_cell? w _ hx204_0)).trans hx204_0 | skip)
                  (first | replace hx204_1 := (HB.out.cell (World.block_lt_of_cell? w _ hx204_1)).trans hx204_1 | skip)
                  (first | replace hx204_2 := (HB.out.cell (World.block_lt_of_cell? w _ hx204_2)).trans hx204_2 | skip)
                  replace p204 := eq_true p204
                  replace q204 := eq_true q204
                  refine start_ (n := 11) (S := fun w' => w'.cell? (ad203.add (((ji4)).toNat * 3)) = some (.int .i64 ((rd_T48 l0 (ji4)).f0)) ∧ w'.cell? ⟨(ad203.add (((ji4)).toNat * 3)).block, (ad203.add (((ji4)).toNat * 3)).off + 1, none⟩ = some (.int .i64 ((rd_T48 l0 (ji4)).f1)) ∧ w'.cell? ⟨(ad203.add (((ji4)).toNat * 3)).block, (ad203.add (((ji4)).toNat * 3)).off + 2, none⟩ = some (.int .i64 ((rd_T48 l0 (ji4)).f2)) ∧ w'.cell? (ad203.add ((x3_1).toNat * 3)) = some (.int .i64 ((rd_T48 l0 x3_1).f0)) ∧ w'.cell? ⟨(ad203.add ((x3_1).toNat * 3)).block, (ad203.add ((x3_1).toNat * 3)).off + 1, none⟩ = some (.int .i64 ((rd_T48 l0 x3_1).f1)) ∧ w'.cell? ⟨(ad203.add ((x3_1).toNat * 3)).block, (ad203.add ((x3_1).toNat * 3)).off + 2, none⟩ = some (.int .i64 ((rd_T48 l0 x3_1).f2))) (ds := []) #[false, false, false, false, false, false, false, false, false, false, false] (by kernel_rfl) rfl rfl ⟨(by first | exact (HB.out.cell (World.block_lt_of_cell? w _ hw203_0)).trans hw203_0 | exact hw203_0 | (obtain ⟨ad_, e_, h0_, h1_, h2_⟩ := at_T48 HR0.out (ji4) (by first | exact of_eq_true p203 | exact of_decide_eq_true (by assumption)) (by first | exact of_eq_true q203 | exact of_decide_eq_true (by assumption)); cases e_; first | exact h0_ | exact h1_ | exact h2_)), (by first | exact (HB.out.cell (World.block_lt_of_cell? w _ hw203_1)).trans hw203_1 | exact hw203_1 | (obtain ⟨ad_, e_, h0_, h1_, h2_⟩ := at_T48 HR0.out (ji4) (by first | exact of_eq_true p203 | exact of_decide_eq_true (by assumption)) (by first | exact of_eq_true q203 | exact of_decide_eq_true (by assumption)); cases e_; first | exact h0_ | exact h1_ | exact h2_)), (by first | exact (HB.out.cell (World.block_lt_of_cell? w _ hw203_2)).trans hw203_2 | exact hw203_2 | (obtain ⟨ad_, e_, h0_, h1_, h2_⟩ := at_T48 HR0.out (ji4) (by first | exact of_eq_true p203 | exact of_decide_eq_true (by assumption)) (by first | exact of_eq_true q203 | exact of_decide_eq_true (by assumption)); cases e_; first | exact h0_ | exact h1_ | exact h2_)), (by first | exact (HB.out.cell (World.block_lt_of_cell? w _ hw204_0)).trans hw204_0 | exact hw204_0 | (obtain ⟨ad_, e_, h0_, h1_, h2_⟩ := at_T48 HR0.out x3_1 (by first | exact of_eq_true p204 | exact of_decide_eq_true (by assumption)) (by first | exact of_eq_true q204 | exact of_decide_eq_true (by assumption)); cases e_; first | exact h0_ | exact h1_ | exact h2_)), (by first | exact (HB.out.cell (World.block_lt_of_cell? w _ hw204_1)).trans hw204_1 | exact hw204_1 | (obtain ⟨ad_, e_, h0_, h1_, h2_⟩ := at_T48 HR0.out x3_1 (by first | exact of_eq_true p204 | exact of_decide_eq_true (by assumption)) (by first | exact of_eq_true q204 | exact of_decide_eq_true (by assumption)); cases e_; first | exact h0_ | exact h1_ | exact h2_)), (by first | exact (HB.out.cell (World.block_lt_of_cell? w _ hw204_2)).trans hw204_2 | exact hw204_2 | (obtain ⟨ad_, e_, h0_, h1_, h2_⟩ := at_T48 HR0.out x3_1 (by first | exact of_eq_true p204 | exact of_decide_eq_true (by assumption)) (by first | exact of_eq_true q204 | exact of_decide_eq_true (by assumption)); cases e_; first | exact h0_ | exact h1_ | exact h2_))⟩ (fun hHeld => ?_); refine with_tabW spec_l24Stamped.tab6 spec_l24Stamped.bits6 (fun HT_ HW_ => ?_)
                  generalize wr.drew = w12 at HB hx203_0 hx203_1 hx203_2 hx204_0 hx204_1 hx204_2 hHeld ⊢
                  refine pure_ (i := 0) (N := some 13) (v := ?_) (a' := ?_) #[true, false, false, false, false, false, false, false, false, false, false] rfl rfl (any_of HT_.out (by kernel_rfl)) (fun _ _ _ h => h) (Or.inl ⟨by rfl, ?_⟩) ?_ ?_
                  rotate_left
                  · intro w'
                    go_simp
                    with_reducible rfl
                  rotate_left
                  · simp only [Act.put, List.setIfInBounds_toArray, List.set_cons_zero, List.set_cons_succ, i64_w, i32_w]
                    rfl
                  refine pure_ (i := 1) (N := some 14) (v := ?_) (a' := ?_) #[true, true, false, false, false, false, false, false, false, false, false] rfl rfl (any_of HT_.out (by kernel_rfl)) (fun _ _ _ h => h) (Or.inl ⟨by rfl, ?_⟩) ?_ ?_
                  rotate_left
                  · intro w'
                    go_simp
                    with_reducible rfl
                  rotate_left
                  · simp only [Act.put, List.setIfInBounds_toArray, List.set_cons_zero, List.set_cons_succ, i64_w, i32_w]
                    rfl
                  refine pure_ (i := 2) (N := some 15) (v := ?_) (a' := ?_) #[true, true, true, false, false, false, false, false, false, false, false] rfl rfl (any_of HT_.out (by kernel_rfl)) (fun _ _ _ h => h) (Or.inl ⟨by rfl, ?_⟩) ?_ ?_
                  rotate_left
                  · intro w'
                    go_simp
                    with_reducible rfl
                  rotate_left
                  · simp only [Act.put, List.setIfInBounds_toArray, List.set_cons_zero, List.set_cons_succ, i64_w, i32_w]
                    rfl
                  refine pure_ (i := 3) (N := some 16) (v := ?_) (a' := ?_) #[true, true, true, true, false, false, false, false, false, false, false] rfl rfl (any_of HT_.out (by kernel_rfl)) (fun _ _ _ h => h) (Or.inl ⟨by rfl, ?_⟩) ?_ ?_
                  rotate_left
                  · intro w'
                    go_simp
                    with_reducible rfl
                  rotate_left
                  · simp only [Act.put, List.setIfInBounds_toArray, List.set_cons_zero, List.set_cons_succ, i64_w, i32_w]
                    rfl
                  refine pure_ (i := 5) (N := some 18) (v := ?_) (a' := ?_) #[true, true, true, true, false, true, false, false, false, false, false] rfl rfl (any_of HT_.out (by kernel_rfl)) (fun _ _ _ h => h) (Or.inl ⟨by rfl, ?_⟩) ?_ ?_
                  rotate_left
                  · intro w'
                    go_simp
                    with_reducible rfl
                  rotate_left
                  · simp only [Act.put, List.setIfInBounds_toArray, List.set_cons_zero, List.set_cons_succ, i64_w, i32_w]
                    rfl
                  refine pure_ (i := 6) (N := some 19) (v := ?_) (a' := ?_) #[true, true, true, true, false, true, true, false, false, false, false] rfl rfl (any_of HT_.out (by kernel_rfl)) (fun _ _ _ h => h) (Or.inl ⟨by rfl, ?_⟩) ?_ ?_
                  rotate_left
                  · intro w'
                    go_simp
                    with_reducible rfl
                  rotate_left
                  · simp only [Act.put, List.setIfInBounds_toArray, List.set_cons_zero, List.set_cons_succ, i64_w, i32_w]
                    rfl
                  refine pure_ (i := 7) (N := some 20) (v := ?_) (a' := ?_) #[true, true, true, true, false, true, true, true, false, false, false] rfl rfl (any_of HT_.out (by kernel_rfl)) (fun _ _ _ h => h) (Or.inl ⟨by rfl, ?_⟩) ?_ ?_
                  rotate_left
                  · intro w'
                    go_simp
                    with_reducible rfl
                  rotate_left
                  · simp only [Act.put, List.setIfInBounds_toArray, List.set_cons_zero, List.set_cons_succ, i64_w, i32_w]
                    rfl
                  refine take_ (i := 4) (N := some 17) (v := ?_) (a' := ?_) #[true, true, true, true, true, true, true, true, false, false, false] rfl rfl (take_ofW HT_.out HW_.out (by kernel_rfl)) (fun _ _ _ h => h) (Or.inl ⟨by rfl, ?_⟩) hHeld ?_ ?_
                  rotate_left
                  · rintro w' ⟨s0, s1, s2, s3, s4, s5⟩
                    go_simp
                    with_reducible rfl
                  rotate_left
                  · simp only [Act.put, List.setIfInBounds_toArray, List.set_cons_zero, List.set_cons_succ, i64_w, i32_w]
                    rfl
                  refine take_ (i := 8) (N := some 21) (v := ?_) (a' := ?_) #[true, true, true, true, true, true, true, true, true, false, false] rfl rfl (take_ofW HT_.out HW_.out (by kernel_rfl)) (fun _ _ _ h => h) (Or.inl ⟨by rfl, ?_⟩) hHeld ?_ ?_
                  rotate_left
                  · rintro w' ⟨s0, s1, s2, s3, s4, s5⟩
                    go_simp
                    with_reducible rfl
                  rotate_left
                  · simp only [Act.put, List.setIfInBounds_toArray, List.set_cons_zero, List.set_cons_succ, i64_w, i32_w]
                    rfl
                  refine one_ (i := 9) (N := some 22) #[true, true, true, true, true, true, true, true, true, true, false] rfl rfl (one_of HT_.out (by kernel_rfl)) (by decide) (fun K hK => ?_)
                  refine goes_ Try.func57 (by kernel_rfl) rfl #[.agg #[.int .i64 ((rd_T48 l0 (ji4)).f0), .int .i64 ((rd_T48 l0 (ji4)).f1), .int .i64 ((rd_T48 l0 (ji4)).f2)], .agg #[.int .i64 ((rd_T48 l0 x3_1).f0), .int .i64 ((rd_T48 l0 x3_1).f1), .int .i64 ((rd_T48 l0 x3_1).f2)]] (by rfl) rfl rfl (by (try simp only [List.map_toArray, List.map_cons, List.map_nil]); first | done | (simp only [hji4]; rfl) | rfl | (simp only [List.length_drop, List.length_take]; rfl)) ?_
                  with_reducible refine (spec_l24Before.calls ((rd_T48 l0 (ji4)).f0) ((rd_T48 l0 (ji4)).f1) ((rd_T48 l0 (ji4)).f2) ((rd_T48 l0 x3_1).f0) ((rd_T48 l0 x3_1).f1) ((rd_T48 l0 x3_1).f2) false _ A8.out).mono ?_
                  rintro e w13 ⟨rfl, hb⟩
                  refine ⟨_, rfl, ?_⟩
                  have n0_ := Aside0.mk (below_step (by repeat (first | (with_reducible first | exact HB.out | apply below_alloc | apply pw_below_drewN | apply below_drew1) | exact HB.out)) hb)
                  clear HB
                  have HB := n0_
                  clear n0_
                  (try clear hb)
                  (try clear hb2)
                  (try clear hk)
                  (try clear hi)
                  refine hK.out _ _ ⟨(by first | exact (HB.out.cell (World.block_lt_of_cell? w _ hw203_0)).trans hw203_0 | exact hw203_0 | (obtain ⟨ad_, e_, h0_, h1_, h2_⟩ := at_T48 HR0.out (ji4) (by first | exact of_eq_true p203 | exact of_decide_eq_true (by assumption)) (by first | exact of_eq_true q203 | exact of_decide_eq_true (by assumption)); cases e_; first | exact h0_ | exact h1_ | exact h2_)), (by first | exact (HB.out.cell (World.block_lt_of_cell? w _ hw203_1)).trans hw203_1 | exact hw203_1 | (obtain ⟨ad_, e_, h0_, h1_, h2_⟩ := at_T48 HR0.out (ji4) (by first | exact of_eq_true p203 | exact of_decide_eq_true (by assumption)) (by first | exact of_eq_true q203 | exact of_decide_eq_true (by assumption)); cases e_; first | exact h0_ | exact h1_ | exact h2_)), (by first | exact (HB.out.cell (World.block_lt_of_cell? w _ hw203_2)).trans hw203_2 | exact hw203_2 | (obtain ⟨ad_, e_, h0_, h1_, h2_⟩ := at_T48 HR0.out (ji4) (by first | exact of_eq_true p203 | exact of_decide_eq_true (by assumption)) (by first | exact of_eq_true q203 | exact of_decide_eq_true (by assumption)); cases e_; first | exact h0_ | exact h1_ | exact h2_)), (by first | exact (HB.out.cell (World.block_lt_of_cell? w _ hw204_0)).trans hw204_0 | exact hw204_0 | (obtain ⟨ad_, e_, h0_, h1_, h2_⟩ := at_T48 HR0.out x3_1 (by first | exact of_eq_true p204 | exact of_decide_eq_true (by assumption)) (by first | exact of_eq_true q204 | exact of_decide_eq_true (by assumption)); cases e_; first | exact h0_ | exact h1_ | exact h2_)), (by first | exact (HB.out.cell (World.block_lt_of_cell? w _ hw204_1)).trans hw204_1 | exact hw204_1 | (obtain ⟨ad_, e_, h0_, h1_, h2_⟩ := at_T48 HR0.out x3_1 (by first | exact of_eq_true p204 | exact of_decide_eq_true (by assumption)) (by first | exact of_eq_true q204 | exact of_decide_eq_true (by assumption)); cases e_; first | exact h0_ | exact h1_ | exact h2_)), (by first | exact (HB.out.cell (World.block_lt_of_cell? w _ hw204_2)).trans hw204_2 | exact hw204_2 | (obtain ⟨ad_, e_, h0_, h1_, h2_⟩ := at_T48 HR0.out x3_1 (by first | exact of_eq_true p204 | exact of_decide_eq_true (by assumption)) (by first | exact of_eq_true q204 | exact of_decide_eq_true (by assumption)); cases e_; first | exact h0_ | exact h1_ | exact h2_))⟩ (fun hHeld => ?_)
                  clear hK K
                  refine norm_ (a' := ?_) ?_ ?_
                  rotate_left
                  · show Act.put _ (some 22) _ = _
                    simp only [Act.put, List.setIfInBounds_toArray, List.set_cons_zero, List.set_cons_succ, i64_w, i32_w]
                    rfl
                  refine pure_ (i := 10) (N := some 23) (v := ?_) (a' := ?_) #[true, true, true, true, true, true, true, true, true, true, true] rfl rfl (any_of HT_.out (by kernel_rfl)) (fun _ _ _ h => h) (Or.inl ⟨by rfl, ?_⟩) ?_ ?_
                  rotate_left
                  · intro w'
                    go_simp
                    with_reducible rfl
                  rotate_left
                  · simp only [Act.put, List.setIfInBounds_toArray, List.set_cons_zero, List.set_cons_succ, i64_w, i32_w]
                    rfl
                  refine done_ (done_of HT_.out (by kernel_rfl)) ?_
                  try go_wp2
                  go_ret
                  exact ⟨by first | rfl | (simp [errW_none, errW_some] <;> rfl) | (simp only [← hji4]; first | rfl | (simp [errW_none, errW_some] <;> rfl)) | (simp [*, errW_none, errW_some] <;> rfl), by repeat (first | (with_reducible first | exact HB.out | apply below_alloc | apply pw_below_drewN | apply below_drew1) | exact HB.out)⟩
              · rw [if_neg c7] at H
                exact absurd H (by simp)
            · rw [if_neg c6] at H
              exact absurd H (by simp)
          · rw [if_neg c5] at H
            exact absurd H (by simp)
        · rw [if_neg c3] at H
          have c3b0 : decide (x3_1 < (l0.length : Int)) = false := decide_eq_false c3
          clear c3
          obtain rfl := Option.some.inj H
          go_wp2
          go_ret
          exact ⟨by first | rfl | (simp [errW_none, errW_some] <;> rfl) | (simp [*, errW_none, errW_some] <;> rfl), by repeat (first | (with_reducible first | exact HB.out | apply below_alloc | apply pw_below_drewN | apply below_drew1) | exact HB.out)⟩

end Go.Proofs.Ytmlejakajcmbdaa.PFnMerge
