/- 'FnExactGoodWorld': what the program's function and the reference's answer, told over numbers and lists alone, meets the law at every input within the kinds' own bounds; no other condition. -/
import Derived.Test.YtolglpbmjooefaaPFnExactGoodWorldx3
import Derived.Test.YtolglpbmjooefaaPlain
namespace Go.Proofs.Ytolglpbmjooefaa.Pure
open Go.RowKit Go.Proofs.Ytolglpbmjooefaa.PFnExactGoodWorld Go.Proofs.Ytolglpbmjooefaa.Plain Go.Proofs.YtolglpbmjooefaaW.PrintWords Go.Proofs.YtolglpbmjooefaaW.PrintLast
set_option linter.unusedVariables false
set_option linter.unusedSimpArgs false

theorem szIntS_eq (l : List Int) (h : l.length ≤ 140737488351232) (n : Int) (h0 : 0 ≤ n) (h1 : n ≤ 1048576) : laws_szIntS.f l n = some (if (l.length : Int) > n then -1 else n - l.length) := by
  unfold laws_szIntS.f
  rw [wrap_in (by omega) (by omega)]
  split <;> split <;> first | rfl | (exfalso; omega)
theorem toIntS_ev (l : List Int) (h : l.length ≤ 1048576) : Ev (fun k => laws_toIntS.f k l) l := by
  have := to_loop (fun k acc i => laws_toIntS.l0 k l acc i) id l 0 (fun k acc => by simp [laws_toIntS.l0]) (fun i hi => ⟨0, fun k _ acc hacc => by
    have h1 : (i : Int) < (l.length : Int) := by omega
    have h2 : (0 : Int) ≤ (i : Int) := by omega
    have h3 : (i : Int) < (acc.length : Int) := by omega
    have h4 : rd l (i : Int) = l[i] := by simp [rd, hi]
    simp only [laws_toIntS.l0, h1, h2, h3, h4, if_true, wrap_succ i (by omega), toNat_i]
    rfl⟩)
  rw [List.map_id] at this
  exact Ev.congr (fun k => by
    have h5 : l.length ≤ 100000000 := by omega
    simp only [laws_toIntS.f, toNat_i]
    rw [if_pos (by omega), if_pos (by omega)]) this
theorem eqIntS_ev (l : List Int) (h : l.length < 9223372036854775807) : Ev (fun k => laws_eqIntS.f k l l) true := by
  have := eq_loop (fun k i => laws_eqIntS.l0 k l l i) l.length true (fun k => by simp [laws_eqIntS.l0]) (fun i hi => ⟨0, fun k _ => by
    have h1 : (i : Int) < (l.length : Int) := by omega
    have h2 : (0 : Int) ≤ (i : Int) := by omega
    simp only [laws_eqIntS.l0, h1, h2, if_true, Option.bind_some, wrap_succ i (by omega), bne_self_eq_false, Bool.false_eq_true, if_false]⟩)
  exact Ev.congr (fun k => by simp only [laws_eqIntS.f, if_true]) this
theorem between_eq (a lo hi : Int) : impl_between.f a lo hi = some (decide (lo ≤ a ∧ a ≤ hi)) := by
  unfold impl_between.f
  split <;> simp <;> omega
theorem cells_same : ∀ (k : Nat) (l : List Int) (n i : Int), impl_GoodCells.l0 k l n i = spec_GoodCells.l0 k l n i
  | 0, _, _, _ => rfl
  | k + 1, l, n, i => by simp only [impl_GoodCells.l0, spec_GoodCells.l0, cells_same k]
theorem cells_ends (l : List Int) (hb : l.length ≤ 1048576) : ∃ r, Ev (fun k => spec_GoodCells.l0 k l (l.length : Int) 0) r := by
  have := all_loop2 (fun k i => spec_GoodCells.l0 k l (l.length : Int) i) l.length (fun i => decide (0 ≤ rd l (i : Int) ∧ rd l (i : Int) ≤ 2)) true false
    (Ev.at 1 0 (fun k _ => by simp [spec_GoodCells.l0]))
    (fun i hi hp r hr => by
      rw [decide_eq_true_eq] at hp
      have h1 : (i : Int) < (l.length : Int) := by omega
      have h2 : (0 : Int) ≤ (i : Int) := by omega
      refine Ev.back 1 0 (fun k _ => ?_) hr
      simp only [spec_GoodCells.l0, h1, h2, if_true, wrap_succ i (by omega)]
      rw [if_neg (by omega), if_neg (by omega)])
    (fun i hi hp => by
      rw [decide_eq_false_iff_not] at hp
      have h1 : (i : Int) < (l.length : Int) := by omega
      have h2 : (0 : Int) ≤ (i : Int) := by omega
      refine Ev.at 1 0 (fun k _ => ?_)
      simp only [spec_GoodCells.l0, h1, h2, if_true]
      split
      · rfl
      · rw [if_pos (by omega)])
  exact ⟨_, this⟩
theorem sized_same (w : Int) (n : Nat) (hn : n ≤ 1048576) : spec_l12Sized.f w (n : Int) = impl_squared.f w (n : Int) ∧ ∃ b, spec_l12Sized.f w (n : Int) = some b := by
  unfold spec_l12Sized.f impl_squared.f
  by_cases h1 : w ≥ 1
  · by_cases h2 : w ≤ 16
    · have h0 : ¬ w = 0 := by omega
      obtain ⟨m, rfl⟩ : ∃ m : Nat, w = (m : Int) := ⟨w.toNat, by omega⟩
      have hq : n / m ≤ n := Nat.div_le_self _ _
      have e1 : Int.tmod (n : Int) (m : Int) = ((n % m : Nat) : Int) := (Int.ofNat_tmod n m).symm
      have e2 : wrap64 (Int.tdiv (n : Int) (m : Int)) = ((n / m : Nat) : Int) := by
        rw [← Int.ofNat_tdiv]
        generalize n / m = q at *
        exact wrap_in (by omega) (by omega)
      have hdm := Nat.div_add_mod n m
      simp only [h1, h2, h0, if_true, if_false, e1, e2]
      by_cases hz : n % m = 0
      · by_cases hge : m ≤ n
        · have hq1 : 1 ≤ n / m := (Nat.le_div_iff_mul_le (by omega)).2 (by omega)
          have c1 : (n : Int) ≥ (m : Int) := by omega
          have c2 : ((n % m : Nat) : Int) = 0 := by omega
          have c3 : ((n / m : Nat) : Int) ≥ 1 := by
            generalize n / m = q at *
            omega
          simp only [c1, c2, c3, if_true, true_and]
          exact ⟨_, rfl⟩
        · have hq0 : n / m = 0 := Nat.div_eq_of_lt (by omega)
          have c1 : ¬ (n : Int) ≥ (m : Int) := by omega
          have c2 : ((n % m : Nat) : Int) = 0 := by omega
          simp only [c1, c2, hq0, if_true, if_false]
          simp
      · have c2 : ¬ ((n % m : Nat) : Int) = 0 := by omega
        simp only [c2, if_false]
        split <;> simp
    · simp [h1, h2]
  · simp [h1]
theorem free_same (w : Int) (l : List Int) (a : Int) : spec_l12Free.f w l a = impl_Cells_free.f w l a ∧ ∃ b, spec_l12Free.f w l a = some b := by
  unfold spec_l12Free.f impl_Cells_free.f
  refine ⟨rfl, ?_⟩
  split
  · split
    · exact ⟨_, rfl⟩
    · exact ⟨_, rfl⟩
  · exact ⟨_, rfl⟩
theorem world_same (w : Int) (l : List Int) (a s d : Int) (hb : l.length ≤ 1048576) : ∃ b K, ∀ k, K ≤ k → spec_GoodWorld.f k w l a s d = some b ∧ impl_GoodWorld.f k w l a s d = some b := by
  obtain ⟨h1, b1, e1⟩ := sized_same w l.length hb
  obtain ⟨r, K, hr⟩ := cells_ends l hb
  obtain ⟨h2, b2, e2⟩ := free_same w l a
  have e1' := h1.symm.trans e1
  have e2' := h2.symm.trans e2
  have hseed : spec_l28Seed.f d = some (decide (0 ≤ d ∧ d ≤ 2147483647)) := by
    unfold spec_l28Seed.f
    split <;> simp <;> omega
  have hcells : ∀ k, K ≤ k → spec_GoodCells.f k w l = some (b1 && r) ∧ impl_GoodCells.f k w l = some (b1 && r) := by
    intro k hk
    have hr' := hr k hk
    simp only at hr'
    have hr'' := (cells_same k l (l.length : Int) 0).trans hr'
    simp only [spec_GoodCells.f, impl_GoodCells.f, e1, e1', Option.bind_some]
    cases b1 <;> simp [hr', hr'']
  refine ⟨(b1 && r) && (b2 && (decide (0 ≤ s ∧ s ≤ 9) && decide (0 ≤ d ∧ d ≤ 2147483647))), K, fun k hk => ?_⟩
  obtain ⟨g1, g2⟩ := hcells k hk
  simp only [spec_GoodWorld.f, impl_GoodWorld.f, g1, g2, e2, e2', hseed, impl_goodSeed.f, between_eq, Option.bind_some]
  cases (b1 && r) with
  | false => simp
  | true =>
    cases b2 with
    | false => simp
    | true =>
      simp only [if_true, Bool.true_and]
      by_cases c1 : 0 ≤ s
      · by_cases c2 : s ≤ 9
        · have c1' : s ≥ 0 := c1
          simp [c1, c2]
        · simp [c1, c2]
      · simp [c1]
theorem FnExactGoodWorld : ∀ (a0_0 : Int) (l0_1 : List Int) (a0_2 : Int) (a0_3 : Int) (a0_4 : Int), (Lit.int .i64 a0_0).wf = true → ((∀ (zl0_1 : Int), zl0_1 ∈ l0_1 → (Lit.int .i64 zl0_1).wf = true) ∧ l0_1.length * 8 ≤ 140737488351232) → (Lit.int .i64 a0_2).wf = true → (Lit.int .i64 a0_3).wf = true → (Lit.int .i64 a0_4).wf = true → ∃ k, laws_FnExactGoodWorld.f k a0_0 l0_1 a0_2 a0_3 a0_4 = some true := by
  intro w l a s d _ ⟨_, hl⟩ _ _ _
  have hs := szIntS_eq l (by omega) 1048576 (by omega) (by omega)
  by_cases hn : (l.length : Int) > 1048576
  · exact ⟨0, by simp [laws_FnExactGoodWorld.f, laws_szWorld.f, laws_szCells.f, hs, hn]⟩
  · have hn' : ¬ ((1048576 : Int) - l.length < 0) := by omega
    obtain ⟨K1, h1⟩ := toIntS_ev l (by omega)
    obtain ⟨b, K2, h2⟩ := world_same w l a s d (by omega)
    obtain ⟨K3, h3⟩ := eqIntS_ev l (by omega)
    refine ⟨K1 + K2 + K3, ?_⟩
    have h1' := h1 (K1 + K2 + K3) (by omega)
    obtain ⟨h2a, h2b⟩ := h2 (K1 + K2 + K3) (by omega)
    have h3' := h3 (K1 + K2 + K3) (by omega)
    simp only at h1' h3'
    simp only [laws_FnExactGoodWorld.f, laws_szWorld.f, laws_szCells.f, laws_toWorld.f, laws_toCells.f, laws_eqWorld.f, laws_eqCells.f, hs, hn, if_false, Option.bind_some, hn', h1', h2a, h2b, h3', if_true, bne_self_eq_false, Bool.false_eq_true]

end Go.Proofs.Ytolglpbmjooefaa.Pure
