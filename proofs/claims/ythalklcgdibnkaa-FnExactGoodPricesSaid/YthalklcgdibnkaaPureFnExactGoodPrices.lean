/- 'FnExactGoodPrices': what the program's function and the reference's answer, told over numbers and lists alone, meets the law at every input within the kinds' own bounds; no other condition. -/
import Derived.Test.YthalklcgdibnkaaQFnExactGoodPricesx2
import Derived.Test.YthalklcgdibnkaaPlain
namespace Go.Proofs.Ythalklcgdibnkaa.Pure
open Go.RowKit Go.Proofs.Ythalklcgdibnkaa.PFnExactGoodPrices Go.Proofs.Ythalklcgdibnkaa.Plain Go.Proofs.YthalklcgdibnkaaW.PrintWords Go.Proofs.YthalklcgdibnkaaW.PrintLast
set_option linter.unusedVariables false
set_option linter.unusedSimpArgs false

theorem szIntS_eq (l : List Int) (h : l.length ≤ 140737488351232) (n : Int) (h0 : 0 ≤ n) (h1 : n ≤ 1048576) : laws_szIntS.f l n = some (if (l.length : Int) > n then -1 else n - l.length) := by
  unfold laws_szIntS.f
  rw [wrap_in (by omega) (by omega)]
  split <;> split <;> first | rfl | (exfalso; omega)
theorem toIntS_ev (l : List Int) (h : l.length ≤ 1048576) : Ev (fun k => laws_toIntS.f k l) l := by
  have := to_loop (fun k acc i => laws_toIntS.l0 k l acc i) id l 0 (fun k acc => by simp [laws_toIntS.l0]) (fun i hi => ⟨0, fun k _ acc hacc => by
    have h1 : (i : Int) < (l.length : Int) := by omega
    have h2 : (0 : Int) ≤ (i : Int) := by omega
    have h3 : (i : Int) < (acc.length : Int) := by omega
    have h4 : rd l (i : Int) = l[i] := by simp [rd, hi]
    simp only [laws_toIntS.l0, h1, h2, h3, h4, if_true, wrap_succ i (by omega), toNat_i]
    rfl⟩)
  rw [List.map_id] at this
  exact Ev.congr (fun k => by
    have h5 : l.length ≤ 100000000 := by omega
    simp only [laws_toIntS.f, toNat_i]
    rw [if_pos (by omega), if_pos (by omega)]) this
theorem eqIntS_ev (l : List Int) (h : l.length < 9223372036854775807) : Ev (fun k => laws_eqIntS.f k l l) true := by
  have := eq_loop (fun k i => laws_eqIntS.l0 k l l i) l.length true (fun k => by simp [laws_eqIntS.l0]) (fun i hi => ⟨0, fun k _ => by
    have h1 : (i : Int) < (l.length : Int) := by omega
    have h2 : (0 : Int) ≤ (i : Int) := by omega
    simp only [laws_eqIntS.l0, h1, h2, if_true, Option.bind_some, wrap_succ i (by omega), bne_self_eq_false, Bool.false_eq_true, if_false]⟩)
  exact Ev.congr (fun k => by simp only [laws_eqIntS.f, if_true]) this
theorem between_eq (a lo hi : Int) : impl_between.f a lo hi = some (decide (lo ≤ a ∧ a ≤ hi)) := by
  unfold impl_between.f
  split <;> simp <;> omega
theorem szIntSS_ev (l : List (List Int)) (hl : l.length ≤ 140737488351232) (hi : ∀ x, x ∈ l → x.length ≤ 140737488351232) :
    ∃ r, (r < 0 ∨ (¬ r < 0 ∧ l.length ≤ 1048576 ∧ ∀ j (h : j < l.length), l[j].length ≤ 1048576)) ∧ Ev (fun k => laws_szIntSS.f k l 1048576) r := by
  by_cases hn : (l.length : Int) > 1048576
  · refine ⟨-1, .inl (by omega), 0, fun k _ => ?_⟩
    simp only [laws_szIntSS.f]
    rw [wrap_in (by omega) (by omega), if_pos (by omega)]
  · obtain ⟨r, hp, h⟩ := one_while (fun k (s : Int × Int) => laws_szIntSS.l0 k l s.1 s.2) (fun d s => ∃ i : Nat, s.2 = (i : Int) ∧ i + d = l.length ∧ 0 ≤ s.1 ∧ s.1 ≤ 1048576 ∧ ∀ j (h : j < l.length), j < i → l[j].length ≤ 1048576)
      (fun r => r < 0 ∨ (¬ r < 0 ∧ l.length ≤ 1048576 ∧ ∀ j (h : j < l.length), l[j].length ≤ 1048576))
      (by
        rintro d ⟨s, j⟩ ⟨i, hj, hd, hs0, hs1, hall⟩
        obtain rfl : j = (i : Int) := hj
        simp only at hs0 hs1
        by_cases hlt : i < l.length
        · have h1 : (i : Int) < (l.length : Int) := by omega
          have h2 : (0 : Int) ≤ (i : Int) := by omega
          have h3 : rd_L1 l (i : Int) = l[i] := by simp [rd_L1, hlt]
          have hb := hi l[i] (List.getElem_mem _)
          have hz := szIntS_eq l[i] hb s hs0 hs1
          by_cases hc : (l[i].length : Int) > s
          · left
            refine ⟨-1, .inl (by omega), Ev.at 1 0 (fun k _ => ?_)⟩
            simp only [laws_szIntSS.l0, h1, h2, if_true, h3, hz, hc, Option.bind_some]
            rfl
          · right
            have h4 : ¬ (s - (l[i].length : Int) < 0) := by omega
            refine ⟨d - 1, (s - (l[i].length : Int), ((i + 1 : Nat) : Int)), by omega, ⟨i + 1, rfl, by omega, by simp only; omega, by simp only; omega, fun j hj hji => ?_⟩, fun r hr => Ev.back 1 0 (fun k _ => ?_) hr⟩
            · by_cases e : j = i
              · subst e
                omega
              · exact hall j hj (by omega)
            · simp only [laws_szIntSS.l0, h1, h2, if_true, h3, hz, hc, if_false, Option.bind_some, h4, wrap_succ i (by omega)]
        · left
          have h1 : ¬ (i : Int) < (l.length : Int) := by omega
          exact ⟨s, .inr ⟨by omega, by omega, fun j hj => hall j hj (by omega)⟩, Ev.at 1 0 (fun k _ => by simp only [laws_szIntSS.l0, h1, if_false])⟩) l.length (1048576 - (l.length : Int), 0) ⟨0, rfl, by omega, by simp only; omega, by simp only; omega, fun j _ h => by omega⟩
    refine ⟨r, hp, Ev.congr (fun k => ?_) h⟩
    simp only [laws_szIntSS.f]
    rw [wrap_in (by omega) (by omega), if_neg (by omega)]
theorem toIntSS_ev (l : List (List Int)) (hl : l.length ≤ 1048576) (hi : ∀ j (h : j < l.length), l[j].length ≤ 1048576) : Ev (fun k => laws_toIntSS.f k l) l := by
  have := to_loop (fun k acc i => laws_toIntSS.l0 k l acc i) id l [] (fun k acc => by simp [laws_toIntSS.l0]) (fun i hlt => by
    obtain ⟨K, hK⟩ := toIntS_ev l[i] (hi i hlt)
    refine ⟨K, fun k hk acc hacc => ?_⟩
    have h1 : (i : Int) < (l.length : Int) := by omega
    have h2 : (0 : Int) ≤ (i : Int) := by omega
    have h3 : (i : Int) < (acc.length : Int) := by omega
    have h4 : rd_L1 l (i : Int) = l[i] := by simp [rd_L1, hlt]
    have h5 := hK k hk
    simp only at h5
    simp only [laws_toIntSS.l0, h1, h2, h3, h4, h5, if_true, Option.bind_some, wrap_succ i (by omega), toNat_i]
    rfl)
  rw [List.map_id] at this
  exact Ev.congr (fun k => by
    have h5 : l.length ≤ 100000000 := by omega
    simp only [laws_toIntSS.f, toNat_i]
    rw [if_pos (by omega), if_pos (by omega)]) this
theorem eqIntSS_ev (l : List (List Int)) (hl : l.length ≤ 1048576) (hi : ∀ j (h : j < l.length), l[j].length ≤ 1048576) : Ev (fun k => laws_eqIntSS.f k l l) true := by
  have := eq_loop (fun k i => laws_eqIntSS.l0 k l l i) l.length true (fun k => by simp [laws_eqIntSS.l0]) (fun i hlt => by
    have h4 : rd_L1 l (i : Int) = l[i] := by simp [rd_L1, hlt]
    have hb := hi i hlt
    obtain ⟨K, hK⟩ := eqIntS_ev l[i] (by omega)
    refine ⟨K, fun k hk => ?_⟩
    have h1 : (i : Int) < (l.length : Int) := by omega
    have h2 : (0 : Int) ≤ (i : Int) := by omega
    have h5 := hK k hk
    simp only at h5
    simp only [laws_eqIntSS.l0, h1, h2, if_true, h4, h5, Option.bind_some, wrap_succ i (by omega)])
  exact Ev.congr (fun k => by simp only [laws_eqIntSS.f, if_true]) this
def okRow (x : List Int) (n : Nat) : Bool := decide (x.length = n) && (List.range x.length).all (fun j => decide (0 ≤ rd x (j : Int) ∧ rd x (j : Int) ≤ 100000))
def goodPrices (l : List (List Int)) : Bool := decide (1 ≤ l.length ∧ l.length ≤ 6) && (List.range l.length).all (fun i => okRow (rd_L1 l (i : Int)) l.length)
theorem spec_prices (l : List (List Int)) (hb : l.length ≤ 1099511627776) (hi : ∀ j (h : j < l.length), l[j].length ≤ 1048576) : Ev (fun k => spec_GoodPrices.f k l) (goodPrices l) := by
  have hin : ∀ (i : Nat), i < l.length → ∀ (x : List Int), x.length ≤ 1048576 → ∀ r, Ev (fun k => spec_GoodPrices.l0 k (l.length : Int) l (l.length : Int) ((i + 1 : Nat) : Int)) r →
      Ev (fun k => spec_GoodPrices.l1 k (l.length : Int) l (l.length : Int) (i : Int) x (x.length : Int) 0) (if (List.range x.length).all (fun j => decide (0 ≤ rd x (j : Int) ∧ rd x (j : Int) ≤ 100000)) = true then r else false) := by
    intro i hlt x hx r hr
    refine all_loop2 (fun k j => spec_GoodPrices.l1 k (l.length : Int) l (l.length : Int) (i : Int) x (x.length : Int) j) x.length _ r false ?_ ?_ ?_
    · refine Ev.back 1 0 (fun k _ => ?_) hr
      have h1 : ¬ ((x.length : Int) < (x.length : Int)) := by omega
      simp only [spec_GoodPrices.l1, h1, if_false, wrap_succ i (by omega)]
    · intro j hj hp q hq
      refine Ev.back 1 0 (fun k _ => ?_) hq
      have h1 : (j : Int) < (x.length : Int) := by omega
      have h2 : (0 : Int) ≤ (j : Int) := by omega
      rw [decide_eq_true_eq] at hp
      simp only [spec_GoodPrices.l1, h1, h2, if_true, wrap_succ j (by omega)]
      rw [if_neg (by omega), if_neg (by omega)]
    · intro j hj hp
      refine Ev.at 1 0 (fun k _ => ?_)
      have h1 : (j : Int) < (x.length : Int) := by omega
      have h2 : (0 : Int) ≤ (j : Int) := by omega
      rw [decide_eq_false_iff_not] at hp
      simp only [spec_GoodPrices.l1, h1, h2, if_true]
      split
      · rfl
      · rw [if_pos (by omega)]
  have hl := all_loop2 (fun k i => spec_GoodPrices.l0 k (l.length : Int) l (l.length : Int) i) l.length (fun i => okRow (rd_L1 l (i : Int)) l.length) true false
    (Ev.at 1 0 (fun k _ => by simp [spec_GoodPrices.l0]))
    (fun i hlt hp r hr => by
      have h1 : (i : Int) < (l.length : Int) := by omega
      have h2 : (0 : Int) ≤ (i : Int) := by omega
      have h4 : rd_L1 l (i : Int) = l[i] := by simp [rd_L1, hlt]
      have hb' := hi i hlt
      simp only [okRow, Bool.and_eq_true, decide_eq_true_eq] at hp
      have := hin i hlt (rd_L1 l (i : Int)) (by rw [h4]; exact hb') r hr
      rw [if_pos hp.2] at this
      refine Ev.back 1 0 (fun k _ => ?_) this
      simp only [spec_GoodPrices.l0, h1, h2, if_true]
      rw [if_pos (by omega)])
    (fun i hlt hp => by
      have h1 : (i : Int) < (l.length : Int) := by omega
      have h2 : (0 : Int) ≤ (i : Int) := by omega
      have h4 : rd_L1 l (i : Int) = l[i] := by simp [rd_L1, hlt]
      have hb' := hi i hlt
      by_cases hlen : (rd_L1 l (i : Int)).length = l.length
      · simp only [okRow, hlen, decide_true, Bool.true_and] at hp
        have key : ∀ (d j : Nat), j + d = (rd_L1 l (i : Int)).length → (List.range' j d).all (fun j => decide (0 ≤ rd (rd_L1 l (i : Int)) (j : Int) ∧ rd (rd_L1 l (i : Int)) (j : Int) ≤ 100000)) = false →
            Ev (fun k => spec_GoodPrices.l1 k (l.length : Int) l (l.length : Int) (i : Int) (rd_L1 l (i : Int)) ((rd_L1 l (i : Int)).length : Int) (j : Int)) false := by
          intro d
          induction d with
          | zero =>
            intro j _ h
            simp at h
          | succ d ih =>
            intro j hj h
            have h5 : (j : Int) < ((rd_L1 l (i : Int)).length : Int) := by omega
            have h6 : (0 : Int) ≤ (j : Int) := by omega
            rw [List.range'_succ, List.all_cons] at h
            by_cases hc : 0 ≤ rd (rd_L1 l (i : Int)) (j : Int) ∧ rd (rd_L1 l (i : Int)) (j : Int) ≤ 100000
            · rw [decide_eq_true hc, Bool.true_and] at h
              refine Ev.back 1 0 (fun k _ => ?_) (ih (j + 1) (by omega) h)
              rw [h4] at *
              simp only [spec_GoodPrices.l1, h5, h6, if_true, wrap_succ j (by omega)]
              rw [if_neg (by omega), if_neg (by omega)]
            · refine Ev.at 1 0 (fun k _ => ?_)
              simp only [spec_GoodPrices.l1, h5, h6, if_true]
              split
              · rfl
              · rw [if_pos (by omega)]
        rw [← hlen, List.range_eq_range'] at hp
        have := key _ 0 (by omega) hp
        refine Ev.back 1 0 (fun k _ => ?_) this
        simp only [spec_GoodPrices.l0, h1, h2, if_true]
        rw [if_pos (by omega)]
        rfl
      · refine Ev.at 1 0 (fun k _ => ?_)
        simp only [spec_GoodPrices.l0, h1, h2, if_true]
        rw [if_neg (by omega)])
  obtain ⟨K, hK⟩ := hl
  refine ⟨K + 1, fun k hk => ?_⟩
  obtain ⟨m, rfl⟩ : ∃ m, k = m + 1 := ⟨k - 1, by omega⟩
  have hk' := hK m (by omega)
  simp only [spec_GoodPrices.f, spec_GoodPrices.j0, hk', goodPrices]
  generalize (List.range l.length).all (fun (i : Nat) => okRow (rd_L1 l (i : Int)) l.length) = q
  by_cases h1 : 1 ≤ l.length
  · by_cases h6 : l.length ≤ 6
    · have e1 : ¬ ((l.length : Int) < 1) := by omega
      have e2 : ¬ ((l.length : Int) > 6) := by omega
      cases q <;> simp [e1, e2, h1, h6]
    · have e1 : ¬ ((l.length : Int) < 1) := by omega
      have e2 : ((l.length : Int) > 6) := by omega
      cases q <;> simp [e1, e2, h1, h6]
  · have e1 : ((l.length : Int) < 1) := by omega
    simp [e1, h1]
theorem impl_prices (l : List (List Int)) (hb : l.length ≤ 1099511627776) (hi : ∀ j (h : j < l.length), l[j].length ≤ 1048576) : Ev (fun k => impl_GoodPrices.f k l) (goodPrices l) := by
  have key : ∀ (i : Nat), i < l.length → ∀ (x : List Int), x.length ≤ 1048576 → ∀ (d j : Nat), j + d = x.length →
      ((List.range' j d).all (fun j => decide (0 ≤ rd x (j : Int) ∧ rd x (j : Int) ≤ 100000)) = false → Ev (fun k => impl_GoodPrices.l1 k (l.length : Int) l (l.length : Int) (i : Int) x (x.length : Int) (j : Int)) false) ∧
      ((List.range' j d).all (fun j => decide (0 ≤ rd x (j : Int) ∧ rd x (j : Int) ≤ 100000)) = true → ∀ r, Ev (fun k => impl_GoodPrices.l0 k (l.length : Int) l (l.length : Int) ((i + 1 : Nat) : Int)) r → Ev (fun k => impl_GoodPrices.l1 k (l.length : Int) l (l.length : Int) (i : Int) x (x.length : Int) (j : Int)) r) := by
    intro i hlt x hx d
    induction d with
    | zero =>
      intro j hj
      obtain rfl : j = x.length := by omega
      refine ⟨fun h => by simp at h, fun _ r hr => Ev.back 1 0 (fun k _ => ?_) hr⟩
      have h1 : ¬ ((x.length : Int) < (x.length : Int)) := by omega
      simp only [impl_GoodPrices.l1, h1, if_false, wrap_succ i (by omega)]
    | succ d ih =>
      intro j hj
      have h1 : (j : Int) < (x.length : Int) := by omega
      have h2 : (0 : Int) ≤ (j : Int) := by omega
      rw [List.range'_succ, List.all_cons]
      by_cases hc : 0 ≤ rd x (j : Int) ∧ rd x (j : Int) ≤ 100000
      · have e : ∀ k, impl_GoodPrices.l1 (k + 1) (l.length : Int) l (l.length : Int) (i : Int) x (x.length : Int) (j : Int) = impl_GoodPrices.l1 k (l.length : Int) l (l.length : Int) (i : Int) x (x.length : Int) ((j + 1 : Nat) : Int) := by
          intro k
          simp only [impl_GoodPrices.l1, h1, h2, if_true, between_eq, Option.bind_some, hc, and_self, decide_true, wrap_succ j (by omega)]
        rw [decide_eq_true hc, Bool.true_and]
        exact ⟨fun h => Ev.back 1 0 (fun k _ => e k) ((ih (j + 1) (by omega)).1 h), fun h r hr => Ev.back 1 0 (fun k _ => e k) ((ih (j + 1) (by omega)).2 h r hr)⟩
      · rw [decide_eq_false hc, Bool.false_and]
        refine ⟨fun _ => Ev.at 1 0 (fun k _ => ?_), fun h => by cases h⟩
        simp only [impl_GoodPrices.l1, h1, h2, if_true, between_eq, Option.bind_some, decide_eq_false hc, Bool.false_eq_true, if_false]
  have hl := all_loop2 (fun k i => impl_GoodPrices.l0 k (l.length : Int) l (l.length : Int) i) l.length (fun i => okRow (rd_L1 l (i : Int)) l.length) (decide (1 ≤ l.length ∧ l.length ≤ 6)) false
    (Ev.at 1 0 (fun k _ => by
      have h1 : ¬ ((l.length : Int) < (l.length : Int)) := by omega
      simp only [impl_GoodPrices.l0, h1, if_false, between_eq, Option.bind_some, Option.some.injEq]
      apply decide_eq_decide.2
      omega))
    (fun i hlt hp r hr => by
      have h1 : (i : Int) < (l.length : Int) := by omega
      have h2 : (0 : Int) ≤ (i : Int) := by omega
      have h4 : rd_L1 l (i : Int) = l[i] := by simp [rd_L1, hlt]
      have hb' := hi i hlt
      simp only [okRow, Bool.and_eq_true, decide_eq_true_eq] at hp
      have := (key i hlt (rd_L1 l (i : Int)) (by rw [h4]; exact hb') _ 0 (Nat.zero_add _)).2 (by rw [← List.range_eq_range']; exact hp.2) r hr
      refine Ev.back 1 0 (fun k _ => ?_) this
      simp only [impl_GoodPrices.l0, h1, h2, if_true]
      rw [if_pos (by omega)]
      rfl)
    (fun i hlt hp => by
      have h1 : (i : Int) < (l.length : Int) := by omega
      have h2 : (0 : Int) ≤ (i : Int) := by omega
      have h4 : rd_L1 l (i : Int) = l[i] := by simp [rd_L1, hlt]
      have hb' := hi i hlt
      by_cases hlen : (rd_L1 l (i : Int)).length = l.length
      · have hp2 : (List.range (rd_L1 l (i : Int)).length).all (fun j => decide (0 ≤ rd (rd_L1 l (i : Int)) (j : Int) ∧ rd (rd_L1 l (i : Int)) (j : Int) ≤ 100000)) = false := by
          simp only [okRow, decide_eq_true hlen, Bool.true_and] at hp
          exact hp
        have := (key i hlt (rd_L1 l (i : Int)) (by rw [h4]; exact hb') _ 0 (Nat.zero_add _)).1 (by rw [← List.range_eq_range']; exact hp2)
        refine Ev.back 1 0 (fun k _ => ?_) this
        simp only [impl_GoodPrices.l0, h1, h2, if_true]
        rw [if_pos (by omega)]
        rfl
      · refine Ev.at 1 0 (fun k _ => ?_)
        simp only [impl_GoodPrices.l0, h1, h2, if_true]
        rw [if_neg (by omega)])
  have e : (if (List.range l.length).all (fun (i : Nat) => okRow (rd_L1 l (i : Int)) l.length) = true then decide (1 ≤ l.length ∧ l.length ≤ 6) else false) = goodPrices l := by
    unfold goodPrices
    cases (List.range l.length).all (fun (i : Nat) => okRow (rd_L1 l (i : Int)) l.length) <;> simp
  rw [e] at hl
  exact hl
theorem FnExactGoodPrices : ∀ (l0 : List (List Int)), ((∀ (zl0 : List Int), zl0 ∈ l0 → ((∀ (zzl0 : Int), zzl0 ∈ zl0 → (Lit.int .i64 zzl0).wf = true) ∧ zl0.length * 8 ≤ 140737488351232)) ∧ l0.length * 24 ≤ 140737488351232) → ∃ k, laws_FnExactGoodPrices.f k l0 = some true := by
  intro l ⟨hin, hl⟩
  obtain ⟨t, ht, K0, h0⟩ := szIntSS_ev l (by omega) (fun x hx => by have := (hin x hx).2; omega)
  rcases ht with ht | ⟨ht, hlen, hinner⟩
  · refine ⟨K0, ?_⟩
    have h0' := h0 K0 (by omega)
    simp only at h0'
    simp only [laws_FnExactGoodPrices.f, h0', Option.bind_some, ht, if_true]
  · obtain ⟨K1, h1⟩ := toIntSS_ev l hlen hinner
    obtain ⟨K2, h2⟩ := spec_prices l (by omega) hinner
    obtain ⟨K3, h3⟩ := impl_prices l (by omega) hinner
    obtain ⟨K4, h4⟩ := eqIntSS_ev l hlen hinner
    refine ⟨K0 + K1 + K2 + K3 + K4, ?_⟩
    simp (disch := omega) only [laws_FnExactGoodPrices.f, h0, Option.bind_some, ht, if_false, h1, h2, h3, h4]
    simp

end Go.Proofs.Ythalklcgdibnkaa.Pure
