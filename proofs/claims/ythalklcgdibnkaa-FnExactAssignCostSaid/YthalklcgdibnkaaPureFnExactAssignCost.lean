/- 'FnExactAssignCost': what the program's function and the reference's answer, told over numbers and lists alone, meets the law at every input within the kinds' own bounds; no other condition. -/
import Derived.Test.YthalklcgdibnkaaQFnExactAssignCostx4
import Derived.Test.YthalklcgdibnkaaPlain
namespace Go.Proofs.Ythalklcgdibnkaa.Pure
open Go.RowKit Go.Proofs.Ythalklcgdibnkaa.PFnExactAssignCost Go.Proofs.Ythalklcgdibnkaa.Plain Go.Proofs.YthalklcgdibnkaaW.PrintWords Go.Proofs.YthalklcgdibnkaaW.PrintLast
set_option linter.unusedVariables false
set_option linter.unusedSimpArgs false

theorem szIntS_eq (l : List Int) (h : l.length ≤ 140737488351232) (n : Int) (h0 : 0 ≤ n) (h1 : n ≤ 1048576) : laws_szIntS.f l n = some (if (l.length : Int) > n then -1 else n - l.length) := by
  unfold laws_szIntS.f
  rw [wrap_in (by omega) (by omega)]
  split <;> split <;> first | rfl | (exfalso; omega)
theorem toIntS_ev (l : List Int) (h : l.length ≤ 1048576) : Ev (fun k => laws_toIntS.f k l) l := by
  have := to_loop (fun k acc i => laws_toIntS.l0 k l acc i) id l 0 (fun k acc => by simp [laws_toIntS.l0]) (fun i hi => ⟨0, fun k _ acc hacc => by
    have h1 : (i : Int) < (l.length : Int) := by omega
    have h2 : (0 : Int) ≤ (i : Int) := by omega
    have h3 : (i : Int) < (acc.length : Int) := by omega
    have h4 : rd l (i : Int) = l[i] := by simp [rd, hi]
    simp only [laws_toIntS.l0, h1, h2, h3, h4, if_true, wrap_succ i (by omega), toNat_i]
    rfl⟩)
  rw [List.map_id] at this
  exact Ev.congr (fun k => by
    have h5 : l.length ≤ 100000000 := by omega
    simp only [laws_toIntS.f, toNat_i]
    rw [if_pos (by omega), if_pos (by omega)]) this
theorem eqIntS_ev (l : List Int) (h : l.length < 9223372036854775807) : Ev (fun k => laws_eqIntS.f k l l) true := by
  have := eq_loop (fun k i => laws_eqIntS.l0 k l l i) l.length true (fun k => by simp [laws_eqIntS.l0]) (fun i hi => ⟨0, fun k _ => by
    have h1 : (i : Int) < (l.length : Int) := by omega
    have h2 : (0 : Int) ≤ (i : Int) := by omega
    simp only [laws_eqIntS.l0, h1, h2, if_true, Option.bind_some, wrap_succ i (by omega), bne_self_eq_false, Bool.false_eq_true, if_false]⟩)
  exact Ev.congr (fun k => by simp only [laws_eqIntS.f, if_true]) this
theorem between_eq (a lo hi : Int) : impl_between.f a lo hi = some (decide (lo ≤ a ∧ a ≤ hi)) := by
  unfold impl_between.f
  split <;> simp <;> omega
theorem szIntSS_ev (l : List (List Int)) (hl : l.length ≤ 140737488351232) (hi : ∀ x, x ∈ l → x.length ≤ 140737488351232) :
    ∃ r, (r < 0 ∨ (¬ r < 0 ∧ l.length ≤ 1048576 ∧ ∀ j (h : j < l.length), l[j].length ≤ 1048576)) ∧ Ev (fun k => laws_szIntSS.f k l 1048576) r := by
  by_cases hn : (l.length : Int) > 1048576
  · refine ⟨-1, .inl (by omega), 0, fun k _ => ?_⟩
    simp only [laws_szIntSS.f]
    rw [wrap_in (by omega) (by omega), if_pos (by omega)]
  · obtain ⟨r, hp, h⟩ := one_while (fun k (s : Int × Int) => laws_szIntSS.l0 k l s.1 s.2) (fun d s => ∃ i : Nat, s.2 = (i : Int) ∧ i + d = l.length ∧ 0 ≤ s.1 ∧ s.1 ≤ 1048576 ∧ ∀ j (h : j < l.length), j < i → l[j].length ≤ 1048576)
      (fun r => r < 0 ∨ (¬ r < 0 ∧ l.length ≤ 1048576 ∧ ∀ j (h : j < l.length), l[j].length ≤ 1048576))
      (by
        rintro d ⟨s, j⟩ ⟨i, hj, hd, hs0, hs1, hall⟩
        obtain rfl : j = (i : Int) := hj
        simp only at hs0 hs1
        by_cases hlt : i < l.length
        · have h1 : (i : Int) < (l.length : Int) := by omega
          have h2 : (0 : Int) ≤ (i : Int) := by omega
          have h3 : rd_L1 l (i : Int) = l[i] := by simp [rd_L1, hlt]
          have hb := hi l[i] (List.getElem_mem _)
          have hz := szIntS_eq l[i] hb s hs0 hs1
          by_cases hc : (l[i].length : Int) > s
          · left
            refine ⟨-1, .inl (by omega), Ev.at 1 0 (fun k _ => ?_)⟩
            simp only [laws_szIntSS.l0, h1, h2, if_true, h3, hz, hc, Option.bind_some]
            rfl
          · right
            have h4 : ¬ (s - (l[i].length : Int) < 0) := by omega
            refine ⟨d - 1, (s - (l[i].length : Int), ((i + 1 : Nat) : Int)), by omega, ⟨i + 1, rfl, by omega, by simp only; omega, by simp only; omega, fun j hj hji => ?_⟩, fun r hr => Ev.back 1 0 (fun k _ => ?_) hr⟩
            · by_cases e : j = i
              · subst e
                omega
              · exact hall j hj (by omega)
            · simp only [laws_szIntSS.l0, h1, h2, if_true, h3, hz, hc, if_false, Option.bind_some, h4, wrap_succ i (by omega)]
        · left
          have h1 : ¬ (i : Int) < (l.length : Int) := by omega
          exact ⟨s, .inr ⟨by omega, by omega, fun j hj => hall j hj (by omega)⟩, Ev.at 1 0 (fun k _ => by simp only [laws_szIntSS.l0, h1, if_false])⟩) l.length (1048576 - (l.length : Int), 0) ⟨0, rfl, by omega, by simp only; omega, by simp only; omega, fun j _ h => by omega⟩
    refine ⟨r, hp, Ev.congr (fun k => ?_) h⟩
    simp only [laws_szIntSS.f]
    rw [wrap_in (by omega) (by omega), if_neg (by omega)]
theorem toIntSS_ev (l : List (List Int)) (hl : l.length ≤ 1048576) (hi : ∀ j (h : j < l.length), l[j].length ≤ 1048576) : Ev (fun k => laws_toIntSS.f k l) l := by
  have := to_loop (fun k acc i => laws_toIntSS.l0 k l acc i) id l [] (fun k acc => by simp [laws_toIntSS.l0]) (fun i hlt => by
    obtain ⟨K, hK⟩ := toIntS_ev l[i] (hi i hlt)
    refine ⟨K, fun k hk acc hacc => ?_⟩
    have h1 : (i : Int) < (l.length : Int) := by omega
    have h2 : (0 : Int) ≤ (i : Int) := by omega
    have h3 : (i : Int) < (acc.length : Int) := by omega
    have h4 : rd_L1 l (i : Int) = l[i] := by simp [rd_L1, hlt]
    have h5 := hK k hk
    simp only at h5
    simp only [laws_toIntSS.l0, h1, h2, h3, h4, h5, if_true, Option.bind_some, wrap_succ i (by omega), toNat_i]
    rfl)
  rw [List.map_id] at this
  exact Ev.congr (fun k => by
    have h5 : l.length ≤ 100000000 := by omega
    simp only [laws_toIntSS.f, toNat_i]
    rw [if_pos (by omega), if_pos (by omega)]) this
theorem eqIntSS_ev (l : List (List Int)) (hl : l.length ≤ 1048576) (hi : ∀ j (h : j < l.length), l[j].length ≤ 1048576) : Ev (fun k => laws_eqIntSS.f k l l) true := by
  have := eq_loop (fun k i => laws_eqIntSS.l0 k l l i) l.length true (fun k => by simp [laws_eqIntSS.l0]) (fun i hlt => by
    have h4 : rd_L1 l (i : Int) = l[i] := by simp [rd_L1, hlt]
    have hb := hi i hlt
    obtain ⟨K, hK⟩ := eqIntS_ev l[i] (by omega)
    refine ⟨K, fun k hk => ?_⟩
    have h1 : (i : Int) < (l.length : Int) := by omega
    have h2 : (0 : Int) ≤ (i : Int) := by omega
    have h5 := hK k hk
    simp only at h5
    simp only [laws_eqIntSS.l0, h1, h2, if_true, h4, h5, Option.bind_some, wrap_succ i (by omega)])
  exact Ev.congr (fun k => by simp only [laws_eqIntSS.f, if_true]) this
def okRow (x : List Int) (n : Nat) : Bool := decide (x.length = n) && (List.range x.length).all (fun j => decide (0 ≤ rd x (j : Int) ∧ rd x (j : Int) ≤ 100000))
def goodPrices (l : List (List Int)) : Bool := decide (1 ≤ l.length ∧ l.length ≤ 6) && (List.range l.length).all (fun i => okRow (rd_L1 l (i : Int)) l.length)
theorem spec_prices (l : List (List Int)) (hb : l.length ≤ 1099511627776) (hi : ∀ j (h : j < l.length), l[j].length ≤ 1048576) : Ev (fun k => spec_GoodPrices.f k l) (goodPrices l) := by
  have hin : ∀ (i : Nat), i < l.length → ∀ (x : List Int), x.length ≤ 1048576 → ∀ r, Ev (fun k => spec_GoodPrices.l0 k (l.length : Int) l (l.length : Int) ((i + 1 : Nat) : Int)) r →
      Ev (fun k => spec_GoodPrices.l1 k (l.length : Int) l (l.length : Int) (i : Int) x (x.length : Int) 0) (if (List.range x.length).all (fun j => decide (0 ≤ rd x (j : Int) ∧ rd x (j : Int) ≤ 100000)) = true then r else false) := by
    intro i hlt x hx r hr
    refine all_loop2 (fun k j => spec_GoodPrices.l1 k (l.length : Int) l (l.length : Int) (i : Int) x (x.length : Int) j) x.length _ r false ?_ ?_ ?_
    · refine Ev.back 1 0 (fun k _ => ?_) hr
      have h1 : ¬ ((x.length : Int) < (x.length : Int)) := by omega
      simp only [spec_GoodPrices.l1, h1, if_false, wrap_succ i (by omega)]
    · intro j hj hp q hq
      refine Ev.back 1 0 (fun k _ => ?_) hq
      have h1 : (j : Int) < (x.length : Int) := by omega
      have h2 : (0 : Int) ≤ (j : Int) := by omega
      rw [decide_eq_true_eq] at hp
      simp only [spec_GoodPrices.l1, h1, h2, if_true, wrap_succ j (by omega)]
      rw [if_neg (by omega), if_neg (by omega)]
    · intro j hj hp
      refine Ev.at 1 0 (fun k _ => ?_)
      have h1 : (j : Int) < (x.length : Int) := by omega
      have h2 : (0 : Int) ≤ (j : Int) := by omega
      rw [decide_eq_false_iff_not] at hp
      simp only [spec_GoodPrices.l1, h1, h2, if_true]
      split
      · rfl
      · rw [if_pos (by omega)]
  have hl := all_loop2 (fun k i => spec_GoodPrices.l0 k (l.length : Int) l (l.length : Int) i) l.length (fun i => okRow (rd_L1 l (i : Int)) l.length) true false
    (Ev.at 1 0 (fun k _ => by simp [spec_GoodPrices.l0]))
    (fun i hlt hp r hr => by
      have h1 : (i : Int) < (l.length : Int) := by omega
      have h2 : (0 : Int) ≤ (i : Int) := by omega
      have h4 : rd_L1 l (i : Int) = l[i] := by simp [rd_L1, hlt]
      have hb' := hi i hlt
      simp only [okRow, Bool.and_eq_true, decide_eq_true_eq] at hp
      have := hin i hlt (rd_L1 l (i : Int)) (by rw [h4]; exact hb') r hr
      rw [if_pos hp.2] at this
      refine Ev.back 1 0 (fun k _ => ?_) this
      simp only [spec_GoodPrices.l0, h1, h2, if_true]
      rw [if_pos (by omega)])
    (fun i hlt hp => by
      have h1 : (i : Int) < (l.length : Int) := by omega
      have h2 : (0 : Int) ≤ (i : Int) := by omega
      have h4 : rd_L1 l (i : Int) = l[i] := by simp [rd_L1, hlt]
      have hb' := hi i hlt
      by_cases hlen : (rd_L1 l (i : Int)).length = l.length
      · simp only [okRow, hlen, decide_true, Bool.true_and] at hp
        have key : ∀ (d j : Nat), j + d = (rd_L1 l (i : Int)).length → (List.range' j d).all (fun j => decide (0 ≤ rd (rd_L1 l (i : Int)) (j : Int) ∧ rd (rd_L1 l (i : Int)) (j : Int) ≤ 100000)) = false →
            Ev (fun k => spec_GoodPrices.l1 k (l.length : Int) l (l.length : Int) (i : Int) (rd_L1 l (i : Int)) ((rd_L1 l (i : Int)).length : Int) (j : Int)) false := by
          intro d
          induction d with
          | zero =>
            intro j _ h
            simp at h
          | succ d ih =>
            intro j hj h
            have h5 : (j : Int) < ((rd_L1 l (i : Int)).length : Int) := by omega
            have h6 : (0 : Int) ≤ (j : Int) := by omega
            rw [List.range'_succ, List.all_cons] at h
            by_cases hc : 0 ≤ rd (rd_L1 l (i : Int)) (j : Int) ∧ rd (rd_L1 l (i : Int)) (j : Int) ≤ 100000
            · rw [decide_eq_true hc, Bool.true_and] at h
              refine Ev.back 1 0 (fun k _ => ?_) (ih (j + 1) (by omega) h)
              rw [h4] at *
              simp only [spec_GoodPrices.l1, h5, h6, if_true, wrap_succ j (by omega)]
              rw [if_neg (by omega), if_neg (by omega)]
            · refine Ev.at 1 0 (fun k _ => ?_)
              simp only [spec_GoodPrices.l1, h5, h6, if_true]
              split
              · rfl
              · rw [if_pos (by omega)]
        rw [← hlen, List.range_eq_range'] at hp
        have := key _ 0 (by omega) hp
        refine Ev.back 1 0 (fun k _ => ?_) this
        simp only [spec_GoodPrices.l0, h1, h2, if_true]
        rw [if_pos (by omega)]
        rfl
      · refine Ev.at 1 0 (fun k _ => ?_)
        simp only [spec_GoodPrices.l0, h1, h2, if_true]
        rw [if_neg (by omega)])
  obtain ⟨K, hK⟩ := hl
  refine ⟨K + 1, fun k hk => ?_⟩
  obtain ⟨m, rfl⟩ : ∃ m, k = m + 1 := ⟨k - 1, by omega⟩
  have hk' := hK m (by omega)
  simp only [spec_GoodPrices.f, spec_GoodPrices.j0, hk', goodPrices]
  generalize (List.range l.length).all (fun (i : Nat) => okRow (rd_L1 l (i : Int)) l.length) = q
  by_cases h1 : 1 ≤ l.length
  · by_cases h6 : l.length ≤ 6
    · have e1 : ¬ ((l.length : Int) < 1) := by omega
      have e2 : ¬ ((l.length : Int) > 6) := by omega
      cases q <;> simp [e1, e2, h1, h6]
    · have e1 : ¬ ((l.length : Int) < 1) := by omega
      have e2 : ((l.length : Int) > 6) := by omega
      cases q <;> simp [e1, e2, h1, h6]
  · have e1 : ((l.length : Int) < 1) := by omega
    simp [e1, h1]
theorem impl_prices (l : List (List Int)) (hb : l.length ≤ 1099511627776) (hi : ∀ j (h : j < l.length), l[j].length ≤ 1048576) : Ev (fun k => impl_GoodPrices.f k l) (goodPrices l) := by
  have key : ∀ (i : Nat), i < l.length → ∀ (x : List Int), x.length ≤ 1048576 → ∀ (d j : Nat), j + d = x.length →
      ((List.range' j d).all (fun j => decide (0 ≤ rd x (j : Int) ∧ rd x (j : Int) ≤ 100000)) = false → Ev (fun k => impl_GoodPrices.l1 k (l.length : Int) l (l.length : Int) (i : Int) x (x.length : Int) (j : Int)) false) ∧
      ((List.range' j d).all (fun j => decide (0 ≤ rd x (j : Int) ∧ rd x (j : Int) ≤ 100000)) = true → ∀ r, Ev (fun k => impl_GoodPrices.l0 k (l.length : Int) l (l.length : Int) ((i + 1 : Nat) : Int)) r → Ev (fun k => impl_GoodPrices.l1 k (l.length : Int) l (l.length : Int) (i : Int) x (x.length : Int) (j : Int)) r) := by
    intro i hlt x hx d
    induction d with
    | zero =>
      intro j hj
      obtain rfl : j = x.length := by omega
      refine ⟨fun h => by simp at h, fun _ r hr => Ev.back 1 0 (fun k _ => ?_) hr⟩
      have h1 : ¬ ((x.length : Int) < (x.length : Int)) := by omega
      simp only [impl_GoodPrices.l1, h1, if_false, wrap_succ i (by omega)]
    | succ d ih =>
      intro j hj
      have h1 : (j : Int) < (x.length : Int) := by omega
      have h2 : (0 : Int) ≤ (j : Int) := by omega
      rw [List.range'_succ, List.all_cons]
      by_cases hc : 0 ≤ rd x (j : Int) ∧ rd x (j : Int) ≤ 100000
      · have e : ∀ k, impl_GoodPrices.l1 (k + 1) (l.length : Int) l (l.length : Int) (i : Int) x (x.length : Int) (j : Int) = impl_GoodPrices.l1 k (l.length : Int) l (l.length : Int) (i : Int) x (x.length : Int) ((j + 1 : Nat) : Int) := by
          intro k
          simp only [impl_GoodPrices.l1, h1, h2, if_true, between_eq, Option.bind_some, hc, and_self, decide_true, wrap_succ j (by omega)]
        rw [decide_eq_true hc, Bool.true_and]
        exact ⟨fun h => Ev.back 1 0 (fun k _ => e k) ((ih (j + 1) (by omega)).1 h), fun h r hr => Ev.back 1 0 (fun k _ => e k) ((ih (j + 1) (by omega)).2 h r hr)⟩
      · rw [decide_eq_false hc, Bool.false_and]
        refine ⟨fun _ => Ev.at 1 0 (fun k _ => ?_), fun h => by cases h⟩
        simp only [impl_GoodPrices.l1, h1, h2, if_true, between_eq, Option.bind_some, decide_eq_false hc, Bool.false_eq_true, if_false]
  have hl := all_loop2 (fun k i => impl_GoodPrices.l0 k (l.length : Int) l (l.length : Int) i) l.length (fun i => okRow (rd_L1 l (i : Int)) l.length) (decide (1 ≤ l.length ∧ l.length ≤ 6)) false
    (Ev.at 1 0 (fun k _ => by
      have h1 : ¬ ((l.length : Int) < (l.length : Int)) := by omega
      simp only [impl_GoodPrices.l0, h1, if_false, between_eq, Option.bind_some, Option.some.injEq]
      apply decide_eq_decide.2
      omega))
    (fun i hlt hp r hr => by
      have h1 : (i : Int) < (l.length : Int) := by omega
      have h2 : (0 : Int) ≤ (i : Int) := by omega
      have h4 : rd_L1 l (i : Int) = l[i] := by simp [rd_L1, hlt]
      have hb' := hi i hlt
      simp only [okRow, Bool.and_eq_true, decide_eq_true_eq] at hp
      have := (key i hlt (rd_L1 l (i : Int)) (by rw [h4]; exact hb') _ 0 (Nat.zero_add _)).2 (by rw [← List.range_eq_range']; exact hp.2) r hr
      refine Ev.back 1 0 (fun k _ => ?_) this
      simp only [impl_GoodPrices.l0, h1, h2, if_true]
      rw [if_pos (by omega)]
      rfl)
    (fun i hlt hp => by
      have h1 : (i : Int) < (l.length : Int) := by omega
      have h2 : (0 : Int) ≤ (i : Int) := by omega
      have h4 : rd_L1 l (i : Int) = l[i] := by simp [rd_L1, hlt]
      have hb' := hi i hlt
      by_cases hlen : (rd_L1 l (i : Int)).length = l.length
      · have hp2 : (List.range (rd_L1 l (i : Int)).length).all (fun j => decide (0 ≤ rd (rd_L1 l (i : Int)) (j : Int) ∧ rd (rd_L1 l (i : Int)) (j : Int) ≤ 100000)) = false := by
          simp only [okRow, decide_eq_true hlen, Bool.true_and] at hp
          exact hp
        have := (key i hlt (rd_L1 l (i : Int)) (by rw [h4]; exact hb') _ 0 (Nat.zero_add _)).1 (by rw [← List.range_eq_range']; exact hp2)
        refine Ev.back 1 0 (fun k _ => ?_) this
        simp only [impl_GoodPrices.l0, h1, h2, if_true]
        rw [if_pos (by omega)]
        rfl
      · refine Ev.at 1 0 (fun k _ => ?_)
        simp only [impl_GoodPrices.l0, h1, h2, if_true]
        rw [if_neg (by omega)])
  have e : (if (List.range l.length).all (fun (i : Nat) => okRow (rd_L1 l (i : Int)) l.length) = true then decide (1 ≤ l.length ∧ l.length ≤ 6) else false) = goodPrices l := by
    unfold goodPrices
    cases (List.range l.length).all (fun (i : Nat) => okRow (rd_L1 l (i : Int)) l.length) <;> simp
  rw [e] at hl
  exact hl
def whoAt (w : List Int) (i : Nat) : Bool := decide (0 ≤ rd w (i : Int) ∧ rd w (i : Int) ≤ (w.length : Int) - 1) && !(w.take i).contains (rd w (i : Int))
def goodWho (w : List Int) (n : Nat) : Bool := decide (w.length = n) && (List.range w.length).all (whoAt w)
theorem take_mem_succ (w : List Int) (i : Nat) (h : i < w.length) (x : Int) : x ∈ w.take (i + 1) ↔ (x ∈ w.take i ∨ x = rd w (i : Int)) := by
  rw [List.take_succ_eq_append_getElem h, List.mem_append, List.mem_singleton, rd_get w i h]
theorem contains_ev (l : List Int) (a : Int) (hb : l.length ≤ 1099511627776) : Ev (fun k => slices_Contains_int_int.f k l a) (l.contains a) := by
  obtain ⟨r, hp, h⟩ := one_while (fun k (s : Int) => slices_Index_int_int.l0 k l a (l.length : Int) s) (fun d s => ∃ i : Nat, s = (i : Int) ∧ i + d = l.length ∧ a ∉ l.take i) (fun r => (r ≥ 0 ↔ a ∈ l))
    (by
      rintro d s ⟨i, rfl, hd, hno⟩
      by_cases hi : i < l.length
      · have h1 : (i : Int) < (l.length : Int) := by omega
        have h2 : (0 : Int) ≤ (i : Int) := by omega
        by_cases he : a = rd l (i : Int)
        · left
          refine ⟨(i : Int), ⟨fun _ => ?_, fun _ => by omega⟩, Ev.at 1 0 (fun k _ => ?_)⟩
          · rw [he, rd_get l i hi]
            exact List.getElem_mem _
          · simp only [slices_Index_int_int.l0, h1, h2, if_true]
            rw [if_pos he]
        · right
          refine ⟨d - 1, ((i + 1 : Nat) : Int), by omega, ⟨i + 1, rfl, by omega, ?_⟩, fun r hr => Ev.back 1 0 (fun k _ => ?_) hr⟩
          · rw [take_mem_succ l i hi]
            rintro (h | h)
            · exact hno h
            · exact he h
          · simp only [slices_Index_int_int.l0, h1, h2, if_true, wrap_succ i (by omega)]
            rw [if_neg he]
      · left
        have h1 : ¬ (i : Int) < (l.length : Int) := by omega
        rw [List.take_of_length_le (by omega)] at hno
        exact ⟨-1, ⟨fun h => by omega, fun h => absurd h hno⟩, Ev.at 1 0 (fun k _ => by simp only [slices_Index_int_int.l0, h1, if_false])⟩) l.length 0 ⟨0, rfl, by omega, by simp⟩
  obtain ⟨K, hK⟩ := h
  refine ⟨K, fun k hk => ?_⟩
  have h' := hK k hk
  simp only at h'
  simp only [slices_Contains_int_int.f, slices_Index_int_int.f, h', Option.bind_some, Option.some.injEq]
  rw [Bool.eq_iff_iff, decide_eq_true_eq, hp, List.contains_iff_mem]
theorem impl_who (p : List (List Int)) (w : List Int) (hb : p.length ≤ 1048576) (hi : ∀ j (h : j < p.length), p[j].length ≤ 1048576) (hw : w.length ≤ 1048576) :
    Ev (fun k => impl_goodWho.f k p w) (goodPrices p && goodWho w p.length) := by
  have hl := all_loop2 (fun k i => impl_goodWho.l0 k w w (w.length : Int) i) w.length (whoAt w) true false
    (Ev.at 1 0 (fun k _ => by simp [impl_goodWho.l0]))
    (fun i hlt hp r hr => by
      have h1 : (i : Int) < (w.length : Int) := by omega
      have h2 : (0 : Int) ≤ (i : Int) := by omega
      have h3 : (i : Int) ≤ (w.length : Int) := by omega
      simp only [whoAt, Bool.and_eq_true, Bool.not_eq_true', decide_eq_true_eq] at hp
      obtain ⟨K, hK⟩ := contains_ev (w.take i) (rd w (i : Int)) (by rw [List.length_take]; omega)
      refine Ev.back 1 K (fun k hk => ?_) hr
      have h5 := hK k hk
      simp only at h5
      rw [hp.2] at h5
      have hwr : wrap64 ((w.length : Int) - 1) = (w.length : Int) - 1 := wrap_in (by omega) (by omega)
      simp only [impl_goodWho.l0, h1, h2, h3, if_true, between_eq, Option.bind_some, hwr, hp.1, and_self, decide_true, toNat_i, h5, Bool.false_eq_true, if_false, wrap_succ i (by omega)])
    (fun i hlt hp => by
      have h1 : (i : Int) < (w.length : Int) := by omega
      have h2 : (0 : Int) ≤ (i : Int) := by omega
      have h3 : (i : Int) ≤ (w.length : Int) := by omega
      obtain ⟨K, hK⟩ := contains_ev (w.take i) (rd w (i : Int)) (by rw [List.length_take]; omega)
      refine Ev.at 1 K (fun k hk => ?_)
      have h5 := hK k hk
      simp only at h5
      have hwr : wrap64 ((w.length : Int) - 1) = (w.length : Int) - 1 := wrap_in (by omega) (by omega)
      simp only [impl_goodWho.l0, h1, h2, h3, if_true, between_eq, Option.bind_some, hwr, toNat_i, h5]
      simp only [whoAt] at hp
      cases hd : decide (0 ≤ rd w (i : Int) ∧ rd w (i : Int) ≤ (w.length : Int) - 1) with
      | false => simp
      | true =>
        rw [hd, Bool.true_and, Bool.not_eq_false'] at hp
        simp only [hp, if_true])
  obtain ⟨K1, h1⟩ := impl_prices p (by omega) hi
  obtain ⟨K2, h2⟩ := hl
  refine ⟨K1 + K2 + 1, fun k hk => ?_⟩
  obtain ⟨m, rfl⟩ : ∃ m, k = m + 1 := ⟨k - 1, by omega⟩
  have h1' := h1 (m + 1) (by omega)
  have h2' := h2 m (by omega)
  simp only at h1' h2'
  simp only [impl_goodWho.f, h1', Option.bind_some, impl_goodWho.j0, if_true, h2', goodWho]
  generalize (List.range w.length).all (whoAt w) = q
  cases goodPrices p with
  | false => simp
  | true =>
    by_cases e : w.length = p.length
    · have e' : ((w.length : Int) != (p.length : Int)) = false := by simp; omega
      rw [e', decide_eq_true e]
      cases q <;> simp
    · have e' : ((w.length : Int) != (p.length : Int)) = true := by simp; omega
      rw [e', decide_eq_false e]
      simp
theorem spec_who (w : List Int) (n : Nat) (hn : n ≤ 1048576) (hw : w.length ≤ 1048576) : Ev (fun k => spec_l27Who.f k w (n : Int)) (goodWho w n) := by
  by_cases e : w.length = n
  · subst e
    obtain ⟨r, hp, h⟩ := one_while (fun k (s : List Bool × Int) => spec_l27Who.l0 k (w.length : Int) s.1 w (w.length : Int) s.2)
      (fun d s => ∃ i : Nat, s.2 = (i : Int) ∧ i + d = w.length ∧ s.1.length = w.length ∧ (∀ j : Nat, j < w.length → (s.1.getD j false = true ↔ (j : Int) ∈ w.take i)) ∧ ∀ j, j < i → whoAt w j = true)
      (fun r => r = (List.range w.length).all (whoAt w))
      (by
        rintro d ⟨s, z⟩ ⟨i, hz, hd, hlen, hhad, hall⟩
        obtain rfl : z = (i : Int) := hz
        simp only at hlen hhad
        by_cases hi : i < w.length
        · have h1 : (i : Int) < (w.length : Int) := by omega
          have h2 : (0 : Int) ≤ (i : Int) := by omega
          have no : whoAt w i = false → (false = (List.range w.length).all (whoAt w)) := by
            intro hf
            symm
            rw [List.all_eq_false]
            exact ⟨i, List.mem_range.2 hi, by simp [hf]⟩
          by_cases hr : 0 ≤ rd w (i : Int) ∧ rd w (i : Int) ≤ (w.length : Int) - 1
          · have h3 : ¬ (rd w (i : Int) < 0) := by omega
            have h4 : ¬ (rd w (i : Int) ≥ (w.length : Int)) := by omega
            have h5 : (rd w (i : Int) < (s.length : Int)) := by omega
            have h6 : rdOf false s (rd w (i : Int)) = s.getD (rd w (i : Int)).toNat false := rfl
            have hh := hhad (rd w (i : Int)).toNat (by omega)
            rw [show (((rd w (i : Int)).toNat : Nat) : Int) = rd w (i : Int) by omega] at hh
            cases hb : s.getD (rd w (i : Int)).toNat false with
            | true =>
              left
              refine ⟨false, no ?_, Ev.at 1 0 (fun k _ => ?_)⟩
              · have := hh.1 hb
                simp only [whoAt]
                rw [List.contains_iff_mem.2 this]
                simp
              · simp only [spec_l27Who.l0, h1, h2, if_true, h3, h4, if_false, hr.1, h5, h6, hb]
            | false =>
              right
              have hnot : rd w (i : Int) ∉ w.take i := fun h => by
                rw [hh.2 h] at hb
                cases hb
              refine ⟨d - 1, (s.set (rd w (i : Int)).toNat true, ((i + 1 : Nat) : Int)), by omega, ⟨i + 1, rfl, by omega, by simp only [List.length_set]; exact hlen, fun j hj => ?_, fun j hj => ?_⟩, fun r hr' => Ev.back 1 0 (fun k _ => ?_) hr'⟩
              · simp only
                rw [take_mem_succ w i hi, ← hhad j hj]
                by_cases ej : (rd w (i : Int)).toNat = j
                · subst ej
                  rw [List.getD_eq_getElem?_getD, List.getElem?_set_self (by omega)]
                  simp
                  omega
                · rw [List.getD_eq_getElem?_getD, List.getElem?_set_ne ej, ← List.getD_eq_getElem?_getD]
                  constructor
                  · exact .inl
                  · rintro (h | h)
                    · exact h
                    · exfalso; omega
              · by_cases ej : j = i
                · subst ej
                  simp only [whoAt, Bool.and_eq_true, Bool.not_eq_true', decide_eq_true_eq]
                  refine ⟨hr, ?_⟩
                  rw [← Bool.not_eq_true, List.contains_iff_mem]
                  exact hnot
                · exact hall j (by omega)
              · simp only [spec_l27Who.l0, h1, h2, if_true, h3, h4, if_false, hr.1, h5, h6, hb, Bool.false_eq_true, wrap_succ i (by omega)]
          · left
            refine ⟨false, no ?_, Ev.at 1 0 (fun k _ => ?_)⟩
            · simp only [whoAt]
              rw [decide_eq_false hr]
              simp
            · simp only [spec_l27Who.l0, h1, h2, if_true]
              split
              · rfl
              · rw [if_pos (by omega)]
        · left
          have h1 : ¬ (i : Int) < (w.length : Int) := by omega
          refine ⟨true, ?_, Ev.at 1 0 (fun k _ => by simp only [spec_l27Who.l0, h1, if_false])⟩
          symm
          rw [range_all]
          exact fun j hj => hall j (by omega)) w.length (List.replicate w.length false, 0)
      ⟨0, rfl, by omega, by simp, fun j hj => by simp [List.getD_eq_getElem?_getD, List.getElem?_replicate, hj], fun j hj => by omega⟩
    subst hp
    refine Ev.congr (fun k => ?_) (r := goodWho w w.length) (f := fun k => spec_l27Who.l0 k (w.length : Int) (List.replicate w.length false) w (w.length : Int) 0) ?_
    · have h5 : w.length ≤ 100000000 := by omega
      simp only [spec_l27Who.f, toNat_i, if_true]
      rw [if_pos (by omega), if_pos (by omega)]
    · have e2 : goodWho w w.length = (List.range w.length).all (whoAt w) := by simp [goodWho]
      rw [e2]
      exact h
  · refine ⟨0, fun k _ => ?_⟩
    have e' : ¬ ((w.length : Int) = (n : Int)) := by omega
    simp only [spec_l27Who.f, e', if_false, goodWho, decide_eq_false e, Bool.false_and]
theorem cost_same : ∀ (k : Nat) (p : List (List Int)) (s : Int) (w : List Int) (n i : Int), impl_assignCost.l0 k p s w n i = spec_l27Cost.l0 k p s w n i
  | 0, _, _, _, _, _ => rfl
  | k + 1, p, s, w, n, i => by simp only [impl_assignCost.l0, spec_l27Cost.l0, cost_same k]
theorem prices_row (p : List (List Int)) (h : goodPrices p = true) (i : Nat) (hi : i < p.length) : (rd_L1 p (i : Int)).length = p.length ∧ ∀ j : Nat, j < p.length → 0 ≤ rd (rd_L1 p (i : Int)) (j : Int) ∧ rd (rd_L1 p (i : Int)) (j : Int) ≤ 100000 := by
  simp only [goodPrices, Bool.and_eq_true, range_all] at h
  have := h.2 i hi
  simp only [okRow, Bool.and_eq_true, decide_eq_true_eq, range_all] at this
  exact ⟨this.1, fun j hj => this.2 j (by omega)⟩
theorem prices_len (p : List (List Int)) (h : goodPrices p = true) : 1 ≤ p.length ∧ p.length ≤ 6 := by
  simp only [goodPrices, Bool.and_eq_true, decide_eq_true_eq] at h
  exact h.1
theorem who_at (w : List Int) (n : Nat) (h : goodWho w n = true) : w.length = n ∧ ∀ i : Nat, i < n → 0 ≤ rd w (i : Int) ∧ rd w (i : Int) < (n : Int) ∧ rd w (i : Int) ∉ w.take i := by
  simp only [goodWho, Bool.and_eq_true, decide_eq_true_eq, range_all] at h
  refine ⟨h.1, fun i hi => ?_⟩
  have := h.2 i (by omega)
  simp only [whoAt, Bool.and_eq_true, decide_eq_true_eq, Bool.not_eq_true'] at this
  refine ⟨this.1.1, by omega, fun hm => ?_⟩
  rw [List.contains_iff_mem.2 hm] at this
  simp at this
/-- What an assignment costs. -/
def costTo (p : List (List Int)) (w : List Int) : Nat → Int
  | 0 => 0
  | i + 1 => costTo p w i + rd (rd_L1 p (i : Int)) (rd w (i : Int))
theorem cost_bound (p : List (List Int)) (w : List Int) (hp : goodPrices p = true) (hw : goodWho w p.length = true) : ∀ i : Nat, i ≤ p.length → 0 ≤ costTo p w i ∧ costTo p w i ≤ 100000 * i
  | 0, _ => by simp [costTo]
  | i + 1, h => by
    have ih := cost_bound p w hp hw i (by omega)
    have h1 := (who_at w _ hw).2 i (by omega)
    have h2 := (prices_row p hp i (by omega)).2 (rd w (i : Int)).toNat (by omega)
    rw [show (((rd w (i : Int)).toNat : Nat) : Int) = rd w (i : Int) by omega] at h2
    simp only [costTo]
    omega
theorem cost_ev (p : List (List Int)) (w : List Int) (hp : goodPrices p = true) (hw : goodWho w p.length = true) : Ev (fun k => spec_l27Cost.f k p w) (costTo p w p.length) := by
  have hlen := prices_len p hp
  have hwl := (who_at w _ hw).1
  have := run_loop (fun k i (s : Int) => spec_l27Cost.l0 k p s w (w.length : Int) i) w.length (fun i => costTo p w i) (costTo p w p.length)
    (Ev.at 1 0 (fun k _ => by
      have h1 : ¬ ((p.length : Int) < (p.length : Int)) := by omega
      simp only [spec_l27Cost.l0, hwl, h1, if_false]))
    (fun i hi => ⟨0, fun k _ => by
      have h1 : (i : Int) < (w.length : Int) := by omega
      have h2 : (0 : Int) ≤ (i : Int) := by omega
      have h3 : (i : Int) < (p.length : Int) := by omega
      have h4 := (who_at w _ hw).2 i (by omega)
      have h5 := prices_row p hp i (by omega)
      have h6 : rd w (i : Int) < ((rd_L1 p (i : Int)).length : Int) := by omega
      have hb := cost_bound p w hp hw (i + 1) (by omega)
      simp only [costTo] at hb
      have h7 : wrap64 (costTo p w i + rd (rd_L1 p (i : Int)) (rd w (i : Int))) = costTo p w (i + 1) := wrap_in (by omega) (by omega)
      simp only [spec_l27Cost.l0, h1, h2, h3, h4.1, h6, if_true, h7, wrap_succ i (by omega)]⟩) 0 (Nat.zero_le _)
  exact this
theorem FnExactAssignCost : ∀ (l0 : List (List Int)) (l1 : List Int), ((∀ (zl0 : List Int), zl0 ∈ l0 → ((∀ (zzl0 : Int), zzl0 ∈ zl0 → (Lit.int .i64 zzl0).wf = true) ∧ zl0.length * 8 ≤ 140737488351232)) ∧ l0.length * 24 ≤ 140737488351232) → ((∀ (zl1 : Int), zl1 ∈ l1 → (Lit.int .i64 zl1).wf = true) ∧ l1.length * 8 ≤ 140737488351232) → ∃ k, laws_FnExactAssignCost.f k l0 l1 = some true := by
  intro p w ⟨hin, hl⟩ ⟨_, hwl⟩
  by_cases hwn : (w.length : Int) > 1048576
  · exact ⟨0, by simp only [laws_FnExactAssignCost.f, hwn, if_true]⟩
  obtain ⟨t, ht, K0, h0⟩ := szIntSS_ev p (by omega) (fun x hx => by have := (hin x hx).2; omega)
  rcases ht with ht | ⟨ht, hlen, hinner⟩
  · refine ⟨K0, ?_⟩
    have h0' := h0 K0 (by omega)
    simp only at h0'
    simp only [laws_FnExactAssignCost.f, hwn, if_false, h0', Option.bind_some, ht, if_true]
  · obtain ⟨K1, h1⟩ := toIntSS_ev p hlen hinner
    obtain ⟨K2, h2⟩ := toIntS_ev w (by omega)
    obtain ⟨K3, h3⟩ := spec_prices p (by omega) hinner
    obtain ⟨K4, h4⟩ := spec_who w p.length (by omega) (by omega)
    obtain ⟨K5, h5⟩ := impl_who p w hlen hinner (by omega)
    obtain ⟨K6, h6⟩ := eqIntSS_ev p hlen hinner
    obtain ⟨K7, h7⟩ := eqIntS_ev w (by omega)
    have both : ∃ r K, ∀ k, K ≤ k → spec_AssignCost.f k p w = some r ∧ impl_AssignCost.f k p w = some r := by
      by_cases hp : goodPrices p = true
      · by_cases hw : goodWho w p.length = true
        · obtain ⟨K8, h8⟩ := cost_ev p w hp hw
          refine ⟨(costTo p w p.length, true), K3 + K4 + K5 + K8, fun k hk => ?_⟩
          have h3' := h3 k (by omega)
          have h4' := h4 k (by omega)
          have h5' := h5 k (by omega)
          have h8' := h8 k (by omega)
          have h9' : impl_assignCost.f k p w = some (costTo p w p.length) := (cost_same k p 0 w _ 0).trans h8'
          simp only [hp, hw] at h3' h4' h5' h8'
          simp only [spec_AssignCost.f, impl_AssignCost.f, h3', h4', h5', h8', h9', Option.bind_some, if_true, Bool.and_self, and_self]
        · refine ⟨(0, false), K3 + K4 + K5, fun k hk => ?_⟩
          have h3' := h3 k (by omega)
          have h4' := h4 k (by omega)
          have h5' := h5 k (by omega)
          rw [Bool.not_eq_true] at hw
          simp only [hp, hw] at h3' h4' h5'
          simp only [spec_AssignCost.f, impl_AssignCost.f, h3', h4', h5', Option.bind_some, if_true, Bool.and_false, Bool.false_eq_true, if_false, and_self]
      · refine ⟨(0, false), K3 + K5, fun k hk => ?_⟩
        have h3' := h3 k (by omega)
        have h5' := h5 k (by omega)
        rw [Bool.not_eq_true] at hp
        simp only [hp] at h3' h5'
        simp only [spec_AssignCost.f, impl_AssignCost.f, h3', h5', Option.bind_some, Bool.false_and, Bool.false_eq_true, if_false, and_self]
    obtain ⟨⟨c, b⟩, K8, h8⟩ := both
    have hj : ∀ k, K1 + K2 + K6 + K7 ≤ k → laws_FnExactAssignCost.j0 (k + 1) p w p w false = some true := by
      intro k hk
      simp (disch := omega) only [laws_FnExactAssignCost.j0, h1, h2, h6, h7, Option.bind_some, Bool.false_eq_true, if_false, if_true]
    refine ⟨K0 + K1 + K2 + K3 + K4 + K5 + K6 + K7 + K8 + 1, ?_⟩
    have hj' := hj (K0 + K1 + K2 + K3 + K4 + K5 + K6 + K7 + K8) (by omega)
    have h8' := h8 (K0 + K1 + K2 + K3 + K4 + K5 + K6 + K7 + K8 + 1) (by omega)
    simp (disch := omega) only [laws_FnExactAssignCost.f, hwn, if_false, h0, Option.bind_some, ht, h1, h2, h8', if_true, bne_self_eq_false, hj']

end Go.Proofs.Ythalklcgdibnkaa.Pure
