/- 'FnExactBestAssign': what the program's function and the reference's answer, told over numbers and lists alone, meets the law at every input within the kinds' own bounds; no other condition. -/
import Derived.Test.YtllcdmjleohikaaQFnExactBestAssignx6
import Derived.Test.YtllcdmjleohikaaPlain
namespace Go.Proofs.Ytllcdmjleohikaa.Pure
open Go.RowKit Go.Proofs.Ytllcdmjleohikaa.PFnExactBestAssign Go.Proofs.Ytllcdmjleohikaa.Plain Go.Proofs.YtllcdmjleohikaaW.PrintWords Go.Proofs.YtllcdmjleohikaaW.PrintLast
set_option linter.unusedVariables false
set_option linter.unusedSimpArgs false

theorem szIntS_eq (l : List Int) (h : l.length ≤ 140737488351232) (n : Int) (h0 : 0 ≤ n) (h1 : n ≤ 1048576) : laws_szIntS.f l n = some (if (l.length : Int) > n then -1 else n - l.length) := by
  unfold laws_szIntS.f
  rw [wrap_in (by omega) (by omega)]
  split <;> split <;> first | rfl | (exfalso; omega)
theorem toIntS_ev (l : List Int) (h : l.length ≤ 1048576) : Ev (fun k => laws_toIntS.f k l) l := by
  have := to_loop (fun k acc i => laws_toIntS.l0 k l acc i) id l 0 (fun k acc => by simp [laws_toIntS.l0]) (fun i hi => ⟨0, fun k _ acc hacc => by
    have h1 : (i : Int) < (l.length : Int) := by omega
    have h2 : (0 : Int) ≤ (i : Int) := by omega
    have h3 : (i : Int) < (acc.length : Int) := by omega
    have h4 : rd l (i : Int) = l[i] := by simp [rd, hi]
    simp only [laws_toIntS.l0, h1, h2, h3, h4, if_true, wrap_succ i (by omega), toNat_i]
    rfl⟩)
  rw [List.map_id] at this
  exact Ev.congr (fun k => by
    have h5 : l.length ≤ 100000000 := by omega
    simp only [laws_toIntS.f, toNat_i]
    rw [if_pos (by omega), if_pos (by omega)]) this
theorem eqIntS_ev (l : List Int) (h : l.length < 9223372036854775807) : Ev (fun k => laws_eqIntS.f k l l) true := by
  have := eq_loop (fun k i => laws_eqIntS.l0 k l l i) l.length true (fun k => by simp [laws_eqIntS.l0]) (fun i hi => ⟨0, fun k _ => by
    have h1 : (i : Int) < (l.length : Int) := by omega
    have h2 : (0 : Int) ≤ (i : Int) := by omega
    simp only [laws_eqIntS.l0, h1, h2, if_true, Option.bind_some, wrap_succ i (by omega), bne_self_eq_false, Bool.false_eq_true, if_false]⟩)
  exact Ev.congr (fun k => by simp only [laws_eqIntS.f, if_true]) this
theorem markIntS_at (l : List Int) (h : l.length ≤ 1000000000) (m0 : Int) (h0 : 0 ≤ m0) (hm : m0 ≤ 1000000000000000) : Ev (fun k => laws_markIntS.f k l m0) (m0 + ((1 : Nat) : Int) * (l.length : Int), (List.range l.length).map fun (j : Nat) => id (m0 + ((1 : Nat) : Int) * (j : Int))) := by
  refine mark_loop (fun k ys m i => laws_markIntS.l0 k ys m i) id 1 m0 l (fun k ys m hy => by simp [laws_markIntS.l0, hy]) (fun i hi => ⟨0, fun k _ ys hy => ?_⟩)
  have h1 : (i : Int) < (ys.length : Int) := by omega
  have h2 : (0 : Int) ≤ (i : Int) := by omega
  have hw1 : wrap64 (m0 + 1 * (i : Int) + 1) = m0 + 1 * ((i + 1 : Nat) : Int) := (wrap_in (by omega) (by omega)).trans (by omega)
  simp only [Int.cast_ofNat_Int] at *
  simp only [laws_markIntS.l0, h1, h2, if_true, wrap_succ i (by omega), toNat_i, Option.bind_some, hw1]
  all_goals rfl
theorem markIntS_ev (l : List Int) (h : l.length ≤ 1000000000) : Ev (fun k => laws_markIntS.f k l 1) (1 + ((1 : Nat) : Int) * (l.length : Int), (List.range l.length).map fun (j : Nat) => id (1 + ((1 : Nat) : Int) * (j : Int))) := markIntS_at l h 1 (by omega) (by omega)
theorem heldIntS_at (n : Nat) (h : n ≤ 1000000000) (m0 : Int) (h0 : 0 ≤ m0) (hm : m0 ≤ 1000000000000000) : Ev (fun k => laws_heldIntS.f k ((List.range n).map fun (j : Nat) => id (m0 + ((1 : Nat) : Int) * (j : Int))) m0) (m0 + ((1 : Nat) : Int) * (n : Int)) := by
  refine held_loop (fun k m i => laws_heldIntS.l0 k ((List.range n).map fun (j : Nat) => id (m0 + ((1 : Nat) : Int) * (j : Int))) m i) 1 m0 n _ (fun k => by simp [laws_heldIntS.l0]) (fun i hi => ⟨0, fun k _ => ?_⟩)
  have h1 : (i : Int) < ((((List.range n).map fun (j : Nat) => id (m0 + ((1 : Nat) : Int) * (j : Int))).length : Nat) : Int) := by simp; omega
  have h2 : (0 : Int) ≤ (i : Int) := by omega
  have h3 : rd ((List.range n).map fun (j : Nat) => id (m0 + ((1 : Nat) : Int) * (j : Int))) (i : Int) = id (m0 + ((1 : Nat) : Int) * (i : Int)) := by simp [rd, hi]
  have hw1 : wrap64 (m0 + 1 * (i : Int) + 1) = m0 + 1 * ((i + 1 : Nat) : Int) := (wrap_in (by omega) (by omega)).trans (by omega)
  generalize ((List.range n).map fun (j : Nat) => id (m0 + ((1 : Nat) : Int) * (j : Int))) = L at *
  simp only [Int.cast_ofNat_Int] at *
  simp only [laws_heldIntS.l0, h1, h2, h3, if_true, wrap_succ i (by omega), bne_self_eq_false, Bool.false_eq_true, if_false, id, hw1]

theorem heldIntS_ev (n : Nat) (h : n ≤ 1000000000) : Ev (fun k => laws_heldIntS.f k ((List.range n).map fun (j : Nat) => id (1 + ((1 : Nat) : Int) * (j : Int))) 1) (1 + ((1 : Nat) : Int) * (n : Int)) := heldIntS_at n h 1 (by omega) (by omega)
theorem between_eq (a lo hi : Int) : impl_between.f a lo hi = some (decide (lo ≤ a ∧ a ≤ hi)) := by
  unfold impl_between.f
  split <;> simp <;> omega
theorem szIntSS_ev (l : List (List Int)) (hl : l.length ≤ 140737488351232) (hi : ∀ x, x ∈ l → x.length ≤ 140737488351232) :
    ∃ r, (r < 0 ∨ (¬ r < 0 ∧ l.length ≤ 1048576 ∧ ∀ j (h : j < l.length), l[j].length ≤ 1048576)) ∧ Ev (fun k => laws_szIntSS.f k l 1048576) r := by
  by_cases hn : (l.length : Int) > 1048576
  · refine ⟨-1, .inl (by omega), 0, fun k _ => ?_⟩
    simp only [laws_szIntSS.f]
    rw [wrap_in (by omega) (by omega), if_pos (by omega)]
  · obtain ⟨r, hp, h⟩ := one_while (fun k (s : Int × Int) => laws_szIntSS.l0 k l s.1 s.2) (fun d s => ∃ i : Nat, s.2 = (i : Int) ∧ i + d = l.length ∧ 0 ≤ s.1 ∧ s.1 ≤ 1048576 ∧ ∀ j (h : j < l.length), j < i → l[j].length ≤ 1048576)
      (fun r => r < 0 ∨ (¬ r < 0 ∧ l.length ≤ 1048576 ∧ ∀ j (h : j < l.length), l[j].length ≤ 1048576))
      (by
        rintro d ⟨s, j⟩ ⟨i, hj, hd, hs0, hs1, hall⟩
        obtain rfl : j = (i : Int) := hj
        simp only at hs0 hs1
        by_cases hlt : i < l.length
        · have h1 : (i : Int) < (l.length : Int) := by omega
          have h2 : (0 : Int) ≤ (i : Int) := by omega
          have h3 : rd_L1 l (i : Int) = l[i] := by simp [rd_L1, hlt]
          have hb := hi l[i] (List.getElem_mem _)
          have hz := szIntS_eq l[i] hb s hs0 hs1
          by_cases hc : (l[i].length : Int) > s
          · left
            refine ⟨-1, .inl (by omega), Ev.at 1 0 (fun k _ => ?_)⟩
            simp only [laws_szIntSS.l0, h1, h2, if_true, h3, hz, hc, Option.bind_some]
            rfl
          · right
            have h4 : ¬ (s - (l[i].length : Int) < 0) := by omega
            refine ⟨d - 1, (s - (l[i].length : Int), ((i + 1 : Nat) : Int)), by omega, ⟨i + 1, rfl, by omega, by simp only; omega, by simp only; omega, fun j hj hji => ?_⟩, fun r hr => Ev.back 1 0 (fun k _ => ?_) hr⟩
            · by_cases e : j = i
              · subst e
                omega
              · exact hall j hj (by omega)
            · simp only [laws_szIntSS.l0, h1, h2, if_true, h3, hz, hc, if_false, Option.bind_some, h4, wrap_succ i (by omega)]
        · left
          have h1 : ¬ (i : Int) < (l.length : Int) := by omega
          exact ⟨s, .inr ⟨by omega, by omega, fun j hj => hall j hj (by omega)⟩, Ev.at 1 0 (fun k _ => by simp only [laws_szIntSS.l0, h1, if_false])⟩) l.length (1048576 - (l.length : Int), 0) ⟨0, rfl, by omega, by simp only; omega, by simp only; omega, fun j _ h => by omega⟩
    refine ⟨r, hp, Ev.congr (fun k => ?_) h⟩
    simp only [laws_szIntSS.f]
    rw [wrap_in (by omega) (by omega), if_neg (by omega)]
theorem toIntSS_ev (l : List (List Int)) (hl : l.length ≤ 1048576) (hi : ∀ j (h : j < l.length), l[j].length ≤ 1048576) : Ev (fun k => laws_toIntSS.f k l) l := by
  have := to_loop (fun k acc i => laws_toIntSS.l0 k l acc i) id l [] (fun k acc => by simp [laws_toIntSS.l0]) (fun i hlt => by
    obtain ⟨K, hK⟩ := toIntS_ev l[i] (hi i hlt)
    refine ⟨K, fun k hk acc hacc => ?_⟩
    have h1 : (i : Int) < (l.length : Int) := by omega
    have h2 : (0 : Int) ≤ (i : Int) := by omega
    have h3 : (i : Int) < (acc.length : Int) := by omega
    have h4 : rd_L1 l (i : Int) = l[i] := by simp [rd_L1, hlt]
    have h5 := hK k hk
    simp only at h5
    simp only [laws_toIntSS.l0, h1, h2, h3, h4, h5, if_true, Option.bind_some, wrap_succ i (by omega), toNat_i]
    rfl)
  rw [List.map_id] at this
  exact Ev.congr (fun k => by
    have h5 : l.length ≤ 100000000 := by omega
    simp only [laws_toIntSS.f, toNat_i]
    rw [if_pos (by omega), if_pos (by omega)]) this
theorem eqIntSS_ev (l : List (List Int)) (hl : l.length ≤ 1048576) (hi : ∀ j (h : j < l.length), l[j].length ≤ 1048576) : Ev (fun k => laws_eqIntSS.f k l l) true := by
  have := eq_loop (fun k i => laws_eqIntSS.l0 k l l i) l.length true (fun k => by simp [laws_eqIntSS.l0]) (fun i hlt => by
    have h4 : rd_L1 l (i : Int) = l[i] := by simp [rd_L1, hlt]
    have hb := hi i hlt
    obtain ⟨K, hK⟩ := eqIntS_ev l[i] (by omega)
    refine ⟨K, fun k hk => ?_⟩
    have h1 : (i : Int) < (l.length : Int) := by omega
    have h2 : (0 : Int) ≤ (i : Int) := by omega
    have h5 := hK k hk
    simp only at h5
    simp only [laws_eqIntSS.l0, h1, h2, if_true, h4, h5, Option.bind_some, wrap_succ i (by omega)])
  exact Ev.congr (fun k => by simp only [laws_eqIntSS.f, if_true]) this
def okRow (x : List Int) (n : Nat) : Bool := decide (x.length = n) && (List.range x.length).all (fun j => decide (0 ≤ rd x (j : Int) ∧ rd x (j : Int) ≤ 100000))
def goodPrices (l : List (List Int)) : Bool := decide (1 ≤ l.length ∧ l.length ≤ 6) && (List.range l.length).all (fun i => okRow (rd_L1 l (i : Int)) l.length)
theorem spec_prices (l : List (List Int)) (hb : l.length ≤ 1099511627776) (hi : ∀ j (h : j < l.length), l[j].length ≤ 1048576) : Ev (fun k => spec_GoodPrices.f k l) (goodPrices l) := by
  have hin : ∀ (i : Nat), i < l.length → ∀ (x : List Int), x.length ≤ 1048576 → ∀ r, Ev (fun k => spec_GoodPrices.l0 k (l.length : Int) l (l.length : Int) ((i + 1 : Nat) : Int)) r →
      Ev (fun k => spec_GoodPrices.l1 k (l.length : Int) l (l.length : Int) (i : Int) x (x.length : Int) 0) (if (List.range x.length).all (fun j => decide (0 ≤ rd x (j : Int) ∧ rd x (j : Int) ≤ 100000)) = true then r else false) := by
    intro i hlt x hx r hr
    refine all_loop2 (fun k j => spec_GoodPrices.l1 k (l.length : Int) l (l.length : Int) (i : Int) x (x.length : Int) j) x.length _ r false ?_ ?_ ?_
    · refine Ev.back 1 0 (fun k _ => ?_) hr
      have h1 : ¬ ((x.length : Int) < (x.length : Int)) := by omega
      simp only [spec_GoodPrices.l1, h1, if_false, wrap_succ i (by omega)]
    · intro j hj hp q hq
      refine Ev.back 1 0 (fun k _ => ?_) hq
      have h1 : (j : Int) < (x.length : Int) := by omega
      have h2 : (0 : Int) ≤ (j : Int) := by omega
      rw [decide_eq_true_eq] at hp
      simp only [spec_GoodPrices.l1, h1, h2, if_true, wrap_succ j (by omega)]
      rw [if_neg (by omega), if_neg (by omega)]
    · intro j hj hp
      refine Ev.at 1 0 (fun k _ => ?_)
      have h1 : (j : Int) < (x.length : Int) := by omega
      have h2 : (0 : Int) ≤ (j : Int) := by omega
      rw [decide_eq_false_iff_not] at hp
      simp only [spec_GoodPrices.l1, h1, h2, if_true]
      split
      · rfl
      · rw [if_pos (by omega)]
  have hl := all_loop2 (fun k i => spec_GoodPrices.l0 k (l.length : Int) l (l.length : Int) i) l.length (fun i => okRow (rd_L1 l (i : Int)) l.length) true false
    (Ev.at 1 0 (fun k _ => by simp [spec_GoodPrices.l0]))
    (fun i hlt hp r hr => by
      have h1 : (i : Int) < (l.length : Int) := by omega
      have h2 : (0 : Int) ≤ (i : Int) := by omega
      have h4 : rd_L1 l (i : Int) = l[i] := by simp [rd_L1, hlt]
      have hb' := hi i hlt
      simp only [okRow, Bool.and_eq_true, decide_eq_true_eq] at hp
      have := hin i hlt (rd_L1 l (i : Int)) (by rw [h4]; exact hb') r hr
      rw [if_pos hp.2] at this
      refine Ev.back 1 0 (fun k _ => ?_) this
      simp only [spec_GoodPrices.l0, h1, h2, if_true]
      rw [if_pos (by omega)])
    (fun i hlt hp => by
      have h1 : (i : Int) < (l.length : Int) := by omega
      have h2 : (0 : Int) ≤ (i : Int) := by omega
      have h4 : rd_L1 l (i : Int) = l[i] := by simp [rd_L1, hlt]
      have hb' := hi i hlt
      by_cases hlen : (rd_L1 l (i : Int)).length = l.length
      · simp only [okRow, hlen, decide_true, Bool.true_and] at hp
        have key : ∀ (d j : Nat), j + d = (rd_L1 l (i : Int)).length → (List.range' j d).all (fun j => decide (0 ≤ rd (rd_L1 l (i : Int)) (j : Int) ∧ rd (rd_L1 l (i : Int)) (j : Int) ≤ 100000)) = false →
            Ev (fun k => spec_GoodPrices.l1 k (l.length : Int) l (l.length : Int) (i : Int) (rd_L1 l (i : Int)) ((rd_L1 l (i : Int)).length : Int) (j : Int)) false := by
          intro d
          induction d with
          | zero =>
            intro j _ h
            simp at h
          | succ d ih =>
            intro j hj h
            have h5 : (j : Int) < ((rd_L1 l (i : Int)).length : Int) := by omega
            have h6 : (0 : Int) ≤ (j : Int) := by omega
            rw [List.range'_succ, List.all_cons] at h
            by_cases hc : 0 ≤ rd (rd_L1 l (i : Int)) (j : Int) ∧ rd (rd_L1 l (i : Int)) (j : Int) ≤ 100000
            · rw [decide_eq_true hc, Bool.true_and] at h
              refine Ev.back 1 0 (fun k _ => ?_) (ih (j + 1) (by omega) h)
              rw [h4] at *
              simp only [spec_GoodPrices.l1, h5, h6, if_true, wrap_succ j (by omega)]
              rw [if_neg (by omega), if_neg (by omega)]
            · refine Ev.at 1 0 (fun k _ => ?_)
              simp only [spec_GoodPrices.l1, h5, h6, if_true]
              split
              · rfl
              · rw [if_pos (by omega)]
        rw [← hlen, List.range_eq_range'] at hp
        have := key _ 0 (by omega) hp
        refine Ev.back 1 0 (fun k _ => ?_) this
        simp only [spec_GoodPrices.l0, h1, h2, if_true]
        rw [if_pos (by omega)]
        rfl
      · refine Ev.at 1 0 (fun k _ => ?_)
        simp only [spec_GoodPrices.l0, h1, h2, if_true]
        rw [if_neg (by omega)])
  obtain ⟨K, hK⟩ := hl
  refine ⟨K + 1, fun k hk => ?_⟩
  obtain ⟨m, rfl⟩ : ∃ m, k = m + 1 := ⟨k - 1, by omega⟩
  have hk' := hK m (by omega)
  simp only [spec_GoodPrices.f, spec_GoodPrices.j0, hk', goodPrices]
  generalize (List.range l.length).all (fun (i : Nat) => okRow (rd_L1 l (i : Int)) l.length) = q
  by_cases h1 : 1 ≤ l.length
  · by_cases h6 : l.length ≤ 6
    · have e1 : ¬ ((l.length : Int) < 1) := by omega
      have e2 : ¬ ((l.length : Int) > 6) := by omega
      cases q <;> simp [e1, e2, h1, h6]
    · have e1 : ¬ ((l.length : Int) < 1) := by omega
      have e2 : ((l.length : Int) > 6) := by omega
      cases q <;> simp [e1, e2, h1, h6]
  · have e1 : ((l.length : Int) < 1) := by omega
    simp [e1, h1]
theorem impl_prices (l : List (List Int)) (hb : l.length ≤ 1099511627776) (hi : ∀ j (h : j < l.length), l[j].length ≤ 1048576) : Ev (fun k => impl_GoodPrices.f k l) (goodPrices l) := by
  have key : ∀ (i : Nat), i < l.length → ∀ (x : List Int), x.length ≤ 1048576 → ∀ (d j : Nat), j + d = x.length →
      ((List.range' j d).all (fun j => decide (0 ≤ rd x (j : Int) ∧ rd x (j : Int) ≤ 100000)) = false → Ev (fun k => impl_GoodPrices.l1 k (l.length : Int) l (l.length : Int) (i : Int) x (x.length : Int) (j : Int)) false) ∧
      ((List.range' j d).all (fun j => decide (0 ≤ rd x (j : Int) ∧ rd x (j : Int) ≤ 100000)) = true → ∀ r, Ev (fun k => impl_GoodPrices.l0 k (l.length : Int) l (l.length : Int) ((i + 1 : Nat) : Int)) r → Ev (fun k => impl_GoodPrices.l1 k (l.length : Int) l (l.length : Int) (i : Int) x (x.length : Int) (j : Int)) r) := by
    intro i hlt x hx d
    induction d with
    | zero =>
      intro j hj
      obtain rfl : j = x.length := by omega
      refine ⟨fun h => by simp at h, fun _ r hr => Ev.back 1 0 (fun k _ => ?_) hr⟩
      have h1 : ¬ ((x.length : Int) < (x.length : Int)) := by omega
      simp only [impl_GoodPrices.l1, h1, if_false, wrap_succ i (by omega)]
    | succ d ih =>
      intro j hj
      have h1 : (j : Int) < (x.length : Int) := by omega
      have h2 : (0 : Int) ≤ (j : Int) := by omega
      rw [List.range'_succ, List.all_cons]
      by_cases hc : 0 ≤ rd x (j : Int) ∧ rd x (j : Int) ≤ 100000
      · have e : ∀ k, impl_GoodPrices.l1 (k + 1) (l.length : Int) l (l.length : Int) (i : Int) x (x.length : Int) (j : Int) = impl_GoodPrices.l1 k (l.length : Int) l (l.length : Int) (i : Int) x (x.length : Int) ((j + 1 : Nat) : Int) := by
          intro k
          simp only [impl_GoodPrices.l1, h1, h2, if_true, between_eq, Option.bind_some, hc, and_self, decide_true, wrap_succ j (by omega)]
        rw [decide_eq_true hc, Bool.true_and]
        exact ⟨fun h => Ev.back 1 0 (fun k _ => e k) ((ih (j + 1) (by omega)).1 h), fun h r hr => Ev.back 1 0 (fun k _ => e k) ((ih (j + 1) (by omega)).2 h r hr)⟩
      · rw [decide_eq_false hc, Bool.false_and]
        refine ⟨fun _ => Ev.at 1 0 (fun k _ => ?_), fun h => by cases h⟩
        simp only [impl_GoodPrices.l1, h1, h2, if_true, between_eq, Option.bind_some, decide_eq_false hc, Bool.false_eq_true, if_false]
  have hl := all_loop2 (fun k i => impl_GoodPrices.l0 k (l.length : Int) l (l.length : Int) i) l.length (fun i => okRow (rd_L1 l (i : Int)) l.length) (decide (1 ≤ l.length ∧ l.length ≤ 6)) false
    (Ev.at 1 0 (fun k _ => by
      have h1 : ¬ ((l.length : Int) < (l.length : Int)) := by omega
      simp only [impl_GoodPrices.l0, h1, if_false, between_eq, Option.bind_some, Option.some.injEq]
      apply decide_eq_decide.2
      omega))
    (fun i hlt hp r hr => by
      have h1 : (i : Int) < (l.length : Int) := by omega
      have h2 : (0 : Int) ≤ (i : Int) := by omega
      have h4 : rd_L1 l (i : Int) = l[i] := by simp [rd_L1, hlt]
      have hb' := hi i hlt
      simp only [okRow, Bool.and_eq_true, decide_eq_true_eq] at hp
      have := (key i hlt (rd_L1 l (i : Int)) (by rw [h4]; exact hb') _ 0 (Nat.zero_add _)).2 (by rw [← List.range_eq_range']; exact hp.2) r hr
      refine Ev.back 1 0 (fun k _ => ?_) this
      simp only [impl_GoodPrices.l0, h1, h2, if_true]
      rw [if_pos (by omega)]
      rfl)
    (fun i hlt hp => by
      have h1 : (i : Int) < (l.length : Int) := by omega
      have h2 : (0 : Int) ≤ (i : Int) := by omega
      have h4 : rd_L1 l (i : Int) = l[i] := by simp [rd_L1, hlt]
      have hb' := hi i hlt
      by_cases hlen : (rd_L1 l (i : Int)).length = l.length
      · have hp2 : (List.range (rd_L1 l (i : Int)).length).all (fun j => decide (0 ≤ rd (rd_L1 l (i : Int)) (j : Int) ∧ rd (rd_L1 l (i : Int)) (j : Int) ≤ 100000)) = false := by
          simp only [okRow, decide_eq_true hlen, Bool.true_and] at hp
          exact hp
        have := (key i hlt (rd_L1 l (i : Int)) (by rw [h4]; exact hb') _ 0 (Nat.zero_add _)).1 (by rw [← List.range_eq_range']; exact hp2)
        refine Ev.back 1 0 (fun k _ => ?_) this
        simp only [impl_GoodPrices.l0, h1, h2, if_true]
        rw [if_pos (by omega)]
        rfl
      · refine Ev.at 1 0 (fun k _ => ?_)
        simp only [impl_GoodPrices.l0, h1, h2, if_true]
        rw [if_neg (by omega)])
  have e : (if (List.range l.length).all (fun (i : Nat) => okRow (rd_L1 l (i : Int)) l.length) = true then decide (1 ≤ l.length ∧ l.length ≤ 6) else false) = goodPrices l := by
    unfold goodPrices
    cases (List.range l.length).all (fun (i : Nat) => okRow (rd_L1 l (i : Int)) l.length) <;> simp
  rw [e] at hl
  exact hl
theorem prices_row (p : List (List Int)) (h : goodPrices p = true) (i : Nat) (hi : i < p.length) : (rd_L1 p (i : Int)).length = p.length ∧ ∀ j : Nat, j < p.length → 0 ≤ rd (rd_L1 p (i : Int)) (j : Int) ∧ rd (rd_L1 p (i : Int)) (j : Int) ≤ 100000 := by
  simp only [goodPrices, Bool.and_eq_true, range_all] at h
  have := h.2 i hi
  simp only [okRow, Bool.and_eq_true, decide_eq_true_eq, range_all] at this
  exact ⟨this.1, fun j hj => this.2 j (by omega)⟩
theorem prices_len (p : List (List Int)) (h : goodPrices p = true) : 1 ≤ p.length ∧ p.length ≤ 6 := by
  simp only [goodPrices, Bool.and_eq_true, decide_eq_true_eq] at h
  exact h.1
def mrow (m : Int) (n : Nat) : List Int := (List.range n).map fun (j : Nat) => id (m + ((1 : Nat) : Int) * (j : Int))
def mrows : Int → List (List Int) → List (List Int)
  | _, [] => []
  | m, x :: L => mrow m x.length :: mrows (m + ((1 : Nat) : Int) * (x.length : Int)) L
def msum : List (List Int) → Nat
  | [] => 0
  | x :: L => x.length + msum L
theorem rd_mid (pre L : List (List Int)) (x : List Int) : rd_L1 (pre ++ x :: L) (pre.length : Int) = x := by
  simp [rd_L1]
theorem set_mid (pre L : List (List Int)) (x y : List Int) : (pre ++ x :: L).set ((pre.length : Int)).toNat y = pre ++ y :: L := by
  simp
theorem markSS_loop : ∀ (L pre : List (List Int)) (m : Int), (∀ x ∈ L, x.length ≤ 1048576) → pre.length + L.length ≤ 10000000 → 0 ≤ m → m + msum L ≤ 100000000000000 →
    Ev (fun k => laws_markIntSS.l0 k (pre ++ L) m (pre.length : Int)) (m + (msum L : Int), pre ++ mrows m L) := by
  intro L
  induction L with
  | nil =>
    intro pre m _ _ _ _
    refine Ev.next ⟨0, fun k _ => ?_⟩
    have c0 : ¬ ((pre.length : Int) < ((pre ++ ([] : List (List Int))).length : Int)) := by simp
    simp only [laws_markIntSS.l0, c0, if_false]
    simp [mrows, msum]
  | cons x L ih =>
    intro pre m hx hl h0 hm
    have hxl := hx x List.mem_cons_self
    simp only [List.length_cons, msum] at hl hm
    have h := ih (pre ++ [mrow m x.length]) (m + ((1 : Nat) : Int) * (x.length : Int)) (fun y hy => hx y (List.mem_cons_of_mem _ hy)) (by simp only [List.length_append, List.length_singleton]; omega) (by omega) (by omega)
    have e : wrap64 ((pre.length : Int) + 1) = (((pre ++ [mrow m x.length]).length : Nat) : Int) := by rw [List.length_append, List.length_singleton]; exact wrap_succ _ (by omega)
    have c1 : (pre.length : Int) < ((pre ++ x :: L).length : Int) := by rw [List.length_append, List.length_cons]; omega
    have c2 : (0 : Int) ≤ (pre.length : Int) := by omega
    have er : m + ((1 : Nat) : Int) * (x.length : Int) + (msum L : Int) = m + (msum (x :: L) : Int) := by simp only [msum]; omega
    rw [List.append_assoc, List.singleton_append, er, List.append_assoc, List.singleton_append] at h
    refine Ev.next ?_
    simp only [laws_markIntSS.l0, c1, c2, if_true, rd_mid]
    refine Ev.bind (markIntS_at x (by omega) m h0 (by omega)) ?_
    rw [set_mid, e]
    exact h
theorem markSS_ev (L : List (List Int)) (hx : ∀ x ∈ L, x.length ≤ 1048576) (hl : L.length ≤ 10000000) (hm : msum L ≤ 10000000000000) : Ev (fun k => laws_markIntSS.f k L 1) (1 + (msum L : Int), mrows 1 L) :=
  markSS_loop L [] 1 hx (by simpa using hl) (by omega) (by omega)
/-! ### The cheapest assignment, the first of them: a walk over all, told by what is least (of no program) -/
/-- What is left at least, and the first way to it: d robots to come, the tasks S are had; the costs 'c i t'. -/
def lgStep (c : Nat → Nat → Int) (F : List Nat → Int × List Nat) (i : Nat) (S : List Nat) (b : Int × List Nat) (t : Nat) : Int × List Nat :=
  if t ∈ S then b else if b.1 < 0 ∨ c i t + (F (S ++ [t])).1 < b.1 then (c i t + (F (S ++ [t])).1, t :: (F (S ++ [t])).2) else b
def lg (c : Nat → Nat → Int) (n : Nat) : Nat → List Nat → Int × List Nat
  | 0, _ => (0, [])
  | d + 1, S => (List.range n).foldl (lgStep c (lg c n d) S.length S) (-1, [])
def costW (c : Nat → Nat → Int) : Nat → List Nat → Int
  | _, [] => 0
  | i, t :: r => c i t + costW c (i + 1) r
theorem costW_app (c : Nat → Nat → Int) : ∀ (l : List Nat) (i t : Nat), costW c i (l ++ [t]) = costW c i l + c (i + l.length) t
  | [], i, t => by simp [costW]
  | x :: r, i, t => by
    simp only [List.cons_append, costW, costW_app c r, List.length_cons]
    rw [show i + 1 + r.length = i + (r.length + 1) by omega]
    omega
/-- The walk over all: who is chosen so far, the best so far and its cost (below 0: none yet). -/
def tryAll (c : Nat → Nat → Int) (n : Nat) : Nat → List Nat → List Nat × Int → List Nat × Int
  | 0, who, s => if s.2 < 0 ∨ costW c 0 who < s.2 then (who, costW c 0 who) else s
  | d + 1, who, s => (List.range n).foldl (fun s t => if t ∈ who then s else tryAll c n d (who ++ [t]) s) s
def better (who : List Nat) (k : Int) (g : Int × List Nat) (s : List Nat × Int) : List Nat × Int :=
  if s.2 < 0 ∨ k + g.1 < s.2 then (who ++ g.2, k + g.1) else s
theorem lg_nonneg_step (c : Nat → Nat → Int) (F : List Nat → Int × List Nat) (i : Nat) (S : List Nat) (hc : ∀ i t, 0 ≤ c i t) (hF : ∀ t, t ∉ S → 0 ≤ (F (S ++ [t])).1) :
    ∀ (ts : List Nat) (b : Int × List Nat), (0 ≤ b.1 ∨ (∃ t ∈ ts, t ∉ S)) → 0 ≤ (ts.foldl (lgStep c F i S) b).1
  | [], b, h => by
    rcases h with h | ⟨t, ht, _⟩
    · exact h
    · cases ht
  | t :: r, b, h => by
    rw [List.foldl_cons]
    refine lg_nonneg_step c F i S hc hF r _ ?_
    by_cases hs : t ∈ S
    · rw [show lgStep c F i S b t = b by simp [lgStep, hs]]
      rcases h with h | ⟨u, hu, hn⟩
      · exact Or.inl h
      · rcases List.mem_cons.1 hu with rfl | hu
        · exact absurd hs hn
        · exact Or.inr ⟨u, hu, hn⟩
    · refine Or.inl ?_
      have h1 := hc i t
      have h2 := hF t hs
      unfold lgStep
      rw [if_neg hs]
      split
      · show 0 ≤ c i t + (F (S ++ [t])).1; omega
      · rename_i hb; simp only [not_or] at hb; omega
theorem try_step (c : Nat → Nat → Int) (n d : Nat) (who : List Nat) (hc : ∀ i t, 0 ≤ c i t) (hF : ∀ t, t ∉ who → 0 ≤ (lg c n d (who ++ [t])).1)
    (ih : ∀ t, t ∉ who → ∀ s, tryAll c n d (who ++ [t]) s = better (who ++ [t]) (costW c 0 (who ++ [t])) (lg c n d (who ++ [t])) s) (hk : 0 ≤ costW c 0 who) :
    ∀ (ts : List Nat) (b : Int × List Nat) (s0 : List Nat × Int),
      ts.foldl (fun s t => if t ∈ who then s else tryAll c n d (who ++ [t]) s) (if b.1 < 0 then s0 else better who (costW c 0 who) b s0)
        = (if (ts.foldl (lgStep c (lg c n d) who.length who) b).1 < 0 then s0 else better who (costW c 0 who) (ts.foldl (lgStep c (lg c n d) who.length who) b) s0)
  | [], b, s0 => rfl
  | t :: r, b, s0 => by
    rw [List.foldl_cons, List.foldl_cons]
    rw [← try_step c n d who hc hF ih hk r (lgStep c (lg c n d) who.length who b t) s0]
    congr 1
    by_cases hs : t ∈ who
    · rw [if_pos hs, show lgStep c (lg c n d) who.length who b t = b by simp [lgStep, hs]]
    · have h2 := hF t hs
      have h1 := hc who.length t
      rw [if_neg hs, ih t hs, costW_app, Nat.zero_add]
      unfold lgStep
      rw [if_neg hs]
      generalize lg c n d (who ++ [t]) = g at h2 ⊢
      generalize costW c 0 who = k at hk ⊢
      generalize c who.length t = x at h1 ⊢
      obtain ⟨g1, g2⟩ := g
      obtain ⟨b1, b2⟩ := b
      obtain ⟨B, l⟩ := s0
      simp only at h2 ⊢
      by_cases hb : b1 < 0
      · rw [if_pos hb, if_pos (Or.inl hb), if_neg (by simp only; omega)]
        unfold better
        simp only [List.append_assoc, List.singleton_append, Int.add_assoc]
      · rw [if_neg hb]
        by_cases hx : x + g1 < b1
        · rw [if_pos (Or.inr hx), if_neg (by simp only; omega)]
          unfold better
          simp only
          by_cases q : l < 0 ∨ k + b1 < l
          · rw [if_pos q, if_pos (by simp only; omega), if_pos (by omega)]
            simp [Int.add_assoc]
          · rw [if_neg q]
            by_cases q2 : l < 0 ∨ k + x + g1 < l
            · rw [if_pos q2, if_pos (by omega)]
              simp [Int.add_assoc]
            · rw [if_neg q2, if_neg (by omega)]
        · have hq : ¬ (b1 < 0 ∨ x + g1 < b1) := by omega
          rw [if_neg hq, if_neg hb]
          unfold better
          simp only
          by_cases q : l < 0 ∨ k + b1 < l
          · rw [if_pos q, if_neg (by simp only; omega)]
          · rw [if_neg q, if_neg (by omega)]
theorem nodup_len : ∀ (l S : List Nat), l.Nodup → (∀ x ∈ l, x ∈ S) → l.length ≤ S.length
  | [], S, _, _ => Nat.zero_le _
  | x :: r, S, hn, hs => by
    obtain ⟨h1, h2⟩ := List.nodup_cons.1 hn
    have hx := hs x List.mem_cons_self
    have := nodup_len r (S.erase x) h2 (fun y hy => (List.mem_erase_of_ne (fun e => h1 (by rw [← e]; exact hy))).2 (hs y (List.mem_cons_of_mem _ hy)))
    rw [List.length_erase_of_mem hx] at this
    have hp : 0 < S.length := List.length_pos_of_mem hx
    simp only [List.length_cons]
    omega
theorem free_one (n : Nat) (S : List Nat) (h : S.length < n) : ∃ t ∈ List.range n, t ∉ S := by
  by_cases q : ∃ t ∈ List.range n, t ∉ S
  · exact q
  · exfalso
    have := nodup_len (List.range n) S List.nodup_range (fun x hx => by
      by_cases e : x ∈ S
      · exact e
      · exact absurd ⟨x, hx, e⟩ q)
    rw [List.length_range] at this
    omega
theorem lg_nonneg (c : Nat → Nat → Int) (n : Nat) (hc : ∀ i t, 0 ≤ c i t) : ∀ (d : Nat) (S : List Nat), S.length + d = n → 0 ≤ (lg c n d S).1
  | 0, S, _ => by simp [lg]
  | d + 1, S, h => by
    unfold lg
    exact lg_nonneg_step c (lg c n d) S.length S hc (fun t _ => lg_nonneg c n hc d (S ++ [t]) (by simp; omega)) _ _ (Or.inr (free_one n S (by omega)))
theorem cost_nonneg (c : Nat → Nat → Int) (hc : ∀ i t, 0 ≤ c i t) : ∀ (l : List Nat) (i : Nat), 0 ≤ costW c i l
  | [], _ => by simp [costW]
  | t :: r, i => by
    have h1 := hc i t
    have h2 := cost_nonneg c hc r (i + 1)
    simp only [costW]
    omega
/-- The walk over all chooses what is least, and the first of it. -/
theorem try_all (c : Nat → Nat → Int) (n : Nat) (hc : ∀ i t, 0 ≤ c i t) : ∀ (d : Nat) (who : List Nat), who.length + d = n → ∀ s, tryAll c n d who s = better who (costW c 0 who) (lg c n d who) s
  | 0, who, _, s => by
    unfold tryAll better lg
    simp
  | d + 1, who, h, s => by
    have hg := lg_nonneg c n hc (d + 1) who h
    have hst := try_step c n d who hc (fun t _ => lg_nonneg c n hc d (who ++ [t]) (by simp; omega)) (fun t _ s => try_all c n hc d (who ++ [t]) (by simp; omega) s) (cost_nonneg c hc who 0) (List.range n) (-1, []) s
    rw [if_pos (by decide)] at hst
    unfold tryAll
    rw [hst]
    unfold lg at hg ⊢
    rw [if_neg (by omega)]
/-- Of nothing so far: the least cost, and the first way to it. -/
theorem best_all (c : Nat → Nat → Int) (n : Nat) (hc : ∀ i t, 0 ≤ c i t) : tryAll c n n [] ([], -1) = ((lg c n n []).2, (lg c n n []).1) := by
  rw [try_all c n hc n [] (by simp)]
  simp [better, costW]
/-- What 'lg' chooses is the first task that leads to what is least. -/
theorem lg_fold (c : Nat → Nat → Int) (F : List Nat → Int × List Nat) (i : Nat) (S : List Nat) (hc : ∀ i t, 0 ≤ c i t) (hF : ∀ t, t ∉ S → 0 ≤ (F (S ++ [t])).1) : ∀ m : Nat,
    (((List.range m).foldl (lgStep c F i S) (-1, [])).1 < 0 ∧ ∀ u, u < m → u ∈ S) ∨
    ∃ t, t < m ∧ t ∉ S ∧ (List.range m).foldl (lgStep c F i S) (-1, []) = (c i t + (F (S ++ [t])).1, t :: (F (S ++ [t])).2) ∧
      ∀ u, u < m → u ∉ S → c i t + (F (S ++ [t])).1 ≤ c i u + (F (S ++ [u])).1 ∧ (u < t → c i u + (F (S ++ [u])).1 ≠ c i t + (F (S ++ [t])).1)
  | 0 => Or.inl ⟨by simp, fun u hu => absurd hu (Nat.not_lt_zero _)⟩
  | m + 1 => by
    rw [List.range_succ, List.foldl_append, List.foldl_cons, List.foldl_nil]
    have ih := lg_fold c F i S hc hF m
    generalize (List.range m).foldl (lgStep c F i S) (-1, []) = b at ih ⊢
    by_cases hs : m ∈ S
    · rw [show lgStep c F i S b m = b by simp [lgStep, hs]]
      rcases ih with ⟨h1, h2⟩ | ⟨t, ht, hn, hb, hu⟩
      · exact Or.inl ⟨h1, fun u hu => by
          by_cases e : u = m
          · rw [e]; exact hs
          · exact h2 u (by omega)⟩
      · refine Or.inr ⟨t, by omega, hn, hb, fun u hum hus => hu u ?_ hus⟩
        have : u ≠ m := fun e => hus (by rw [e]; exact hs)
        omega
    · have h2 := hF m hs
      have h1 := hc i m
      rcases ih with ⟨hb, hall⟩ | ⟨t, ht, hn, hb, hu⟩
      · refine Or.inr ⟨m, by omega, hs, ?_, fun u hum hus => ?_⟩
        · unfold lgStep
          rw [if_neg hs, if_pos (Or.inl hb)]
        · have : u = m := by
            by_cases e : u = m
            · exact e
            · exact absurd (hall u (by omega)) hus
          subst this
          exact ⟨Int.le_refl _, fun h => absurd h (Nat.lt_irrefl _)⟩
      · have h3 := hF t hn
        have h4 := hc i t
        by_cases hx : c i m + (F (S ++ [m])).1 < c i t + (F (S ++ [t])).1
        · refine Or.inr ⟨m, by omega, hs, ?_, fun u hum hus => ?_⟩
          · unfold lgStep
            rw [if_neg hs, hb, if_pos (Or.inr hx)]
          · by_cases e : u = m
            · subst e; exact ⟨Int.le_refl _, fun h => absurd h (Nat.lt_irrefl _)⟩
            · have := (hu u (by omega) hus).1
              exact ⟨by omega, fun _ => by omega⟩
        · refine Or.inr ⟨t, by omega, hn, ?_, fun u hum hus => ?_⟩
          · unfold lgStep
            rw [if_neg hs, hb, if_neg (by simp only; omega)]
          · by_cases e : u = m
            · subst e; exact ⟨by omega, fun h => by omega⟩
            · exact hu u (by omega) hus
theorem lg_first (c : Nat → Nat → Int) (n : Nat) (hc : ∀ i t, 0 ≤ c i t) (d : Nat) (S : List Nat) (h : S.length + (d + 1) = n) :
    ∃ t, t < n ∧ t ∉ S ∧ lg c n (d + 1) S = (c S.length t + (lg c n d (S ++ [t])).1, t :: (lg c n d (S ++ [t])).2) ∧
      ∀ u, u < n → u ∉ S → u < t → c S.length u + (lg c n d (S ++ [u])).1 ≠ (lg c n (d + 1) S).1 := by
  have hf := lg_fold c (lg c n d) S.length S hc (fun t _ => lg_nonneg c n hc d (S ++ [t]) (by simp; omega)) n
  have he : lg c n (d + 1) S = (List.range n).foldl (lgStep c (lg c n d) S.length S) (-1, []) := rfl
  rcases hf with ⟨h1, h2⟩ | ⟨t, ht, hn, hb, hu⟩
  · obtain ⟨t, ht, hn⟩ := free_one n S (by omega)
    exact absurd (h2 t (List.mem_range.1 ht)) hn
  · refine ⟨t, ht, hn, he.trans hb, fun u hun hus hut => ?_⟩
    rw [he, hb]
    exact (hu u hun hus).2 hut
/-- 'lg' looks at which tasks are had, and at how many, alone. -/
theorem lg_same (c : Nat → Nat → Int) (n : Nat) : ∀ (d : Nat) (S S' : List Nat), S.length = S'.length → (∀ t, t < n → (t ∈ S ↔ t ∈ S')) → lg c n d S = lg c n d S'
  | 0, _, _, _, _ => rfl
  | d + 1, S, S', hl, hm => by
    unfold lg
    have key : ∀ (ts : List Nat), (∀ t ∈ ts, t < n) → ∀ b, ts.foldl (lgStep c (lg c n d) S.length S) b = ts.foldl (lgStep c (lg c n d) S'.length S') b := by
      intro ts
      induction ts with
      | nil => intro _ b; rfl
      | cons t r ih =>
        intro ht b
        rw [List.foldl_cons, List.foldl_cons, ih (fun x hx => ht x (List.mem_cons_of_mem _ hx))]
        congr 1
        have htn := ht t List.mem_cons_self
        have e := lg_same c n d (S ++ [t]) (S' ++ [t]) (by simp [hl]) (fun u hu => by simp [hm u hu])
        unfold lgStep
        rw [e, hl]
        by_cases q : t ∈ S
        · rw [if_pos q, if_pos ((hm t htn).1 q)]
        · rw [if_neg q, if_neg (fun q' => q ((hm t htn).2 q'))]
    exact key _ (fun t ht => List.mem_range.1 ht) _
/-! ### Masks of tasks -/
theorem mask_shr (M t : Nat) (ht : t < 40) : shr .i64 (M : Int) (t : Int) = ((M / 2 ^ t : Nat) : Int) := by
  unfold shr
  have : min ((t : Int)).toNat IntKind.i64.bits = t := by simp [IntKind.bits]; omega
  rw [this]
  exact (Int.natCast_ediv M (2 ^ t)).symm ▸ by simp
theorem mask_shl (t : Nat) (ht : t < 40) : shl .i64 1 (t : Int) = ((2 ^ t : Nat) : Int) := by
  unfold shl
  have : min ((t : Int)).toNat IntKind.i64.bits = t := by simp [IntKind.bits]; omega
  rw [this, Int.one_mul]
  have h : 2 ^ t < 2 ^ 40 := Nat.pow_lt_pow_right (by decide) ht
  rw [IntKind.wrap_i64]
  have e : ((2 : Int) ^ t) = ((2 ^ t : Nat) : Int) := by simp
  rw [e]
  generalize 2 ^ t = p at h ⊢
  omega
theorem i64_small (n : Int) (h0 : 0 ≤ n) (h1 : n < 2 ^ 62) : IntKind.i64.wrap n = n := by rw [IntKind.wrap_i64]; omega
theorem mask_test (M t : Nat) (hM : M < 2 ^ 40) (ht : t < 40) : Go.bits .and .i64 (shr .i64 (M : Int) (t : Int)) 1 = ((M / 2 ^ t % 2 : Nat) : Int) := by
  rw [mask_shr M t ht]
  have h := (bits_nat .i64 62 (by decide) i64_small (M / 2 ^ t) 1 (Nat.lt_of_le_of_lt (Nat.div_le_self _ _) (by omega)) (by decide)).1
  rw [Nat.and_one_is_mod] at h
  exact h
theorem mask_put (M t : Nat) (hM : M < 2 ^ 40) (ht : t < 40) : Go.bits .or .i64 (M : Int) (shl .i64 1 (t : Int)) = ((M ||| 2 ^ t : Nat) : Int) := by
  rw [mask_shl t ht]
  exact (bits_nat .i64 62 (by decide) i64_small M (2 ^ t) (by omega) (Nat.pow_lt_pow_right (by decide) (by omega))).2
theorem mask_lt (M t : Nat) (hM : M < 2 ^ 40) (ht : t < 40) : M ||| 2 ^ t < 2 ^ 40 := Nat.or_lt_two_pow hM (Nat.pow_lt_pow_right (by decide) ht)
theorem mask_mem (M t u : Nat) : (M ||| 2 ^ t) / 2 ^ u % 2 = 1 ↔ (M / 2 ^ u % 2 = 1 ∨ u = t) := by
  have h1 := Nat.testBit_eq_decide_div_mod_eq (x := M ||| 2 ^ t) (i := u)
  have h2 := Nat.testBit_eq_decide_div_mod_eq (x := M) (i := u)
  rw [Nat.testBit_or, h2, Nat.testBit_two_pow] at h1
  constructor
  · intro h
    rw [decide_eq_true h, Bool.or_eq_true, decide_eq_true_eq, decide_eq_true_eq] at h1
    rcases h1 with h1 | h1
    · exact Or.inl h1
    · exact Or.inr h1.symm
  · intro h
    have : (decide (M / 2 ^ u % 2 = 1) || decide (t = u)) = true := by
      rw [Bool.or_eq_true, decide_eq_true_eq, decide_eq_true_eq]
      rcases h with h | h
      · exact Or.inl h
      · exact Or.inr h.symm
    rw [this] at h1
    exact of_decide_eq_true h1.symm
/-- The mask M has just the tasks S. -/
def MaskOf (n M : Nat) (S : List Nat) : Prop := M < 2 ^ 40 ∧ ∀ t, t < n → (M / 2 ^ t % 2 = 1 ↔ t ∈ S)
theorem mask_none (n : Nat) : MaskOf n 0 [] := ⟨by decide, fun t _ => by simp⟩
theorem mask_add {n M : Nat} {S : List Nat} (h : MaskOf n M S) (t : Nat) (ht : t < 40) : MaskOf n (M ||| 2 ^ t) (S ++ [t]) :=
  ⟨mask_lt M t h.1 ht, fun u hu => by rw [mask_mem, h.2 u hu]; simp⟩
def cst (P : List (List Int)) (i t : Nat) : Int := rd (rd_L1 P (i : Int)) (t : Int)
theorem u64_nat (t : Nat) (h : t < 1000) : IntKind.u64.wrap (t : Int) = (t : Int) := by rw [IntKind.wrap_u64]; omega
theorem lg_le (c : Nat → Nat → Int) (n : Nat) (hc : ∀ i t, 0 ≤ c i t) (hc' : ∀ i t, c i t ≤ 1000000) : ∀ (d : Nat) (S : List Nat), S.length + d = n → (lg c n d S).1 ≤ 1000000 * (d : Int)
  | 0, S, _ => by simp [lg]
  | d + 1, S, h => by
    obtain ⟨t, _, _, e, _⟩ := lg_first c n hc d S h
    rw [e]
    have h1 := lg_le c n hc hc' d (S ++ [t]) (by simp; omega)
    have h2 := hc' S.length t
    show c S.length t + (lg c n d (S ++ [t])).1 ≤ _
    omega
theorem least_ev (P : List (List Int)) (hn : P.length ≤ 30) (hrow : ∀ i, i < P.length → (rd_L1 P (i : Int)).length = P.length) (hc : ∀ i t, 0 ≤ cst P i t) (hc' : ∀ i t, cst P i t ≤ 1000000) :
    ∀ (d : Nat) (S : List Nat) (M : Nat), S.length + d = P.length → MaskOf P.length M S → Ev (fun k => spec_l27Least.f k P (S.length : Int) (M : Int)) (lg (cst P) P.length d S).1
  | 0, S, M, h, _ => Ev.at 1 0 (fun k _ => by
      have e : ((S.length : Nat) : Int) = (P.length : Int) := by omega
      simp only [spec_l27Least.f, e, if_true]
      rfl)
  | d + 1, S, M, h, hM => by
    have hlt : S.length < P.length := by omega
    have hF : ∀ t, t ∉ S → 0 ≤ (lg (cst P) P.length d (S ++ [t])).1 := fun t _ => lg_nonneg (cst P) P.length hc d (S ++ [t]) (by simp; omega)
    have e0 : ¬ ((S.length : Nat) : Int) = (P.length : Int) := by omega
    have hl := run_loop2 (fun k t (b : Int) => spec_l27Least.l0 k P (S.length : Int) (M : Int) (P.length : Int) b t) P.length
      (fun t => ((List.range t).foldl (lgStep (cst P) (lg (cst P) P.length d) S.length S) (-1, [])).1) (lg (cst P) P.length (d + 1) S).1
      (Ev.at 1 0 (fun k _ => by
        have c1 : ¬ ((P.length : Int) < (P.length : Int)) := by omega
        simp only [spec_l27Least.l0, c1, if_false]
        rfl))
      (fun t ht r hr => by
        have c1 : (t : Int) < (P.length : Int) := by omega
        have c2 : (0 : Int) ≤ (t : Int) := by omega
        have c3 : (0 : Int) ≤ (S.length : Int) := by omega
        have c4 : ((S.length : Nat) : Int) < (P.length : Int) := by omega
        have c5 : (t : Int) < ((rd_L1 P (S.length : Int)).length : Int) := by rw [hrow _ hlt]; omega
        have hw := wrap_succ t (by omega)
        have hu := u64_nat t (by omega)
        have hbit := hM.2 t ht
        have hmt := mask_test M t hM.1 (by omega)
        rw [List.range_succ, List.foldl_append, List.foldl_cons, List.foldl_nil] at hr
        generalize (List.range t).foldl (lgStep (cst P) (lg (cst P) P.length d) S.length S) (-1, []) = b at hr ⊢
        by_cases hs : t ∈ S
        · have h1 : M / 2 ^ t % 2 = 1 := hbit.2 hs
          rw [show lgStep (cst P) (lg (cst P) P.length d) S.length S b t = b by simp [lgStep, hs]] at hr
          refine Ev.step (fun k => ?_) hr
          simp only [spec_l27Least.l0, c1, hu, c2, hmt, h1, if_true, hw]
          rfl
        · have h1 : M / 2 ^ t % 2 = 0 := by
            have : ¬ M / 2 ^ t % 2 = 1 := fun h => hs (hbit.1 h)
            omega
          obtain ⟨K, hK⟩ := least_ev P hn hrow hc hc' d (S ++ [t]) (M ||| 2 ^ t) (by simp; omega) (mask_add hM t (by omega))
          have hmp := mask_put M t hM.1 (by omega)
          have hsl : wrap64 ((S.length : Int) + 1) = (((S ++ [t]).length : Nat) : Int) := by rw [wrap_succ S.length (by omega)]; simp
          have hv : wrap64 (rd (rd_L1 P (S.length : Int)) (t : Int) + (lg (cst P) P.length d (S ++ [t])).1) = cst P S.length t + (lg (cst P) P.length d (S ++ [t])).1 := by
            have q1 := hc S.length t
            have q2 := hc' S.length t
            have q3 := hF t hs
            have q4 := lg_le (cst P) P.length hc hc' d (S ++ [t]) (by simp; omega)
            exact wrap_in (by unfold cst at q1; omega) (by unfold cst at q2; omega)
          simp only at hK
          refine Ev.back 1 K (fun k hk => ?_) hr
          have a1 := hK k hk
          have z0 : ¬ ((0 : Nat) : Int) = 1 := by decide
          unfold lgStep
          rw [if_neg hs]
          simp only [spec_l27Least.l0, c1, hu, c2, c3, c4, c5, hmt, h1, z0, if_true, if_false, hmp, hsl, a1, hv, hw, Option.bind_some]
          by_cases hb : b.1 < 0
          · rw [if_pos hb, if_pos (Or.inl hb)]
          · rw [if_neg hb]
            by_cases hx : cst P S.length t + (lg (cst P) P.length d (S ++ [t])).1 < b.1
            · rw [if_pos hx, if_pos (Or.inr hx)]
            · rw [if_neg hx, if_neg (by omega)]) 0 (Nat.zero_le _)
    refine Ev.step (fun k => ?_) hl
    simp only [spec_l27Least.f, e0, if_false]
    rfl
theorem spec_best (P : List (List Int)) (hn : P.length ≤ 30) (hrow : ∀ i, i < P.length → (rd_L1 P (i : Int)).length = P.length) (hc : ∀ i t, 0 ≤ cst P i t) (hc' : ∀ i t, cst P i t ≤ 1000000) (r : List Int × Int × Bool) :
    ∀ (d : Nat) (S : List Nat) (M : Nat), S.length + d = P.length → MaskOf P.length M S →
      (∀ M' : Int, Ev (fun k => spec_BestAssign.l0 k P ((S ++ (lg (cst P) P.length d S).2).map (fun (t : Nat) => (t : Int))) M' (P.length : Int) (P.length : Int)) r) →
      Ev (fun k => spec_BestAssign.l0 k P (S.map (fun (t : Nat) => (t : Int))) (M : Int) (P.length : Int) (S.length : Int)) r
  | 0, S, M, h, hM, hr => by
    have e : ((S.length : Nat) : Int) = (P.length : Int) := by omega
    rw [e]
    have := hr (M : Int)
    simpa [lg] using this
  | d + 1, S, M, h, hM, hr => by
    have hlt : S.length < P.length := by omega
    have hF : ∀ t, t ∉ S → 0 ≤ (lg (cst P) P.length d (S ++ [t])).1 := fun t _ => lg_nonneg (cst P) P.length hc d (S ++ [t]) (by simp; omega)
    obtain ⟨t, ht, htS, he, hfirst⟩ := lg_first (cst P) P.length hc d S h
    have hnext := spec_best P hn hrow hc hc' r d (S ++ [t]) (M ||| 2 ^ t) (by simp; omega) (mask_add hM t (by omega)) (fun M' => by
      have := hr M'
      rw [he] at this
      simpa using this)
    obtain ⟨K0, hK0⟩ := least_ev P hn hrow hc hc' (d + 1) S M h hM
    have c3 : (0 : Int) ≤ (S.length : Int) := by omega
    have c4 : ((S.length : Nat) : Int) < (P.length : Int) := by omega
    have hsl : wrap64 ((S.length : Int) + 1) = (((S.length + 1 : Nat)) : Int) := wrap_succ S.length (by omega)
    have step : ∀ u, u < P.length → u ∉ S → ∃ K, ∀ k, K ≤ k → spec_l27Least.f k P (((S.length + 1 : Nat)) : Int) ((M ||| 2 ^ u : Nat) : Int) = some (lg (cst P) P.length d (S ++ [u])).1 ∧
        wrap64 (rd (rd_L1 P (S.length : Int)) (u : Int) + (lg (cst P) P.length d (S ++ [u])).1) = cst P S.length u + (lg (cst P) P.length d (S ++ [u])).1 := by
      intro u hu hus
      obtain ⟨K, hK⟩ := least_ev P hn hrow hc hc' d (S ++ [u]) (M ||| 2 ^ u) (by simp; omega) (mask_add hM u (by omega))
      have e1 : (((S ++ [u]).length : Nat) : Int) = ((S.length + 1 : Nat) : Int) := by simp
      rw [e1] at hK
      refine ⟨K, fun k hk => ⟨hK k hk, ?_⟩⟩
      have q1 := hc S.length u
      have q2 := hc' S.length u
      have q3 := hF u hus
      have q4 := lg_le (cst P) P.length hc hc' d (S ++ [u]) (by simp; omega)
      exact wrap_in (by unfold cst at q1; omega) (by unfold cst at q2; omega)
    have hl := run_loop2 (fun k i (_ : Unit) => spec_BestAssign.l1 k P (S.map (fun (t : Nat) => (t : Int))) (M : Int) (S.length : Int) (lg (cst P) P.length (d + 1) S).1 (P.length : Int) (S.length : Int) (P.length : Int) i) t (fun _ => ()) r
      (by
        obtain ⟨K, hK⟩ := step t ht htS
        refine Ev.back 1 K (fun k hk => ?_) hnext
        obtain ⟨a1, a2⟩ := hK k hk
        have c1 : (t : Int) < (P.length : Int) := by omega
        have c2 : (0 : Int) ≤ (t : Int) := by omega
        have c5 : (t : Int) < ((rd_L1 P (S.length : Int)).length : Int) := by rw [hrow _ hlt]; omega
        have hu := u64_nat t (by omega)
        have hmt := mask_test M t hM.1 (by omega)
        have hmp := mask_put M t hM.1 (by omega)
        have h1 : M / 2 ^ t % 2 = 0 := by
          have : ¬ M / 2 ^ t % 2 = 1 := fun h => htS ((hM.2 t ht).1 h)
          omega
        have ez : ((0 : Nat) : Int) = 0 := rfl
        have hv : cst P S.length t + (lg (cst P) P.length d (S ++ [t])).1 = (lg (cst P) P.length (d + 1) S).1 := by rw [he]
        have hlen : (S.map (fun (t : Nat) => (t : Int))).length < 17592186044416 := by simp; omega
        simp only [spec_BestAssign.l1, c1, hu, c2, c3, c4, c5, hmt, h1, ez, if_true, hmp, hsl, a1, a2, hv, hlen, Option.bind_some]
        simp)
      (fun u hu r' hr' => by
        have hun : u < P.length := by omega
        have c1 : (u : Int) < (P.length : Int) := by omega
        have c2 : (0 : Int) ≤ (u : Int) := by omega
        have c5 : (u : Int) < ((rd_L1 P (S.length : Int)).length : Int) := by rw [hrow _ hlt]; omega
        have hw := wrap_succ u (by omega)
        have huu := u64_nat u (by omega)
        have hmt := mask_test M u hM.1 (by omega)
        have hmp := mask_put M u hM.1 (by omega)
        by_cases hs : u ∈ S
        · have h1 : M / 2 ^ u % 2 = 1 := (hM.2 u hun).2 hs
          have z : ¬ ((1 : Nat) : Int) = 0 := by decide
          refine Ev.step (fun k => ?_) hr'
          simp only [spec_BestAssign.l1, c1, huu, c2, hmt, h1, z, if_true, if_false, hw]
        · have h1 : M / 2 ^ u % 2 = 0 := by
            have : ¬ M / 2 ^ u % 2 = 1 := fun h => hs ((hM.2 u hun).1 h)
            omega
          have ez : ((0 : Nat) : Int) = 0 := rfl
          obtain ⟨K, hK⟩ := step u hun hs
          refine Ev.back 1 K (fun k hk => ?_) hr'
          obtain ⟨a1, a2⟩ := hK k hk
          have hv := hfirst u hun hs hu
          simp only [spec_BestAssign.l1, c1, huu, c2, c3, c4, c5, hmt, h1, ez, if_true, if_false, hmp, hsl, a1, a2, hv, hw, Option.bind_some]) 0 (Nat.zero_le _)
    simp only at hK0
    refine Ev.back 1 K0 (fun k hk => ?_) hl
    have a0 := hK0 k hk
    simp only [spec_BestAssign.l0, c4, a0, if_true, Option.bind_some]
    rfl
def up (S : List Nat) : List Int := S.map (fun (t : Nat) => (t : Int))
theorem up_len (S : List Nat) : (up S).length = S.length := List.length_map ..
theorem up_at (S : List Nat) (i : Nat) (h : i < S.length) : rd (up S) (i : Int) = (S[i] : Int) := by
  rw [rd_get _ i (by rw [up_len]; exact h)]
  simp [up]
theorem clone_f (l : List Int) (h : l.length < 17592186044416) : slices_Clone_int_int.f l = some l := by
  simp [slices_Clone_int_int.f, h]
theorem incl_ev (S : List Nat) (t : Nat) (hS : S.length < 1000) : Ev (fun k => slices_Contains_int_int.f k (up S) (t : Int)) (decide (t ∈ S)) := by
  have hall : ((List.range S.length).all fun i => !decide (S.getD i 0 = t)) = !decide (t ∈ S) := by
    rw [Bool.eq_iff_iff, range_all, Bool.not_eq_true', decide_eq_false_iff_not]
    constructor
    · intro h hm
      obtain ⟨i, hi, e⟩ := List.getElem_of_mem hm
      have := h i hi
      simp [hi, e] at this
    · intro h i hi
      rw [Bool.not_eq_true', decide_eq_false_iff_not]
      intro e
      refine h ?_
      rw [← e]
      simp [hi]
  have h := all_loop2 (fun k i => (slices_Index_int_int.l0 k (up S) (t : Int) ((up S).length : Int) i).bind fun t => some (decide (t ≥ 0))) S.length (fun i => !decide (S.getD i 0 = t)) false true
    (Ev.next ⟨0, fun k _ => by simp [slices_Index_int_int.l0, up_len]⟩)
    (fun i hi hp r hr => Ev.step (fun k => by
      have h1 : (i : Int) < ((up S).length : Int) := by rw [up_len]; omega
      have h2 : (0 : Int) ≤ (i : Int) := by omega
      have h3 : ¬ ((t : Int) = (S[i] : Int)) := by
        intro e
        have : S[i] = t := by omega
        simp [hi, this] at hp
      simp only [slices_Index_int_int.l0, h1, h2, up_at S i hi, h3, if_true, if_false, wrap_succ i (by omega)]) hr)
    (fun i hi hp => Ev.at 1 0 (fun k _ => by
      have h1 : (i : Int) < ((up S).length : Int) := by rw [up_len]; omega
      have h2 : (0 : Int) ≤ (i : Int) := by omega
      have h3 : (t : Int) = (S[i] : Int) := by
        have : S[i] = t := by simpa [hi] using hp
        omega
      simp only [slices_Index_int_int.l0, h1, h2, up_at S i hi, ← h3, if_true, Option.bind_some]
      simp))
  rw [hall] at h
  refine Ev.congr (fun k => rfl) ?_
  rw [show decide (t ∈ S) = (if (!decide (t ∈ S)) = true then false else true) by cases decide (t ∈ S) <;> rfl]
  exact h
theorem cost_ev (P : List (List Int)) (hn : P.length ≤ 30) (hrow : ∀ i, i < P.length → (rd_L1 P (i : Int)).length = P.length) (hc : ∀ i t, 0 ≤ cst P i t) (hc' : ∀ i t, cst P i t ≤ 1000000) (S : List Nat) (hS : S.length ≤ P.length) (hlt : ∀ t ∈ S, t < P.length) :
    Ev (fun k => impl_assignCost.f k P (up S)) (costW (cst P) 0 S) := by
  have hle : ∀ i, i ≤ S.length → 0 ≤ costW (cst P) 0 (S.take i) ∧ costW (cst P) 0 (S.take i) ≤ 1000000 * (i : Int) := by
    intro i
    induction i with
    | zero => intro _; simp [costW]
    | succ i ih =>
      intro hi
      have h5 : S.take (i + 1) = S.take i ++ [S[i]] := by rw [List.take_add_one, List.getElem?_eq_getElem (by omega)]; rfl
      have q1 := hc (0 + (S.take i).length) S[i]
      have q2 := hc' (0 + (S.take i).length) S[i]
      have q := ih (by omega)
      rw [h5, costW_app]
      omega
  have h := run_loop (fun k i (x : Int) => impl_assignCost.l0 k P x (up S) ((up S).length : Int) i) S.length (fun i => costW (cst P) 0 (S.take i)) (costW (cst P) 0 S)
    (Ev.next ⟨0, fun k _ => by simp [impl_assignCost.l0, up_len]⟩)
    (fun i hi => ⟨0, fun k _ => by
      have h1 : (i : Int) < ((up S).length : Int) := by rw [up_len]; omega
      have h2 : (0 : Int) ≤ (i : Int) := by omega
      have h3 : (i : Int) < (P.length : Int) := by omega
      have h4 : (0 : Int) ≤ (S[i] : Int) := by omega
      have h6 : (S[i] : Int) < ((rd_L1 P (i : Int)).length : Int) := by rw [hrow i (by omega)]; have := hlt S[i] (List.getElem_mem hi); omega
      have h5 : S.take (i + 1) = S.take i ++ [S[i]] := by rw [List.take_add_one, List.getElem?_eq_getElem hi]; rfl
      have hl : (S.take i).length = i := by rw [List.length_take]; omega
      have e : costW (cst P) 0 (S.take (i + 1)) = costW (cst P) 0 (S.take i) + rd (rd_L1 P (i : Int)) (S[i] : Int) := by rw [h5, costW_app, hl, Nat.zero_add]; rfl
      have q1 := hle (i + 1) (by omega)
      rw [e] at q1
      have hw : wrap64 (costW (cst P) 0 (S.take i) + rd (rd_L1 P (i : Int)) (S[i] : Int)) = costW (cst P) 0 (S.take (i + 1)) := by rw [e]; exact wrap_in (by omega) (by omega)
      simp only [impl_assignCost.l0, h1, h2, h3, h4, h6, up_at S i hi, if_true, hw, wrap_succ i (by omega)]⟩) 0 (Nat.zero_le _)
  exact Ev.congr (fun k => rfl) h
theorem lg_len (c : Nat → Nat → Int) (n : Nat) (hc : ∀ i t, 0 ≤ c i t) : ∀ (d : Nat) (S : List Nat), S.length + d = n → (lg c n d S).2.length = d
  | 0, _, _ => rfl
  | d + 1, S, h => by
    obtain ⟨t, _, _, e, _⟩ := lg_first c n hc d S h
    rw [e]
    show (lg c n d (S ++ [t])).2.length + 1 = d + 1
    rw [lg_len c n hc d (S ++ [t]) (by simp; omega)]
theorem try_len (c : Nat → Nat → Int) (n : Nat) (hn : n ≤ 30) (hc : ∀ i t, 0 ≤ c i t) (d : Nat) (S : List Nat) (h : S.length + d = n) (s : List Nat × Int) (hs : s.1.length ≤ 30) : (tryAll c n d S s).1.length ≤ 30 := by
  rw [try_all c n hc d S h]
  unfold better
  split
  · show (S ++ (lg c n d S).2).length ≤ 30
    rw [List.length_append, lg_len c n hc d S h]
    omega
  · exact hs
theorem fold_len (c : Nat → Nat → Int) (n : Nat) (hn : n ≤ 30) (hc : ∀ i t, 0 ≤ c i t) (d : Nat) (S : List Nat) (h : S.length + (d + 1) = n) : ∀ (ts : List Nat) (s : List Nat × Int), s.1.length ≤ 30 →
    (ts.foldl (fun s t => if t ∈ S then s else tryAll c n d (S ++ [t]) s) s).1.length ≤ 30
  | [], s, hs => hs
  | t :: r, s, hs => by
    rw [List.foldl_cons]
    refine fold_len c n hn hc d S h r _ ?_
    split
    · exact hs
    · exact try_len c n hn hc d (S ++ [t]) (by simp; omega) s hs
theorem try_ev (P : List (List Int)) (hn : P.length ≤ 30) (hrow : ∀ i, i < P.length → (rd_L1 P (i : Int)).length = P.length) (hc : ∀ i t, 0 ≤ cst P i t) (hc' : ∀ i t, cst P i t ≤ 1000000) :
    ∀ (d : Nat) (S B : List Nat) (l : Int), S.length + d = P.length → (∀ t ∈ S, t < P.length) → B.length ≤ 30 →
      Ev (fun k => impl_bestAssign_fn1.f k (up S) P l (up B)) (up (tryAll (cst P) P.length d S (B, l)).1, (tryAll (cst P) P.length d S (B, l)).2)
  | 0, S, B, l, h, hS, hB => by
    obtain ⟨K, hK⟩ := cost_ev P hn hrow hc hc' S (by omega) hS
    simp only at hK
    have e : (((up S).length : Nat) : Int) = (P.length : Int) := by rw [up_len]; omega
    have c1 := clone_f (up S) (by rw [up_len]; omega)
    have c2 := clone_f (up B) (by rw [up_len]; omega)
    refine Ev.at 2 K (fun k hk => ?_)
    have a := hK (k + 1) (by omega)
    simp only [impl_bestAssign_fn1.f, impl_bestAssign_fn1.j0, e, a, c1, c2, if_true, Option.bind_some, tryAll]
    by_cases q1 : l < 0
    · simp [q1]
    · by_cases q2 : costW (cst P) 0 S < l
      · simp [q1, q2]
      · simp [q1, q2]
  | d + 1, S, B, l, h, hS, hB => by
    have e : ¬ (((up S).length : Nat) : Int) = (P.length : Int) := by rw [up_len]; omega
    have c1 := clone_f (up S) (by rw [up_len]; omega)
    have hl := run_loop2 (fun k t (s : List Nat × Int) => impl_bestAssign_fn1.l0 k (up S) P s.2 (up s.1) (P.length : Int) t) P.length
      (fun t => (List.range t).foldl (fun s t => if t ∈ S then s else tryAll (cst P) P.length d (S ++ [t]) s) (B, l)) (up (tryAll (cst P) P.length (d + 1) S (B, l)).1, (tryAll (cst P) P.length (d + 1) S (B, l)).2)
      (Ev.at 1 0 (fun k _ => by
        have c0 : ¬ ((P.length : Int) < (P.length : Int)) := by omega
        have hb := fold_len (cst P) P.length hn hc d S h (List.range P.length) (B, l) hB
        have c2 := clone_f (up ((List.range P.length).foldl (fun s t => if t ∈ S then s else tryAll (cst P) P.length d (S ++ [t]) s) (B, l)).1) (by rw [up_len]; omega)
        simp only [impl_bestAssign_fn1.l0, c0, if_false, c2, Option.bind_some]
        rfl))
      (fun t ht r hr => by
        have q1 : (t : Int) < (P.length : Int) := by omega
        have hw := wrap_succ t (by omega)
        have hb := fold_len (cst P) P.length hn hc d S h (List.range t) (B, l) hB
        rw [List.range_succ, List.foldl_append, List.foldl_cons, List.foldl_nil] at hr
        generalize (List.range t).foldl (fun s t => if t ∈ S then s else tryAll (cst P) P.length d (S ++ [t]) s) (B, l) = s at hb hr ⊢
        obtain ⟨K, hK⟩ := incl_ev S t (by omega)
        simp only at hK
        by_cases hs : t ∈ S
        · rw [if_pos hs] at hr
          rw [decide_eq_true hs] at hK
          refine Ev.back 1 K (fun k hk => ?_) hr
          have a := hK k hk
          simp only [impl_bestAssign_fn1.l0, q1, a, hw, if_true, Option.bind_some]
        · rw [if_neg hs] at hr
          rw [decide_eq_false hs] at hK
          obtain ⟨K2, hK2⟩ := try_ev P hn hrow hc hc' d (S ++ [t]) s.1 s.2 (by simp; omega) (fun u hu => by
            rcases List.mem_append.1 hu with hu | hu
            · exact hS u hu
            · rw [List.mem_singleton.1 hu]; exact ht) hb
          have eu : up (S ++ [t]) = up S ++ [(t : Int)] := by simp [up]
          have hl2 : (up S).length < 17592186044416 := by rw [up_len]; omega
          rw [eu] at hK2
          simp only at hK2
          refine Ev.back 1 (K + K2) (fun k hk => ?_) hr
          have a := hK k (by omega)
          have a2 := hK2 k (by omega)
          simp only [impl_bestAssign_fn1.l0, q1, a, c1, hl2, a2, hw, if_true, Bool.false_eq_true, if_false, Option.bind_some]) 0 (Nat.zero_le _)
    refine Ev.step (fun k => ?_) hl
    simp only [impl_bestAssign_fn1.f, e, if_false]
    rfl
theorem scost_ev (P : List (List Int)) (hn : P.length ≤ 30) (hrow : ∀ i, i < P.length → (rd_L1 P (i : Int)).length = P.length) (hc : ∀ i t, 0 ≤ cst P i t) (hc' : ∀ i t, cst P i t ≤ 1000000) (S : List Nat) (hS : S.length ≤ P.length) (hlt : ∀ t ∈ S, t < P.length) :
    Ev (fun k => spec_l27Cost.f k P (up S)) (costW (cst P) 0 S) := by
  have hle : ∀ i, i ≤ S.length → 0 ≤ costW (cst P) 0 (S.take i) ∧ costW (cst P) 0 (S.take i) ≤ 1000000 * (i : Int) := by
    intro i
    induction i with
    | zero => intro _; simp [costW]
    | succ i ih =>
      intro hi
      have h5 : S.take (i + 1) = S.take i ++ [S[i]] := by rw [List.take_add_one, List.getElem?_eq_getElem (by omega)]; rfl
      have q1 := hc (0 + (S.take i).length) S[i]
      have q2 := hc' (0 + (S.take i).length) S[i]
      have q := ih (by omega)
      rw [h5, costW_app]
      omega
  have h := run_loop (fun k i (x : Int) => spec_l27Cost.l0 k P x (up S) ((up S).length : Int) i) S.length (fun i => costW (cst P) 0 (S.take i)) (costW (cst P) 0 S)
    (Ev.next ⟨0, fun k _ => by simp [spec_l27Cost.l0, up_len]⟩)
    (fun i hi => ⟨0, fun k _ => by
      have h1 : (i : Int) < ((up S).length : Int) := by rw [up_len]; omega
      have h2 : (0 : Int) ≤ (i : Int) := by omega
      have h3 : (i : Int) < (P.length : Int) := by omega
      have h4 : (0 : Int) ≤ (S[i] : Int) := by omega
      have h6 : (S[i] : Int) < ((rd_L1 P (i : Int)).length : Int) := by rw [hrow i (by omega)]; have := hlt S[i] (List.getElem_mem hi); omega
      have h5 : S.take (i + 1) = S.take i ++ [S[i]] := by rw [List.take_add_one, List.getElem?_eq_getElem hi]; rfl
      have hl : (S.take i).length = i := by rw [List.length_take]; omega
      have e : costW (cst P) 0 (S.take (i + 1)) = costW (cst P) 0 (S.take i) + rd (rd_L1 P (i : Int)) (S[i] : Int) := by rw [h5, costW_app, hl, Nat.zero_add]; rfl
      have q1 := hle (i + 1) (by omega)
      rw [e] at q1
      have hw : wrap64 (costW (cst P) 0 (S.take i) + rd (rd_L1 P (i : Int)) (S[i] : Int)) = costW (cst P) 0 (S.take (i + 1)) := by rw [e]; exact wrap_in (by omega) (by omega)
      simp only [spec_l27Cost.l0, h1, h2, h3, h4, h6, up_at S i hi, if_true, hw, wrap_succ i (by omega)]⟩) 0 (Nat.zero_le _)
  exact Ev.congr (fun k => rfl) h
theorem lg_cost (c : Nat → Nat → Int) (n : Nat) (hc : ∀ i t, 0 ≤ c i t) : ∀ (d : Nat) (S : List Nat), S.length + d = n → costW c 0 (S ++ (lg c n d S).2) = costW c 0 S + (lg c n d S).1 ∧ ((∀ t ∈ S, t < n) → ∀ t ∈ S ++ (lg c n d S).2, t < n)
  | 0, S, _ => by simp [lg]
  | d + 1, S, h => by
    obtain ⟨t, ht, _, e, _⟩ := lg_first c n hc d S h
    obtain ⟨h1, h2⟩ := lg_cost c n hc d (S ++ [t]) (by simp; omega)
    rw [e]
    have e1 : S ++ (t :: (lg c n d (S ++ [t])).2) = (S ++ [t]) ++ (lg c n d (S ++ [t])).2 := by simp
    have e2 := costW_app c S 0 t
    rw [Nat.zero_add] at e2
    refine ⟨?_, fun hS => ?_⟩
    · show costW c 0 (S ++ (t :: (lg c n d (S ++ [t])).2)) = costW c 0 S + (c S.length t + (lg c n d (S ++ [t])).1)
      rw [e1, h1, e2]
      omega
    · show ∀ x ∈ S ++ (t :: (lg c n d (S ++ [t])).2), x < n
      rw [e1]
      refine h2 (fun u hu => ?_)
      rcases List.mem_append.1 hu with hu | hu
      · exact hS u hu
      · rw [List.mem_singleton.1 hu]; exact ht
/-- Both choose alike: what is least, the first way to it. -/
theorem best_both (P : List (List Int)) (hn : P.length ≤ 30) (hrow : ∀ i, i < P.length → (rd_L1 P (i : Int)).length = P.length) (hc : ∀ i t, 0 ≤ cst P i t) (hc' : ∀ i t, cst P i t ≤ 1000000) :
    Ev (fun k => impl_bestAssign.f k P) (up (lg (cst P) P.length P.length []).2, (lg (cst P) P.length P.length []).1) ∧
    Ev (fun k => spec_BestAssign.l0 k P [] 0 (P.length : Int) 0) (up (lg (cst P) P.length P.length []).2, (lg (cst P) P.length P.length []).1, true) := by
  constructor
  · have h := try_ev P hn hrow hc hc' P.length [] [] (-1) (by simp) (fun t ht => by cases ht) (by simp)
    rw [best_all (cst P) P.length hc] at h
    refine Ev.congr (fun k => ?_) h
    simp only [impl_bestAssign.f, up, List.map_nil]
    first | rfl | (cases impl_bestAssign_fn1.f k [] P (-1) [] <;> rfl)
  · obtain ⟨h1, h2⟩ := lg_cost (cst P) P.length hc P.length [] (by simp)
    have hlen := lg_len (cst P) P.length hc P.length [] (by simp)
    simp only [List.nil_append] at h1 h2
    obtain ⟨K, hK⟩ := scost_ev P hn hrow hc hc' (lg (cst P) P.length P.length []).2 (by omega) (h2 (fun t ht => by cases ht))
    have hcost : costW (cst P) 0 (lg (cst P) P.length P.length []).2 = (lg (cst P) P.length P.length []).1 := by
      rw [h1]; simp [costW]
    rw [hcost] at hK
    simp only at hK
    have h := spec_best P hn hrow hc hc' (up (lg (cst P) P.length P.length []).2, (lg (cst P) P.length P.length []).1, true) P.length [] 0 (by simp) (mask_none _) (fun M' => Ev.at 1 K (fun k hk => by
      have c0 : ¬ ((P.length : Int) < (P.length : Int)) := by omega
      have a := hK k hk
      unfold up at a
      simp only [spec_BestAssign.l0, c0, if_false, List.nil_append, a, Option.bind_some]
      rfl))
    exact Ev.congr (fun k => rfl) h
theorem cst_in (P : List (List Int)) (h : goodPrices P = true) : (∀ i, i < P.length → (rd_L1 P (i : Int)).length = P.length) ∧ (∀ i t, 0 ≤ cst P i t) ∧ (∀ i t, cst P i t ≤ 1000000) := by
  have hb : ∀ i t, 0 ≤ cst P i t ∧ cst P i t ≤ 1000000 := by
    intro i t
    unfold cst
    by_cases hi : i < P.length
    · have hr := prices_row P h i hi
      by_cases ht : t < P.length
      · have := hr.2 t ht
        omega
      · have e : rd (rd_L1 P (i : Int)) (t : Int) = 0 := by
          simp only [rd, Int.toNat_natCast]
          rw [List.getD_eq_getElem?_getD, List.getElem?_eq_none (by omega)]; rfl
        rw [e]; omega
    · have e0 : rd_L1 P (i : Int) = [] := by
        simp only [rd_L1, Int.toNat_natCast]
        rw [List.getD_eq_getElem?_getD, List.getElem?_eq_none (by omega)]; rfl
      rw [e0]
      simp [rd]
  exact ⟨fun i hi => (prices_row P h i hi).1, fun i t => (hb i t).1, fun i t => (hb i t).2⟩
theorem best_len (P : List (List Int)) (h : goodPrices P = true) : (up (lg (cst P) P.length P.length []).2).length = P.length := by
  rw [up_len]
  exact lg_len (cst P) P.length (cst_in P h).2.1 P.length [] (by simp)
/-- Both answer alike, at any prices. -/
theorem best_any (P : List (List Int)) (hb : P.length ≤ 1048576) (hi : ∀ j (h : j < P.length), P[j].length ≤ 1048576) :
    ∃ G c b, G.length ≤ 6 ∧ Ev (fun k => spec_BestAssign.f k P) (G, c, b) ∧ Ev (fun k => impl_BestAssign.f k P) (G, c, b) := by
  obtain ⟨K1, h1⟩ := spec_prices P (by omega) hi
  obtain ⟨K2, h2⟩ := impl_prices P (by omega) hi
  by_cases hg : goodPrices P = true
  · have hl := prices_len P hg
    obtain ⟨q1, q2, q3⟩ := cst_in P hg
    obtain ⟨⟨K3, h3⟩, ⟨K4, h4⟩⟩ := best_both P (by omega) q1 q2 q3
    refine ⟨up (lg (cst P) P.length P.length []).2, (lg (cst P) P.length P.length []).1, true, (by rw [best_len P hg]; exact hl.2), ⟨K1 + K4, fun k hk => ?_⟩, ⟨K2 + K3, fun k hk => ?_⟩⟩
    · have a := h1 k (by omega)
      have b := h4 k (by omega)
      simp only at a b
      simp only [spec_BestAssign.f, a, Option.bind_some, hg, if_true, b]
    · have a := h2 k (by omega)
      have b := h3 k (by omega)
      simp only at a b
      simp only [impl_BestAssign.f, a, Option.bind_some, hg, if_true, b]
  · refine ⟨[], 0, false, by simp, ⟨K1, fun k hk => ?_⟩, ⟨K2, fun k hk => ?_⟩⟩
    · have a := h1 k (by omega)
      simp only at a
      simp only [spec_BestAssign.f, a, Option.bind_some, hg, if_false]
      first | rfl | simp
    · have a := h2 k (by omega)
      simp only at a
      simp only [impl_BestAssign.f, a, Option.bind_some, hg, if_false]
      first | rfl | simp
theorem msum_bound : ∀ (L : List (List Int)) (n m : Nat), L.length ≤ n → (∀ x ∈ L, x.length ≤ m) → msum L ≤ n * m
  | [], _, _, _, _ => by simp [msum]
  | x :: L, n, m, hl, hx => by
    obtain ⟨n, rfl⟩ : ∃ q, n = q + 1 := ⟨n - 1, by simp at hl; omega⟩
    have h := msum_bound L n m (by simp at hl; omega) (fun y hy => hx y (List.mem_cons_of_mem _ hy))
    have := hx x List.mem_cons_self
    simp only [msum]
    rw [Nat.succ_mul]
    omega
theorem FnExactBestAssign : ∀ (l0 : List (List Int)), ((∀ (zl0 : List Int), zl0 ∈ l0 → ((∀ (zzl0 : Int), zzl0 ∈ zl0 → (Lit.int .i64 zzl0).wf = true) ∧ zl0.length * 8 ≤ 140737488351232)) ∧ l0.length * 24 ≤ 140737488351232) → ∃ k, laws_FnExactBestAssign.f k l0 = some true := by
  intro p ⟨hin, hl⟩
  obtain ⟨t, ht, K0, h0⟩ := szIntSS_ev p (by omega) (fun x hx => by have := (hin x hx).2; omega)
  rcases ht with ht | ⟨ht, hlen, hinner⟩
  · refine ⟨K0, ?_⟩
    have h0' := h0 K0 (by omega)
    simp only at h0'
    simp only [laws_FnExactBestAssign.f, h0', Option.bind_some, ht, if_true]
  · have hin2 : ∀ x ∈ p, x.length ≤ 1048576 := fun x hx => by
      obtain ⟨i, hi, rfl⟩ := List.getElem_of_mem hx
      exact hinner i hi
    obtain ⟨G, c, b, hG, ⟨K3, h3⟩, ⟨K4, h4⟩⟩ := best_any p hlen hinner
    have hms := msum_bound p 1048576 1048576 hlen hin2
    obtain ⟨K1, h1⟩ := toIntSS_ev p hlen hinner
    obtain ⟨K5, h5⟩ := eqIntS_ev G (by omega)
    obtain ⟨K6, h6⟩ := eqIntSS_ev p hlen hinner
    obtain ⟨K8, h8⟩ := markSS_ev p (fun x hx => by have := hin2 x hx; omega) (by omega) (by omega)
    obtain ⟨K10, h10⟩ := markIntS_ev G (by omega)
    obtain ⟨K11, h11⟩ := heldIntS_ev G.length (by omega)
    have c1 : ¬ (1 + (msum p : Int) < 0) := by omega
    have c2 : ¬ ((1 : Int) + ((1 : Nat) : Int) * (G.length : Int) < 0) := by omega
    have e2 : ∀ k, K11 ≤ k → laws_FnExactBestAssign.j2 (k + 1) ((List.range G.length).map fun (j : Nat) => id (1 + ((1 : Nat) : Int) * (j : Int))) ((1 : Int) + ((1 : Nat) : Int) * (G.length : Int)) false = some true := by
      intro k hk
      have a := h11 k hk
      simp only at a
      simp only [laws_FnExactBestAssign.j2, a, Option.bind_some, Bool.false_eq_true, if_false, c2, if_true]
    have e1 : ∀ k, K1 + K4 + K5 + K10 + K11 ≤ k → laws_FnExactBestAssign.j1 (k + 2) p G c b G false = some true := by
      intro k hk
      have e2' := e2 k (by omega)
      have a1 := h1 (k + 1) (by omega)
      have a4 := h4 (k + 1) (by omega)
      have a5 := h5 (k + 1) (by omega)
      have a10 := h10 (k + 1) (by omega)
      have a11 := h11 (k + 1) (by omega)
      simp only at a1 a4 a5 a10 a11 e2'
      simp only [laws_FnExactBestAssign.j1, a1, a4, a5, a10, a11, Option.bind_some, Bool.false_eq_true, if_false, c2, if_true, bne_self_eq_false, e2']
    have e0 : ∀ k, K1 + K4 + K5 + K6 + K8 + K10 + K11 ≤ k → laws_FnExactBestAssign.j0 (k + 3) p G c b p G c b false = some true := by
      intro k hk
      have e1' := e1 k (by omega)
      have a1 := h1 (k + 2) (by omega)
      have a5 := h5 (k + 2) (by omega)
      have a6 := h6 (k + 2) (by omega)
      have a8 := h8 (k + 2) (by omega)
      simp only at a1 a5 a6 a8 e1'
      simp only [laws_FnExactBestAssign.j0, a1, a5, a6, a8, Option.bind_some, Bool.false_eq_true, if_false, c1, if_true, bne_self_eq_false, e1']
    refine ⟨K0 + K1 + K3 + K4 + K5 + K6 + K8 + K10 + K11 + 3, ?_⟩
    have e0' := e0 (K0 + K1 + K3 + K4 + K5 + K6 + K8 + K10 + K11) (by omega)
    simp (disch := omega) only [laws_FnExactBestAssign.f, if_false, h0, Option.bind_some, ht, h1, h3, h4, h5, if_true, bne_self_eq_false, e0']

end Go.Proofs.Ytllcdmjleohikaa.Pure
