/- For drawn prices and a drawn who: what is best costs no more; there are dues just where who costs least, and by them nobody would rather have another task. No condition. -/
import Derived.Test.YtllcdmjleohikaaQFnAssignx9
import Derived.Test.YtllcdmjleohikaaPlain
namespace Go.Proofs.Ytllcdmjleohikaa.Pure
open Go.RowKit Go.Proofs.Ytllcdmjleohikaa.PFnAssign Go.Proofs.Ytllcdmjleohikaa.Plain Go.Proofs.YtllcdmjleohikaaW.PrintWords Go.Proofs.YtllcdmjleohikaaW.PrintLast
set_option linter.unusedVariables false
set_option linter.unusedSimpArgs false

theorem between_eq (a lo hi : Int) : impl_between.f a lo hi = some (decide (lo ≤ a ∧ a ≤ hi)) := by
  unfold impl_between.f
  split <;> simp <;> omega
def okRow (x : List Int) (n : Nat) : Bool := decide (x.length = n) && (List.range x.length).all (fun j => decide (0 ≤ rd x (j : Int) ∧ rd x (j : Int) ≤ 100000))
def goodPrices (l : List (List Int)) : Bool := decide (1 ≤ l.length ∧ l.length ≤ 6) && (List.range l.length).all (fun i => okRow (rd_L1 l (i : Int)) l.length)
theorem spec_prices (l : List (List Int)) (hb : l.length ≤ 1099511627776) (hi : ∀ j (h : j < l.length), l[j].length ≤ 1048576) : Ev (fun k => spec_GoodPrices.f k l) (goodPrices l) := by
  have hin : ∀ (i : Nat), i < l.length → ∀ (x : List Int), x.length ≤ 1048576 → ∀ r, Ev (fun k => spec_GoodPrices.l0 k (l.length : Int) l (l.length : Int) ((i + 1 : Nat) : Int)) r →
      Ev (fun k => spec_GoodPrices.l1 k (l.length : Int) l (l.length : Int) (i : Int) x (x.length : Int) 0) (if (List.range x.length).all (fun j => decide (0 ≤ rd x (j : Int) ∧ rd x (j : Int) ≤ 100000)) = true then r else false) := by
    intro i hlt x hx r hr
    refine all_loop2 (fun k j => spec_GoodPrices.l1 k (l.length : Int) l (l.length : Int) (i : Int) x (x.length : Int) j) x.length _ r false ?_ ?_ ?_
    · refine Ev.back 1 0 (fun k _ => ?_) hr
      have h1 : ¬ ((x.length : Int) < (x.length : Int)) := by omega
      simp only [spec_GoodPrices.l1, h1, if_false, wrap_succ i (by omega)]
    · intro j hj hp q hq
      refine Ev.back 1 0 (fun k _ => ?_) hq
      have h1 : (j : Int) < (x.length : Int) := by omega
      have h2 : (0 : Int) ≤ (j : Int) := by omega
      rw [decide_eq_true_eq] at hp
      simp only [spec_GoodPrices.l1, h1, h2, if_true, wrap_succ j (by omega)]
      rw [if_neg (by omega), if_neg (by omega)]
    · intro j hj hp
      refine Ev.at 1 0 (fun k _ => ?_)
      have h1 : (j : Int) < (x.length : Int) := by omega
      have h2 : (0 : Int) ≤ (j : Int) := by omega
      rw [decide_eq_false_iff_not] at hp
      simp only [spec_GoodPrices.l1, h1, h2, if_true]
      split
      · rfl
      · rw [if_pos (by omega)]
  have hl := all_loop2 (fun k i => spec_GoodPrices.l0 k (l.length : Int) l (l.length : Int) i) l.length (fun i => okRow (rd_L1 l (i : Int)) l.length) true false
    (Ev.at 1 0 (fun k _ => by simp [spec_GoodPrices.l0]))
    (fun i hlt hp r hr => by
      have h1 : (i : Int) < (l.length : Int) := by omega
      have h2 : (0 : Int) ≤ (i : Int) := by omega
      have h4 : rd_L1 l (i : Int) = l[i] := by simp [rd_L1, hlt]
      have hb' := hi i hlt
      simp only [okRow, Bool.and_eq_true, decide_eq_true_eq] at hp
      have := hin i hlt (rd_L1 l (i : Int)) (by rw [h4]; exact hb') r hr
      rw [if_pos hp.2] at this
      refine Ev.back 1 0 (fun k _ => ?_) this
      simp only [spec_GoodPrices.l0, h1, h2, if_true]
      rw [if_pos (by omega)])
    (fun i hlt hp => by
      have h1 : (i : Int) < (l.length : Int) := by omega
      have h2 : (0 : Int) ≤ (i : Int) := by omega
      have h4 : rd_L1 l (i : Int) = l[i] := by simp [rd_L1, hlt]
      have hb' := hi i hlt
      by_cases hlen : (rd_L1 l (i : Int)).length = l.length
      · simp only [okRow, hlen, decide_true, Bool.true_and] at hp
        have key : ∀ (d j : Nat), j + d = (rd_L1 l (i : Int)).length → (List.range' j d).all (fun j => decide (0 ≤ rd (rd_L1 l (i : Int)) (j : Int) ∧ rd (rd_L1 l (i : Int)) (j : Int) ≤ 100000)) = false →
            Ev (fun k => spec_GoodPrices.l1 k (l.length : Int) l (l.length : Int) (i : Int) (rd_L1 l (i : Int)) ((rd_L1 l (i : Int)).length : Int) (j : Int)) false := by
          intro d
          induction d with
          | zero =>
            intro j _ h
            simp at h
          | succ d ih =>
            intro j hj h
            have h5 : (j : Int) < ((rd_L1 l (i : Int)).length : Int) := by omega
            have h6 : (0 : Int) ≤ (j : Int) := by omega
            rw [List.range'_succ, List.all_cons] at h
            by_cases hc : 0 ≤ rd (rd_L1 l (i : Int)) (j : Int) ∧ rd (rd_L1 l (i : Int)) (j : Int) ≤ 100000
            · rw [decide_eq_true hc, Bool.true_and] at h
              refine Ev.back 1 0 (fun k _ => ?_) (ih (j + 1) (by omega) h)
              rw [h4] at *
              simp only [spec_GoodPrices.l1, h5, h6, if_true, wrap_succ j (by omega)]
              rw [if_neg (by omega), if_neg (by omega)]
            · refine Ev.at 1 0 (fun k _ => ?_)
              simp only [spec_GoodPrices.l1, h5, h6, if_true]
              split
              · rfl
              · rw [if_pos (by omega)]
        rw [← hlen, List.range_eq_range'] at hp
        have := key _ 0 (by omega) hp
        refine Ev.back 1 0 (fun k _ => ?_) this
        simp only [spec_GoodPrices.l0, h1, h2, if_true]
        rw [if_pos (by omega)]
        rfl
      · refine Ev.at 1 0 (fun k _ => ?_)
        simp only [spec_GoodPrices.l0, h1, h2, if_true]
        rw [if_neg (by omega)])
  obtain ⟨K, hK⟩ := hl
  refine ⟨K + 1, fun k hk => ?_⟩
  obtain ⟨m, rfl⟩ : ∃ m, k = m + 1 := ⟨k - 1, by omega⟩
  have hk' := hK m (by omega)
  simp only [spec_GoodPrices.f, spec_GoodPrices.j0, hk', goodPrices]
  generalize (List.range l.length).all (fun (i : Nat) => okRow (rd_L1 l (i : Int)) l.length) = q
  by_cases h1 : 1 ≤ l.length
  · by_cases h6 : l.length ≤ 6
    · have e1 : ¬ ((l.length : Int) < 1) := by omega
      have e2 : ¬ ((l.length : Int) > 6) := by omega
      cases q <;> simp [e1, e2, h1, h6]
    · have e1 : ¬ ((l.length : Int) < 1) := by omega
      have e2 : ((l.length : Int) > 6) := by omega
      cases q <;> simp [e1, e2, h1, h6]
  · have e1 : ((l.length : Int) < 1) := by omega
    simp [e1, h1]
theorem impl_prices (l : List (List Int)) (hb : l.length ≤ 1099511627776) (hi : ∀ j (h : j < l.length), l[j].length ≤ 1048576) : Ev (fun k => impl_GoodPrices.f k l) (goodPrices l) := by
  have key : ∀ (i : Nat), i < l.length → ∀ (x : List Int), x.length ≤ 1048576 → ∀ (d j : Nat), j + d = x.length →
      ((List.range' j d).all (fun j => decide (0 ≤ rd x (j : Int) ∧ rd x (j : Int) ≤ 100000)) = false → Ev (fun k => impl_GoodPrices.l1 k (l.length : Int) l (l.length : Int) (i : Int) x (x.length : Int) (j : Int)) false) ∧
      ((List.range' j d).all (fun j => decide (0 ≤ rd x (j : Int) ∧ rd x (j : Int) ≤ 100000)) = true → ∀ r, Ev (fun k => impl_GoodPrices.l0 k (l.length : Int) l (l.length : Int) ((i + 1 : Nat) : Int)) r → Ev (fun k => impl_GoodPrices.l1 k (l.length : Int) l (l.length : Int) (i : Int) x (x.length : Int) (j : Int)) r) := by
    intro i hlt x hx d
    induction d with
    | zero =>
      intro j hj
      obtain rfl : j = x.length := by omega
      refine ⟨fun h => by simp at h, fun _ r hr => Ev.back 1 0 (fun k _ => ?_) hr⟩
      have h1 : ¬ ((x.length : Int) < (x.length : Int)) := by omega
      simp only [impl_GoodPrices.l1, h1, if_false, wrap_succ i (by omega)]
    | succ d ih =>
      intro j hj
      have h1 : (j : Int) < (x.length : Int) := by omega
      have h2 : (0 : Int) ≤ (j : Int) := by omega
      rw [List.range'_succ, List.all_cons]
      by_cases hc : 0 ≤ rd x (j : Int) ∧ rd x (j : Int) ≤ 100000
      · have e : ∀ k, impl_GoodPrices.l1 (k + 1) (l.length : Int) l (l.length : Int) (i : Int) x (x.length : Int) (j : Int) = impl_GoodPrices.l1 k (l.length : Int) l (l.length : Int) (i : Int) x (x.length : Int) ((j + 1 : Nat) : Int) := by
          intro k
          simp only [impl_GoodPrices.l1, h1, h2, if_true, between_eq, Option.bind_some, hc, and_self, decide_true, wrap_succ j (by omega)]
        rw [decide_eq_true hc, Bool.true_and]
        exact ⟨fun h => Ev.back 1 0 (fun k _ => e k) ((ih (j + 1) (by omega)).1 h), fun h r hr => Ev.back 1 0 (fun k _ => e k) ((ih (j + 1) (by omega)).2 h r hr)⟩
      · rw [decide_eq_false hc, Bool.false_and]
        refine ⟨fun _ => Ev.at 1 0 (fun k _ => ?_), fun h => by cases h⟩
        simp only [impl_GoodPrices.l1, h1, h2, if_true, between_eq, Option.bind_some, decide_eq_false hc, Bool.false_eq_true, if_false]
  have hl := all_loop2 (fun k i => impl_GoodPrices.l0 k (l.length : Int) l (l.length : Int) i) l.length (fun i => okRow (rd_L1 l (i : Int)) l.length) (decide (1 ≤ l.length ∧ l.length ≤ 6)) false
    (Ev.at 1 0 (fun k _ => by
      have h1 : ¬ ((l.length : Int) < (l.length : Int)) := by omega
      simp only [impl_GoodPrices.l0, h1, if_false, between_eq, Option.bind_some, Option.some.injEq]
      apply decide_eq_decide.2
      omega))
    (fun i hlt hp r hr => by
      have h1 : (i : Int) < (l.length : Int) := by omega
      have h2 : (0 : Int) ≤ (i : Int) := by omega
      have h4 : rd_L1 l (i : Int) = l[i] := by simp [rd_L1, hlt]
      have hb' := hi i hlt
      simp only [okRow, Bool.and_eq_true, decide_eq_true_eq] at hp
      have := (key i hlt (rd_L1 l (i : Int)) (by rw [h4]; exact hb') _ 0 (Nat.zero_add _)).2 (by rw [← List.range_eq_range']; exact hp.2) r hr
      refine Ev.back 1 0 (fun k _ => ?_) this
      simp only [impl_GoodPrices.l0, h1, h2, if_true]
      rw [if_pos (by omega)]
      rfl)
    (fun i hlt hp => by
      have h1 : (i : Int) < (l.length : Int) := by omega
      have h2 : (0 : Int) ≤ (i : Int) := by omega
      have h4 : rd_L1 l (i : Int) = l[i] := by simp [rd_L1, hlt]
      have hb' := hi i hlt
      by_cases hlen : (rd_L1 l (i : Int)).length = l.length
      · have hp2 : (List.range (rd_L1 l (i : Int)).length).all (fun j => decide (0 ≤ rd (rd_L1 l (i : Int)) (j : Int) ∧ rd (rd_L1 l (i : Int)) (j : Int) ≤ 100000)) = false := by
          simp only [okRow, decide_eq_true hlen, Bool.true_and] at hp
          exact hp
        have := (key i hlt (rd_L1 l (i : Int)) (by rw [h4]; exact hb') _ 0 (Nat.zero_add _)).1 (by rw [← List.range_eq_range']; exact hp2)
        refine Ev.back 1 0 (fun k _ => ?_) this
        simp only [impl_GoodPrices.l0, h1, h2, if_true]
        rw [if_pos (by omega)]
        rfl
      · refine Ev.at 1 0 (fun k _ => ?_)
        simp only [impl_GoodPrices.l0, h1, h2, if_true]
        rw [if_neg (by omega)])
  have e : (if (List.range l.length).all (fun (i : Nat) => okRow (rd_L1 l (i : Int)) l.length) = true then decide (1 ≤ l.length ∧ l.length ≤ 6) else false) = goodPrices l := by
    unfold goodPrices
    cases (List.range l.length).all (fun (i : Nat) => okRow (rd_L1 l (i : Int)) l.length) <;> simp
  rw [e] at hl
  exact hl
def whoAt (w : List Int) (i : Nat) : Bool := decide (0 ≤ rd w (i : Int) ∧ rd w (i : Int) ≤ (w.length : Int) - 1) && !(w.take i).contains (rd w (i : Int))
def goodWho (w : List Int) (n : Nat) : Bool := decide (w.length = n) && (List.range w.length).all (whoAt w)
theorem take_mem_succ (w : List Int) (i : Nat) (h : i < w.length) (x : Int) : x ∈ w.take (i + 1) ↔ (x ∈ w.take i ∨ x = rd w (i : Int)) := by
  rw [List.take_succ_eq_append_getElem h, List.mem_append, List.mem_singleton, rd_get w i h]
theorem contains_ev (l : List Int) (a : Int) (hb : l.length ≤ 1099511627776) : Ev (fun k => slices_Contains_int_int.f k l a) (l.contains a) := by
  obtain ⟨r, hp, h⟩ := one_while (fun k (s : Int) => slices_Index_int_int.l0 k l a (l.length : Int) s) (fun d s => ∃ i : Nat, s = (i : Int) ∧ i + d = l.length ∧ a ∉ l.take i) (fun r => (r ≥ 0 ↔ a ∈ l))
    (by
      rintro d s ⟨i, rfl, hd, hno⟩
      by_cases hi : i < l.length
      · have h1 : (i : Int) < (l.length : Int) := by omega
        have h2 : (0 : Int) ≤ (i : Int) := by omega
        by_cases he : a = rd l (i : Int)
        · left
          refine ⟨(i : Int), ⟨fun _ => ?_, fun _ => by omega⟩, Ev.at 1 0 (fun k _ => ?_)⟩
          · rw [he, rd_get l i hi]
            exact List.getElem_mem _
          · simp only [slices_Index_int_int.l0, h1, h2, if_true]
            rw [if_pos he]
        · right
          refine ⟨d - 1, ((i + 1 : Nat) : Int), by omega, ⟨i + 1, rfl, by omega, ?_⟩, fun r hr => Ev.back 1 0 (fun k _ => ?_) hr⟩
          · rw [take_mem_succ l i hi]
            rintro (h | h)
            · exact hno h
            · exact he h
          · simp only [slices_Index_int_int.l0, h1, h2, if_true, wrap_succ i (by omega)]
            rw [if_neg he]
      · left
        have h1 : ¬ (i : Int) < (l.length : Int) := by omega
        rw [List.take_of_length_le (by omega)] at hno
        exact ⟨-1, ⟨fun h => by omega, fun h => absurd h hno⟩, Ev.at 1 0 (fun k _ => by simp only [slices_Index_int_int.l0, h1, if_false])⟩) l.length 0 ⟨0, rfl, by omega, by simp⟩
  obtain ⟨K, hK⟩ := h
  refine ⟨K, fun k hk => ?_⟩
  have h' := hK k hk
  simp only at h'
  simp only [slices_Contains_int_int.f, slices_Index_int_int.f, h', Option.bind_some, Option.some.injEq]
  rw [Bool.eq_iff_iff, decide_eq_true_eq, hp, List.contains_iff_mem]
theorem impl_who (p : List (List Int)) (w : List Int) (hb : p.length ≤ 1048576) (hi : ∀ j (h : j < p.length), p[j].length ≤ 1048576) (hw : w.length ≤ 1048576) :
    Ev (fun k => impl_goodWho.f k p w) (goodPrices p && goodWho w p.length) := by
  have hl := all_loop2 (fun k i => impl_goodWho.l0 k w w (w.length : Int) i) w.length (whoAt w) true false
    (Ev.at 1 0 (fun k _ => by simp [impl_goodWho.l0]))
    (fun i hlt hp r hr => by
      have h1 : (i : Int) < (w.length : Int) := by omega
      have h2 : (0 : Int) ≤ (i : Int) := by omega
      have h3 : (i : Int) ≤ (w.length : Int) := by omega
      simp only [whoAt, Bool.and_eq_true, Bool.not_eq_true', decide_eq_true_eq] at hp
      obtain ⟨K, hK⟩ := contains_ev (w.take i) (rd w (i : Int)) (by rw [List.length_take]; omega)
      refine Ev.back 1 K (fun k hk => ?_) hr
      have h5 := hK k hk
      simp only at h5
      rw [hp.2] at h5
      have hwr : wrap64 ((w.length : Int) - 1) = (w.length : Int) - 1 := wrap_in (by omega) (by omega)
      simp only [impl_goodWho.l0, h1, h2, h3, if_true, between_eq, Option.bind_some, hwr, hp.1, and_self, decide_true, toNat_i, h5, Bool.false_eq_true, if_false, wrap_succ i (by omega)])
    (fun i hlt hp => by
      have h1 : (i : Int) < (w.length : Int) := by omega
      have h2 : (0 : Int) ≤ (i : Int) := by omega
      have h3 : (i : Int) ≤ (w.length : Int) := by omega
      obtain ⟨K, hK⟩ := contains_ev (w.take i) (rd w (i : Int)) (by rw [List.length_take]; omega)
      refine Ev.at 1 K (fun k hk => ?_)
      have h5 := hK k hk
      simp only at h5
      have hwr : wrap64 ((w.length : Int) - 1) = (w.length : Int) - 1 := wrap_in (by omega) (by omega)
      simp only [impl_goodWho.l0, h1, h2, h3, if_true, between_eq, Option.bind_some, hwr, toNat_i, h5]
      simp only [whoAt] at hp
      cases hd : decide (0 ≤ rd w (i : Int) ∧ rd w (i : Int) ≤ (w.length : Int) - 1) with
      | false => simp
      | true =>
        rw [hd, Bool.true_and, Bool.not_eq_false'] at hp
        simp only [hp, if_true])
  obtain ⟨K1, h1⟩ := impl_prices p (by omega) hi
  obtain ⟨K2, h2⟩ := hl
  refine ⟨K1 + K2 + 1, fun k hk => ?_⟩
  obtain ⟨m, rfl⟩ : ∃ m, k = m + 1 := ⟨k - 1, by omega⟩
  have h1' := h1 (m + 1) (by omega)
  have h2' := h2 m (by omega)
  simp only at h1' h2'
  simp only [impl_goodWho.f, h1', Option.bind_some, impl_goodWho.j0, if_true, h2', goodWho]
  generalize (List.range w.length).all (whoAt w) = q
  cases goodPrices p with
  | false => simp
  | true =>
    by_cases e : w.length = p.length
    · have e' : ((w.length : Int) != (p.length : Int)) = false := by simp; omega
      rw [e', decide_eq_true e]
      cases q <;> simp
    · have e' : ((w.length : Int) != (p.length : Int)) = true := by simp; omega
      rw [e', decide_eq_false e]
      simp
theorem spec_who (w : List Int) (n : Nat) (hn : n ≤ 1048576) (hw : w.length ≤ 1048576) : Ev (fun k => spec_l27Who.f k w (n : Int)) (goodWho w n) := by
  by_cases e : w.length = n
  · subst e
    obtain ⟨r, hp, h⟩ := one_while (fun k (s : List Bool × Int) => spec_l27Who.l0 k (w.length : Int) s.1 w (w.length : Int) s.2)
      (fun d s => ∃ i : Nat, s.2 = (i : Int) ∧ i + d = w.length ∧ s.1.length = w.length ∧ (∀ j : Nat, j < w.length → (s.1.getD j false = true ↔ (j : Int) ∈ w.take i)) ∧ ∀ j, j < i → whoAt w j = true)
      (fun r => r = (List.range w.length).all (whoAt w))
      (by
        rintro d ⟨s, z⟩ ⟨i, hz, hd, hlen, hhad, hall⟩
        obtain rfl : z = (i : Int) := hz
        simp only at hlen hhad
        by_cases hi : i < w.length
        · have h1 : (i : Int) < (w.length : Int) := by omega
          have h2 : (0 : Int) ≤ (i : Int) := by omega
          have no : whoAt w i = false → (false = (List.range w.length).all (whoAt w)) := by
            intro hf
            symm
            rw [List.all_eq_false]
            exact ⟨i, List.mem_range.2 hi, by simp [hf]⟩
          by_cases hr : 0 ≤ rd w (i : Int) ∧ rd w (i : Int) ≤ (w.length : Int) - 1
          · have h3 : ¬ (rd w (i : Int) < 0) := by omega
            have h4 : ¬ (rd w (i : Int) ≥ (w.length : Int)) := by omega
            have h5 : (rd w (i : Int) < (s.length : Int)) := by omega
            have h6 : rdOf false s (rd w (i : Int)) = s.getD (rd w (i : Int)).toNat false := rfl
            have hh := hhad (rd w (i : Int)).toNat (by omega)
            rw [show (((rd w (i : Int)).toNat : Nat) : Int) = rd w (i : Int) by omega] at hh
            cases hb : s.getD (rd w (i : Int)).toNat false with
            | true =>
              left
              refine ⟨false, no ?_, Ev.at 1 0 (fun k _ => ?_)⟩
              · have := hh.1 hb
                simp only [whoAt]
                rw [List.contains_iff_mem.2 this]
                simp
              · simp only [spec_l27Who.l0, h1, h2, if_true, h3, h4, if_false, hr.1, h5, h6, hb]
            | false =>
              right
              have hnot : rd w (i : Int) ∉ w.take i := fun h => by
                rw [hh.2 h] at hb
                cases hb
              refine ⟨d - 1, (s.set (rd w (i : Int)).toNat true, ((i + 1 : Nat) : Int)), by omega, ⟨i + 1, rfl, by omega, by simp only [List.length_set]; exact hlen, fun j hj => ?_, fun j hj => ?_⟩, fun r hr' => Ev.back 1 0 (fun k _ => ?_) hr'⟩
              · simp only
                rw [take_mem_succ w i hi, ← hhad j hj]
                by_cases ej : (rd w (i : Int)).toNat = j
                · subst ej
                  rw [List.getD_eq_getElem?_getD, List.getElem?_set_self (by omega)]
                  simp
                  omega
                · rw [List.getD_eq_getElem?_getD, List.getElem?_set_ne ej, ← List.getD_eq_getElem?_getD]
                  constructor
                  · exact .inl
                  · rintro (h | h)
                    · exact h
                    · exfalso; omega
              · by_cases ej : j = i
                · subst ej
                  simp only [whoAt, Bool.and_eq_true, Bool.not_eq_true', decide_eq_true_eq]
                  refine ⟨hr, ?_⟩
                  rw [← Bool.not_eq_true, List.contains_iff_mem]
                  exact hnot
                · exact hall j (by omega)
              · simp only [spec_l27Who.l0, h1, h2, if_true, h3, h4, if_false, hr.1, h5, h6, hb, Bool.false_eq_true, wrap_succ i (by omega)]
          · left
            refine ⟨false, no ?_, Ev.at 1 0 (fun k _ => ?_)⟩
            · simp only [whoAt]
              rw [decide_eq_false hr]
              simp
            · simp only [spec_l27Who.l0, h1, h2, if_true]
              split
              · rfl
              · rw [if_pos (by omega)]
        · left
          have h1 : ¬ (i : Int) < (w.length : Int) := by omega
          refine ⟨true, ?_, Ev.at 1 0 (fun k _ => by simp only [spec_l27Who.l0, h1, if_false])⟩
          symm
          rw [range_all]
          exact fun j hj => hall j (by omega)) w.length (List.replicate w.length false, 0)
      ⟨0, rfl, by omega, by simp, fun j hj => by simp [List.getD_eq_getElem?_getD, List.getElem?_replicate, hj], fun j hj => by omega⟩
    subst hp
    refine Ev.congr (fun k => ?_) (r := goodWho w w.length) (f := fun k => spec_l27Who.l0 k (w.length : Int) (List.replicate w.length false) w (w.length : Int) 0) ?_
    · have h5 : w.length ≤ 100000000 := by omega
      simp only [spec_l27Who.f, toNat_i, if_true]
      rw [if_pos (by omega), if_pos (by omega)]
    · have e2 : goodWho w w.length = (List.range w.length).all (whoAt w) := by simp [goodWho]
      rw [e2]
      exact h
  · refine ⟨0, fun k _ => ?_⟩
    have e' : ¬ ((w.length : Int) = (n : Int)) := by omega
    simp only [spec_l27Who.f, e', if_false, goodWho, decide_eq_false e, Bool.false_and]
theorem prices_row (p : List (List Int)) (h : goodPrices p = true) (i : Nat) (hi : i < p.length) : (rd_L1 p (i : Int)).length = p.length ∧ ∀ j : Nat, j < p.length → 0 ≤ rd (rd_L1 p (i : Int)) (j : Int) ∧ rd (rd_L1 p (i : Int)) (j : Int) ≤ 100000 := by
  simp only [goodPrices, Bool.and_eq_true, range_all] at h
  have := h.2 i hi
  simp only [okRow, Bool.and_eq_true, decide_eq_true_eq, range_all] at this
  exact ⟨this.1, fun j hj => this.2 j (by omega)⟩
theorem prices_len (p : List (List Int)) (h : goodPrices p = true) : 1 ≤ p.length ∧ p.length ≤ 6 := by
  simp only [goodPrices, Bool.and_eq_true, decide_eq_true_eq] at h
  exact h.1
theorem who_at (w : List Int) (n : Nat) (h : goodWho w n = true) : w.length = n ∧ ∀ i : Nat, i < n → 0 ≤ rd w (i : Int) ∧ rd w (i : Int) < (n : Int) ∧ rd w (i : Int) ∉ w.take i := by
  simp only [goodWho, Bool.and_eq_true, decide_eq_true_eq, range_all] at h
  refine ⟨h.1, fun i hi => ?_⟩
  have := h.2 i (by omega)
  simp only [whoAt, Bool.and_eq_true, decide_eq_true_eq, Bool.not_eq_true'] at this
  refine ⟨this.1.1, by omega, fun hm => ?_⟩
  rw [List.contains_iff_mem.2 hm] at this
  simp at this
/-- What an assignment costs. -/
theorem wraps_u64 (n : Int) (h₀ : 0 ≤ n) (h₁ : n < 2 ^ 64) : IntKind.u64.wrap n = n := by rw [IntKind.wrap_u64]; omega
theorem u64_rng (n : Int) : 0 ≤ IntKind.u64.wrap n ∧ IntKind.u64.wrap n < 18446744073709551616 := by rw [IntKind.wrap_u64]; omega
theorem u64_and255 (x : Int) (h₀ : 0 ≤ x) (h₁ : x < 2 ^ 64) : Go.bits .and .u64 x 255 = x % 256 := bits_mask .u64 64 (by decide) wraps_u64 8 (by decide) x h₀ h₁
/-- The bytes that the draws read. -/
def Bytes (c : List Int) : Prop := ∀ x ∈ c, 0 ≤ x ∧ x ≤ 255
theorem bytes_rd (c : List Int) (h : Bytes c) (i : Int) : 0 ≤ rd c i ∧ rd c i ≤ 255 := by
  unfold rd
  rw [List.getD_eq_getElem?_getD]
  by_cases hi : i.toNat < c.length
  · rw [List.getElem?_eq_getElem hi]
    exact h _ (List.getElem_mem _)
  · rw [List.getElem?_eq_none (by omega)]
    simp
theorem seed_byte (u : Int) : 0 ≤ wrap64 (Go.bits .and .u64 ((IntKind.u64.wrap u) / 1099511627776) 255) ∧ wrap64 (Go.bits .and .u64 ((IntKind.u64.wrap u) / 1099511627776) 255) ≤ 255 := by
  have h := u64_rng u
  have h1 : 0 ≤ (IntKind.u64.wrap u) / 1099511627776 := by omega
  have h2 : (IntKind.u64.wrap u) / 1099511627776 < 2 ^ 64 := by omega
  rw [u64_and255 _ h1 h2, wrap_in (by omega) (by omega)]
  omega
theorem next_ok (c : List Int) (hc : Bytes c) (a s : Int) (h0 : 0 ≤ a) (h1 : a < 4611686018427387904) : ∃ r s', spec_l1Cur_next.f c a s = some (r, a + 1, s') ∧ 0 ≤ r ∧ r ≤ 255 := by
  have hw : wrap64 (a + 1) = a + 1 := wrap_in (by omega) (by omega)
  have hb := bytes_rd c hc a
  have hwb : wrap64 (rd c a) = rd c a := wrap_in (by omega) (by omega)
  unfold spec_l1Cur_next.f
  simp only [hw, h0, if_true]
  split
  · split
    · exact ⟨_, _, rfl, by omega, by omega⟩
    · exact ⟨_, _, rfl, seed_byte _⟩
  · split
    · exact ⟨_, _, rfl, by omega, by omega⟩
    · exact ⟨_, _, rfl, seed_byte _⟩
theorem pick_ok (c : List Int) (hc : Bytes c) (a s n : Int) (h0 : 0 ≤ a) (h1 : a < 4611686018427387900) (hn : n < 9223372036854775808) :
    ∃ r a' s', spec_l1Cur_pick.f c a s n = some (r, a', s') ∧ 0 ≤ r ∧ (r < n ∨ r = 0) ∧ a ≤ a' ∧ a' ≤ a + 2 := by
  unfold spec_l1Cur_pick.f
  split
  · exact ⟨0, a, s, rfl, by omega, by omega, by omega, by omega⟩
  · obtain ⟨r1, s1, e1, h2, h3⟩ := next_ok c hc a s h0 (by omega)
    rw [e1]
    simp only [Option.bind_some]
    split
    · obtain ⟨r2, s2, e2, h4, h5⟩ := next_ok c hc (a + 1) s1 (by omega) (by omega)
      rw [e2]
      simp only [Option.bind_some]
      rw [if_neg (by omega)]
      have w1 : wrap64 (r1 * 256) = r1 * 256 := wrap_in (by omega) (by omega)
      have w2 : wrap64 (r1 * 256 + r2) = r1 * 256 + r2 := wrap_in (by omega) (by omega)
      rw [w1, w2]
      refine ⟨_, _, _, rfl, ?_, ?_, by omega, by omega⟩
      · rw [Int.tmod_eq_emod_of_nonneg (by omega)]
        exact Int.emod_nonneg _ (by omega)
      · rw [Int.tmod_eq_emod_of_nonneg (by omega)]
        exact .inl (Int.emod_lt_of_pos _ (by omega))
    · rw [if_neg (by omega)]
      refine ⟨_, _, _, rfl, ?_, ?_, by omega, by omega⟩
      · rw [Int.tmod_eq_emod_of_nonneg (by omega)]
        exact Int.emod_nonneg _ (by omega)
      · rw [Int.tmod_eq_emod_of_nonneg (by omega)]
        exact .inl (Int.emod_lt_of_pos _ (by omega))
theorem wrap_lt (n : Int) : wrap64 n < 9223372036854775808 := by unfold wrap64; omega
theorem among_ok (c : List Int) (hc : Bytes c) (a s : Int) (l : List Int) (hl : 0 < l.length) (hl2 : l.length < 1000000) (h0 : 0 ≤ a) (h1 : a < 4611686018427387900) : ∃ r a' s', spec_l1Cur_among.f c a s l = some (r, a', s') ∧ r ∈ l ∧ a ≤ a' ∧ a' ≤ a + 2 := by
  obtain ⟨r, a', s', e, h2, h3, h4, h5⟩ := pick_ok c hc a s (l.length : Int) h0 h1 (by omega)
  have h6 : r < (l.length : Int) := by omega
  have h7 : rd l r ∈ l := by
    rw [show r = ((r.toNat : Nat) : Int) by omega, rd_get l r.toNat (by omega)]
    exact List.getElem_mem _
  refine ⟨rd l r, a', s', ?_, h7, h4, h5⟩
  simp only [spec_l1Cur_among.f, e, Option.bind_some, h2, h6, if_true]
theorem one_ok2 (c : List Int) (hc : Bytes c) (a s n : Int) (h0 : 0 ≤ a) (h1 : a < 4611686018427387900) (hn : n < 9223372036854775808) :
    ∃ (b : Bool) (a' s' : Int), spec_l1Cur_one.f c a s n = some (b, a', s') ∧ a ≤ a' ∧ a' ≤ a + 2 := by
  obtain ⟨r, a1, s1, e, p, q, m1, m2⟩ := pick_ok c hc a s n h0 h1 hn
  exact ⟨(r == 0), a1, s1, by simp only [spec_l1Cur_one.f, e, Option.bind_some], m1, m2⟩
theorem rdL (L : List (List Int)) (i : Nat) (h : i < L.length) : rd_L1 L (i : Int) = L[i] := by simp [rd_L1, h]
def PricesPost (R : (List (List Int)) × Int × Int) : Prop := R.1.length ≤ 8 ∧ (∀ x ∈ R.1, x.length ≤ 8) ∧ 0 ≤ R.2.1 ∧ R.2.1 ≤ 2000
theorem prices_inner (c : List Int) (hc : Bytes c) (n : Nat) (hn : n ≤ 7) (most : Int) (hm : 0 ≤ most ∧ most ≤ 100000) (i : Nat) (hi : i < n) (L : List (List Int)) (hL : L.length = i)
    (next : ∀ (row : List Int) (a s : Int), row.length = n → 0 ≤ a → a ≤ 1000 + 20 * ((i + 1 : Nat) : Int) → ∃ R, PricesPost R ∧ Ev (fun k => spec_l1Cur_prices.l0 k (n : Int) (L ++ [row]) most ((i + 1 : Nat) : Int) c a s) R) :
    ∀ (d : Nat) (x : List Int) (a s : Int), x.length + d = n → 0 ≤ a → a ≤ 1000 + 20 * (i : Int) + 2 * (x.length : Int) → ∃ R, PricesPost R ∧ Ev (fun k => spec_l1Cur_prices.l1 k (n : Int) L most (i : Int) x (x.length : Int) c a s) R := by
  intro d
  induction d with
  | zero =>
    intro x a s hd h0 h1
    obtain ⟨R, hR, he⟩ := next x a s (by omega) h0 (by omega)
    refine ⟨R, hR, Ev.step (fun k => ?_) he⟩
    have e : wrap64 ((i : Int) + 1) = ((i + 1 : Nat) : Int) := wrap_succ i (by omega)
    have c0 : ¬ ((x.length : Int) < (n : Int)) := by omega
    have c1 : L.length < 5864062014805 := Nat.lt_of_le_of_lt (show L.length ≤ 8 by omega) (by decide)
    simp only [spec_l1Cur_prices.l1, c0, c1, if_true, if_false, e]
  | succ d ih =>
    intro x a s hd h0 h1
    have hx7 : x.length ≤ 7 := by omega
    have w : wrap64 (most + 1) = most + 1 := wrap_in (by omega) (by omega)
    obtain ⟨r, a1, s1, e1, p1, q1, m1, n1⟩ := pick_ok c hc a s (most + 1) h0 (by omega) (by omega)
    have hlen : (x ++ [r]).length = x.length + 1 := by simp
    obtain ⟨R, hR, he⟩ := ih (x ++ [r]) a1 s1 (by omega) (by omega) (by omega)
    refine ⟨R, hR, Ev.step (fun k => ?_) he⟩
    have e : wrap64 ((x.length : Int) + 1) = (((x ++ [r]).length : Nat) : Int) := by rw [hlen]; exact wrap_succ _ (by omega)
    have c0 : ((x.length : Int) < (n : Int)) := by omega
    have c1 : x.length < 17592186044416 := Nat.lt_of_le_of_lt hx7 (by decide)
    simp only [spec_l1Cur_prices.l1, c0, c1, if_true, w, e1, Option.bind_some, e]
theorem prices_outer (c : List Int) (hc : Bytes c) (n : Nat) (hn : n ≤ 7) (most : Int) (hm : 0 ≤ most ∧ most ≤ 100000) :
    ∀ (d i : Nat) (L : List (List Int)) (a s : Int), i + d = n → L.length = i → (∀ x ∈ L, x.length = n) → 0 ≤ a → a ≤ 1000 + 20 * (i : Int) → ∃ R, PricesPost R ∧ Ev (fun k => spec_l1Cur_prices.l0 k (n : Int) L most (i : Int) c a s) R := by
  intro d
  induction d with
  | zero =>
    intro i L a s hd hL hrow h0 h1
    obtain ⟨r, a1, s1, e1, p1, q1, m1, n1⟩ := pick_ok c hc a s 24 h0 (by omega) (by omega)
    have c0 : ¬ ((i : Int) < (n : Int)) := by omega
    have same : PricesPost (L, a1, s1) := ⟨by show L.length ≤ 8; omega, fun x hx => by have := hrow x hx; omega, by show 0 ≤ a1; omega, by show a1 ≤ 2000; omega⟩
    by_cases g0 : r = 0
    · by_cases hn0 : (n : Int) > 0
      · obtain ⟨v, a2, s2, e2, hv, m2, n2⟩ := among_ok c hc a1 s1 [(-1), 100001] (by decide) (by decide) (by omega) (by omega)
        have hl0 : 0 < L.length := by omega
        have hr0 : rd_L1 L 0 = L[0] := rdL L 0 hl0
        have hr1 : (L[0]).length = n := hrow _ (List.getElem_mem hl0)
        refine ⟨(L.set 0 ((L[0]).set 0 v), a2, s2), ⟨by show (L.set 0 _).length ≤ 8; rw [List.length_set]; omega, fun x hx => ?_, by show 0 ≤ a2; omega, by show a2 ≤ 2000; omega⟩, Ev.next ⟨0, fun k _ => ?_⟩⟩
        · rcases List.mem_or_eq_of_mem_set hx with hx | rfl
          · have := hrow x hx; omega
          · rw [List.length_set]; omega
        · have c1 : (0 : Int) < (L.length : Int) := by omega
          have c2 : (0 : Int) < ((L[0]).length : Int) := by omega
          have t0 : ((0 : Int)).toNat = 0 := rfl
          simp only [spec_l1Cur_prices.l0, c0, if_false, e1, Option.bind_some, g0, if_true, hn0, c1, e2, hr0, c2, t0]
      · refine ⟨(L, a1, s1), same, Ev.next ⟨0, fun k _ => ?_⟩⟩
        simp only [spec_l1Cur_prices.l0, c0, if_false, e1, Option.bind_some, g0, if_true, hn0]
    · by_cases g1 : r = 1
      · have g10 : ¬ ((1 : Int) = 0) := by decide
        by_cases hn0 : (n : Int) > 0
        · have hl0 : 0 < L.length := by omega
          have hr0 : rd_L1 L 0 = L[0] := rdL L 0 hl0
          have hr1 : (L[0]).length = n := hrow _ (List.getElem_mem hl0)
          refine ⟨(L.set 0 (L[0] ++ [1]), a1, s1), ⟨by show (L.set 0 _).length ≤ 8; rw [List.length_set]; omega, fun x hx => ?_, by show 0 ≤ a1; omega, by show a1 ≤ 2000; omega⟩, Ev.next ⟨0, fun k _ => ?_⟩⟩
          · rcases List.mem_or_eq_of_mem_set hx with hx | rfl
            · have := hrow x hx; omega
            · rw [List.length_append, List.length_singleton]; omega
          · have c1 : (0 : Int) < (L.length : Int) := by omega
            have c2 : (L[0]).length < 17592186044416 := Nat.lt_of_le_of_lt (show (L[0]).length ≤ 8 by omega) (by decide)
            have t0 : ((0 : Int)).toNat = 0 := rfl
            simp only [spec_l1Cur_prices.l0, c0, if_false, e1, Option.bind_some, g1, g10, if_true, hn0, c1, hr0, c2, t0]
        · refine ⟨(L, a1, s1), same, Ev.next ⟨0, fun k _ => ?_⟩⟩
          simp only [spec_l1Cur_prices.l0, c0, if_false, e1, Option.bind_some, g1, g10, if_true, hn0]
      · refine ⟨(L, a1, s1), same, Ev.next ⟨0, fun k _ => ?_⟩⟩
        simp only [spec_l1Cur_prices.l0, c0, if_false, e1, Option.bind_some, g0, g1]
  | succ d ih =>
    intro i L a s hd hL hrow h0 h1
    have c0 : ((i : Int) < (n : Int)) := by omega
    obtain ⟨R, hR, he⟩ := prices_inner c hc n hn most hm i (by omega) L hL (fun row a s hrl ha0 ha1 => ih (i + 1) (L ++ [row]) a s (by omega) (by rw [List.length_append, List.length_singleton, hL]) (fun x hx => by
      rcases List.mem_append.1 hx with hx | hx
      · exact hrow x hx
      · rw [List.mem_singleton] at hx; rw [hx]; exact hrl) ha0 ha1) n [] a s (by simp) h0 (by simp; omega)
    refine ⟨R, hR, Ev.step (fun k => ?_) he⟩
    simp only [spec_l1Cur_prices.l0, c0, if_true]
    rfl
theorem prices_j0 (c : List Int) (hc : Bytes c) (n : Nat) (hn : n ≤ 7) (a s : Int) (h0 : 0 ≤ a) (h1 : a ≤ 900) : ∃ R, PricesPost R ∧ Ev (fun k => spec_l1Cur_prices.j0 k (n : Int) c a s) R := by
  obtain ⟨v, a2, s2, e2, hv, m2, n2⟩ := among_ok c hc a s [4, 20, 100000] (by decide) (by decide) (by omega) (by omega)
  have hv2 : 0 ≤ v ∧ v ≤ 100000 := by
    simp only [List.mem_cons, List.mem_nil_iff, or_false] at hv
    omega
  obtain ⟨R, hR, he⟩ := prices_outer c hc n hn v hv2 n 0 [] a2 s2 (by omega) rfl (by simp) (by omega) (by omega)
  refine ⟨R, hR, Ev.next ?_⟩
  simp only [spec_l1Cur_prices.j0, e2, Option.bind_some]
  exact he
theorem prices_draw (c : List Int) (hc : Bytes c) : ∃ R, PricesPost R ∧ Ev (fun k => spec_l1Cur_prices.f k c 0 0) R := by
  obtain ⟨r, a1, s1, e1, p1, q1, m1, n1⟩ := pick_ok c hc 0 0 4 (by omega) (by omega) (by omega)
  obtain ⟨b, a2, s2, e2, m2, n2⟩ := one_ok2 c hc a1 s1 12 (by omega) (by omega) (by omega)
  simp only [spec_l1Cur_prices.f, e1, e2, Option.bind_some]
  cases b with
  | true =>
    obtain ⟨v, a3, s3, e3, hv, m3, n3⟩ := among_ok c hc a2 s2 [0, 6, 7] (by decide) (by decide) (by omega) (by omega)
    obtain ⟨n, rfl⟩ : ∃ n : Nat, v = (n : Int) := ⟨v.toNat, by simp only [List.mem_cons, List.mem_nil_iff, or_false] at hv; omega⟩
    have hn : n ≤ 7 := by simp only [List.mem_cons, List.mem_nil_iff, or_false] at hv; omega
    obtain ⟨R, hR, he⟩ := prices_j0 c hc n hn a3 s3 (by omega) (by omega)
    refine ⟨R, hR, ?_⟩
    simp only [if_true, e3, Option.bind_some]
    exact he
  | false =>
    obtain ⟨n, hn, hn2⟩ : ∃ n : Nat, wrap64 (1 + r) = (n : Int) ∧ n ≤ 7 := ⟨(1 + r).toNat, by rw [wrap_in (by omega) (by omega)]; omega, by omega⟩
    obtain ⟨R, hR, he⟩ := prices_j0 c hc n hn2 a2 s2 (by omega) (by omega)
    refine ⟨R, hR, ?_⟩
    simp only [Bool.false_eq_true, if_false, hn]
    exact he
theorem who_j2 (c : List Int) (hc : Bytes c) (n : Nat) (hn : n ≤ 8) (x : List Int) (hx : x.length = n) (b : Bool) (hb : b = true → 0 < n) (a s : Int) (h0 : 0 ≤ a) (h1 : a ≤ 8000) :
    ∃ (W : List Int) (a' s' : Int), Ev (fun k => spec_l1Cur_who.j2 k (n : Int) x b c a s) (W, a', s') ∧ W.length = n ∧ 0 ≤ a' ∧ a' ≤ 9000 := by
  cases b with
  | true =>
    have hp := hb rfl
    have w : wrap64 ((n : Int) + 1) = (n : Int) + 1 := wrap_in (by omega) (by omega)
    obtain ⟨r, a1, s1, e1, p1, q1, m1, n1⟩ := pick_ok c hc a s ((n : Int) + 1) h0 (by omega) (by omega)
    obtain ⟨r2, a2, s2, e2, p2, q2, m2, n2⟩ := pick_ok c hc a1 s1 2 (by omega) (by omega) (by omega)
    refine ⟨x.set 0 (wrap64 (r - r2)), a2, s2, Ev.next ⟨0, fun k _ => ?_⟩, by rw [List.length_set]; exact hx, by omega, by omega⟩
    have c1 : (0 : Int) < (x.length : Int) := by omega
    have t0 : ((0 : Int)).toNat = 0 := rfl
    simp only [spec_l1Cur_who.j2, if_true, w, e1, e2, Option.bind_some, c1, t0]
  | false =>
    refine ⟨x, a, s, Ev.next ⟨0, fun k _ => ?_⟩, hx, h0, by omega⟩
    simp only [spec_l1Cur_who.j2, Bool.false_eq_true, if_false]
theorem who_l1 (c : List Int) (hc : Bytes c) (n : Nat) (hn : n ≤ 8) : ∀ (d : Nat) (x : List Int) (v a s : Int), x.length = n → v ≤ (d : Int) → v < (n : Int) → -1 ≤ v → d ≤ 8 → 0 ≤ a → a ≤ 7000 - 10 * (d : Int) →
    ∃ (W : List Int) (a' s' : Int), Ev (fun k => spec_l1Cur_who.l1 k (n : Int) x v c a s) (W, a', s') ∧ W.length = n ∧ 0 ≤ a' ∧ a' ≤ 9000 := by
  intro d
  induction d with
  | zero =>
    intro x v a s hx hv hv2 hv3 _ h0 h1
    obtain ⟨b, a1, s1, e1, m1, n1⟩ := one_ok2 c hc a s 24 h0 (by omega) (by omega)
    have c0 : ¬ (v > 0) := by omega
    cases b with
    | true =>
      obtain ⟨W, a', s', he, hW, h2, h3⟩ := who_j2 c hc n hn x hx (decide ((n : Int) > 0)) (fun h => by have := of_decide_eq_true h; omega) a1 s1 (by omega) (by omega)
      refine ⟨W, a', s', Ev.next ?_, hW, h2, h3⟩
      simp only [spec_l1Cur_who.l1, c0, if_false, e1, Option.bind_some, if_true]
      exact he
    | false =>
      obtain ⟨W, a', s', he, hW, h2, h3⟩ := who_j2 c hc n hn x hx false (fun h => by cases h) a1 s1 (by omega) (by omega)
      refine ⟨W, a', s', Ev.next ?_, hW, h2, h3⟩
      simp only [spec_l1Cur_who.l1, c0, if_false, e1, Option.bind_some, Bool.false_eq_true]
      exact he
  | succ d ih =>
    intro x v a s hx hv hv2 hv3 hd h0 h1
    by_cases c0 : v > 0
    · have w : wrap64 (v + 1) = v + 1 := wrap_in (by omega) (by omega)
      have w2 : wrap64 (v - 1) = v - 1 := wrap_in (by omega) (by omega)
      obtain ⟨r, a1, s1, e1, p1, q1, m1, n1⟩ := pick_ok c hc a s (v + 1) h0 (by omega) (by omega)
      obtain ⟨W, a', s', he, hW, h2, h3⟩ := ih ((x.set v.toNat (rd x r)).set r.toNat (rd x v)) (v - 1) a1 s1 (by rw [List.length_set, List.length_set]; exact hx) (by omega) (by omega) (by omega) (by omega) (by omega) (by omega)
      refine ⟨W, a', s', Ev.step (fun k => ?_) he, hW, h2, h3⟩
      have c1 : 0 ≤ v := by omega
      have c2 : v < (x.length : Int) := by omega
      have c3 : r < (x.length : Int) := by omega
      simp only [spec_l1Cur_who.l1, c0, if_true, w, e1, Option.bind_some, c1, c2, p1, c3, w2]
    · exact ih x v a s hx (by omega) hv2 hv3 (by omega) h0 (by omega)
theorem who_l0 (c : List Int) (hc : Bytes c) (n : Nat) (hn : n ≤ 8) : ∀ (d : Nat) (x : List Int) (a s : Int), x.length + d = n → 0 ≤ a → a ≤ 5000 →
    ∃ (W : List Int) (a' s' : Int), Ev (fun k => spec_l1Cur_who.l0 k (n : Int) x (x.length : Int) c a s) (W, a', s') ∧ W.length = n ∧ 0 ≤ a' ∧ a' ≤ 9000 := by
  intro d
  induction d with
  | zero =>
    intro x a s hd h0 h1
    have w : wrap64 ((n : Int) - 1) = (n : Int) - 1 := wrap_in (by omega) (by omega)
    obtain ⟨W, a', s', he, hW, h2, h3⟩ := who_l1 c hc n hn 8 x ((n : Int) - 1) a s (by omega) (by omega) (by omega) (by omega) (by omega) h0 (by omega)
    refine ⟨W, a', s', Ev.step (fun k => ?_) he, hW, h2, h3⟩
    have c0 : ¬ ((x.length : Int) < (n : Int)) := by omega
    simp only [spec_l1Cur_who.l0, c0, if_false, w]
  | succ d ih =>
    intro x a s hd h0 h1
    have hlen : (x ++ [(x.length : Int)]).length = x.length + 1 := by simp
    obtain ⟨W, a', s', he, hW, h2, h3⟩ := ih (x ++ [(x.length : Int)]) a s (by omega) h0 h1
    refine ⟨W, a', s', Ev.step (fun k => ?_) he, hW, h2, h3⟩
    have e : wrap64 ((x.length : Int) + 1) = (((x ++ [(x.length : Int)]).length : Nat) : Int) := by rw [hlen]; exact wrap_succ _ (by omega)
    have c0 : ((x.length : Int) < (n : Int)) := by omega
    have c1 : x.length < 17592186044416 := Nat.lt_of_lt_of_le (show x.length < 9 by omega) (by simp)
    simp only [spec_l1Cur_who.l0, c0, c1, if_true, e]
/-! ### The cheapest assignment, the first of them: a walk over all, told by what is least (of no program) -/
/-- What is left at least, and the first way to it: d robots to come, the tasks S are had; the costs 'c i t'. -/
def lgStep (c : Nat → Nat → Int) (F : List Nat → Int × List Nat) (i : Nat) (S : List Nat) (b : Int × List Nat) (t : Nat) : Int × List Nat :=
  if t ∈ S then b else if b.1 < 0 ∨ c i t + (F (S ++ [t])).1 < b.1 then (c i t + (F (S ++ [t])).1, t :: (F (S ++ [t])).2) else b
def lg (c : Nat → Nat → Int) (n : Nat) : Nat → List Nat → Int × List Nat
  | 0, _ => (0, [])
  | d + 1, S => (List.range n).foldl (lgStep c (lg c n d) S.length S) (-1, [])
def costW (c : Nat → Nat → Int) : Nat → List Nat → Int
  | _, [] => 0
  | i, t :: r => c i t + costW c (i + 1) r
theorem costW_app (c : Nat → Nat → Int) : ∀ (l : List Nat) (i t : Nat), costW c i (l ++ [t]) = costW c i l + c (i + l.length) t
  | [], i, t => by simp [costW]
  | x :: r, i, t => by
    simp only [List.cons_append, costW, costW_app c r, List.length_cons]
    rw [show i + 1 + r.length = i + (r.length + 1) by omega]
    omega
/-- The walk over all: who is chosen so far, the best so far and its cost (below 0: none yet). -/
def tryAll (c : Nat → Nat → Int) (n : Nat) : Nat → List Nat → List Nat × Int → List Nat × Int
  | 0, who, s => if s.2 < 0 ∨ costW c 0 who < s.2 then (who, costW c 0 who) else s
  | d + 1, who, s => (List.range n).foldl (fun s t => if t ∈ who then s else tryAll c n d (who ++ [t]) s) s
def better (who : List Nat) (k : Int) (g : Int × List Nat) (s : List Nat × Int) : List Nat × Int :=
  if s.2 < 0 ∨ k + g.1 < s.2 then (who ++ g.2, k + g.1) else s
theorem lg_nonneg_step (c : Nat → Nat → Int) (F : List Nat → Int × List Nat) (i : Nat) (S : List Nat) (hc : ∀ i t, 0 ≤ c i t) (hF : ∀ t, t ∉ S → 0 ≤ (F (S ++ [t])).1) :
    ∀ (ts : List Nat) (b : Int × List Nat), (0 ≤ b.1 ∨ (∃ t ∈ ts, t ∉ S)) → 0 ≤ (ts.foldl (lgStep c F i S) b).1
  | [], b, h => by
    rcases h with h | ⟨t, ht, _⟩
    · exact h
    · cases ht
  | t :: r, b, h => by
    rw [List.foldl_cons]
    refine lg_nonneg_step c F i S hc hF r _ ?_
    by_cases hs : t ∈ S
    · rw [show lgStep c F i S b t = b by simp [lgStep, hs]]
      rcases h with h | ⟨u, hu, hn⟩
      · exact Or.inl h
      · rcases List.mem_cons.1 hu with rfl | hu
        · exact absurd hs hn
        · exact Or.inr ⟨u, hu, hn⟩
    · refine Or.inl ?_
      have h1 := hc i t
      have h2 := hF t hs
      unfold lgStep
      rw [if_neg hs]
      split
      · show 0 ≤ c i t + (F (S ++ [t])).1; omega
      · rename_i hb; simp only [not_or] at hb; omega
theorem try_step (c : Nat → Nat → Int) (n d : Nat) (who : List Nat) (hc : ∀ i t, 0 ≤ c i t) (hF : ∀ t, t ∉ who → 0 ≤ (lg c n d (who ++ [t])).1)
    (ih : ∀ t, t ∉ who → ∀ s, tryAll c n d (who ++ [t]) s = better (who ++ [t]) (costW c 0 (who ++ [t])) (lg c n d (who ++ [t])) s) (hk : 0 ≤ costW c 0 who) :
    ∀ (ts : List Nat) (b : Int × List Nat) (s0 : List Nat × Int),
      ts.foldl (fun s t => if t ∈ who then s else tryAll c n d (who ++ [t]) s) (if b.1 < 0 then s0 else better who (costW c 0 who) b s0)
        = (if (ts.foldl (lgStep c (lg c n d) who.length who) b).1 < 0 then s0 else better who (costW c 0 who) (ts.foldl (lgStep c (lg c n d) who.length who) b) s0)
  | [], b, s0 => rfl
  | t :: r, b, s0 => by
    rw [List.foldl_cons, List.foldl_cons]
    rw [← try_step c n d who hc hF ih hk r (lgStep c (lg c n d) who.length who b t) s0]
    congr 1
    by_cases hs : t ∈ who
    · rw [if_pos hs, show lgStep c (lg c n d) who.length who b t = b by simp [lgStep, hs]]
    · have h2 := hF t hs
      have h1 := hc who.length t
      rw [if_neg hs, ih t hs, costW_app, Nat.zero_add]
      unfold lgStep
      rw [if_neg hs]
      generalize lg c n d (who ++ [t]) = g at h2 ⊢
      generalize costW c 0 who = k at hk ⊢
      generalize c who.length t = x at h1 ⊢
      obtain ⟨g1, g2⟩ := g
      obtain ⟨b1, b2⟩ := b
      obtain ⟨B, l⟩ := s0
      simp only at h2 ⊢
      by_cases hb : b1 < 0
      · rw [if_pos hb, if_pos (Or.inl hb), if_neg (by simp only; omega)]
        unfold better
        simp only [List.append_assoc, List.singleton_append, Int.add_assoc]
      · rw [if_neg hb]
        by_cases hx : x + g1 < b1
        · rw [if_pos (Or.inr hx), if_neg (by simp only; omega)]
          unfold better
          simp only
          by_cases q : l < 0 ∨ k + b1 < l
          · rw [if_pos q, if_pos (by simp only; omega), if_pos (by omega)]
            simp [Int.add_assoc]
          · rw [if_neg q]
            by_cases q2 : l < 0 ∨ k + x + g1 < l
            · rw [if_pos q2, if_pos (by omega)]
              simp [Int.add_assoc]
            · rw [if_neg q2, if_neg (by omega)]
        · have hq : ¬ (b1 < 0 ∨ x + g1 < b1) := by omega
          rw [if_neg hq, if_neg hb]
          unfold better
          simp only
          by_cases q : l < 0 ∨ k + b1 < l
          · rw [if_pos q, if_neg (by simp only; omega)]
          · rw [if_neg q, if_neg (by omega)]
theorem nodup_len : ∀ (l S : List Nat), l.Nodup → (∀ x ∈ l, x ∈ S) → l.length ≤ S.length
  | [], S, _, _ => Nat.zero_le _
  | x :: r, S, hn, hs => by
    obtain ⟨h1, h2⟩ := List.nodup_cons.1 hn
    have hx := hs x List.mem_cons_self
    have := nodup_len r (S.erase x) h2 (fun y hy => (List.mem_erase_of_ne (fun e => h1 (by rw [← e]; exact hy))).2 (hs y (List.mem_cons_of_mem _ hy)))
    rw [List.length_erase_of_mem hx] at this
    have hp : 0 < S.length := List.length_pos_of_mem hx
    simp only [List.length_cons]
    omega
theorem free_one (n : Nat) (S : List Nat) (h : S.length < n) : ∃ t ∈ List.range n, t ∉ S := by
  by_cases q : ∃ t ∈ List.range n, t ∉ S
  · exact q
  · exfalso
    have := nodup_len (List.range n) S List.nodup_range (fun x hx => by
      by_cases e : x ∈ S
      · exact e
      · exact absurd ⟨x, hx, e⟩ q)
    rw [List.length_range] at this
    omega
theorem lg_nonneg (c : Nat → Nat → Int) (n : Nat) (hc : ∀ i t, 0 ≤ c i t) : ∀ (d : Nat) (S : List Nat), S.length + d = n → 0 ≤ (lg c n d S).1
  | 0, S, _ => by simp [lg]
  | d + 1, S, h => by
    unfold lg
    exact lg_nonneg_step c (lg c n d) S.length S hc (fun t _ => lg_nonneg c n hc d (S ++ [t]) (by simp; omega)) _ _ (Or.inr (free_one n S (by omega)))
theorem cost_nonneg (c : Nat → Nat → Int) (hc : ∀ i t, 0 ≤ c i t) : ∀ (l : List Nat) (i : Nat), 0 ≤ costW c i l
  | [], _ => by simp [costW]
  | t :: r, i => by
    have h1 := hc i t
    have h2 := cost_nonneg c hc r (i + 1)
    simp only [costW]
    omega
/-- The walk over all chooses what is least, and the first of it. -/
theorem try_all (c : Nat → Nat → Int) (n : Nat) (hc : ∀ i t, 0 ≤ c i t) : ∀ (d : Nat) (who : List Nat), who.length + d = n → ∀ s, tryAll c n d who s = better who (costW c 0 who) (lg c n d who) s
  | 0, who, _, s => by
    unfold tryAll better lg
    simp
  | d + 1, who, h, s => by
    have hg := lg_nonneg c n hc (d + 1) who h
    have hst := try_step c n d who hc (fun t _ => lg_nonneg c n hc d (who ++ [t]) (by simp; omega)) (fun t _ s => try_all c n hc d (who ++ [t]) (by simp; omega) s) (cost_nonneg c hc who 0) (List.range n) (-1, []) s
    rw [if_pos (by decide)] at hst
    unfold tryAll
    rw [hst]
    unfold lg at hg ⊢
    rw [if_neg (by omega)]
/-- Of nothing so far: the least cost, and the first way to it. -/
theorem best_all (c : Nat → Nat → Int) (n : Nat) (hc : ∀ i t, 0 ≤ c i t) : tryAll c n n [] ([], -1) = ((lg c n n []).2, (lg c n n []).1) := by
  rw [try_all c n hc n [] (by simp)]
  simp [better, costW]
/-- What 'lg' chooses is the first task that leads to what is least. -/
theorem lg_fold (c : Nat → Nat → Int) (F : List Nat → Int × List Nat) (i : Nat) (S : List Nat) (hc : ∀ i t, 0 ≤ c i t) (hF : ∀ t, t ∉ S → 0 ≤ (F (S ++ [t])).1) : ∀ m : Nat,
    (((List.range m).foldl (lgStep c F i S) (-1, [])).1 < 0 ∧ ∀ u, u < m → u ∈ S) ∨
    ∃ t, t < m ∧ t ∉ S ∧ (List.range m).foldl (lgStep c F i S) (-1, []) = (c i t + (F (S ++ [t])).1, t :: (F (S ++ [t])).2) ∧
      ∀ u, u < m → u ∉ S → c i t + (F (S ++ [t])).1 ≤ c i u + (F (S ++ [u])).1 ∧ (u < t → c i u + (F (S ++ [u])).1 ≠ c i t + (F (S ++ [t])).1)
  | 0 => Or.inl ⟨by simp, fun u hu => absurd hu (Nat.not_lt_zero _)⟩
  | m + 1 => by
    rw [List.range_succ, List.foldl_append, List.foldl_cons, List.foldl_nil]
    have ih := lg_fold c F i S hc hF m
    generalize (List.range m).foldl (lgStep c F i S) (-1, []) = b at ih ⊢
    by_cases hs : m ∈ S
    · rw [show lgStep c F i S b m = b by simp [lgStep, hs]]
      rcases ih with ⟨h1, h2⟩ | ⟨t, ht, hn, hb, hu⟩
      · exact Or.inl ⟨h1, fun u hu => by
          by_cases e : u = m
          · rw [e]; exact hs
          · exact h2 u (by omega)⟩
      · refine Or.inr ⟨t, by omega, hn, hb, fun u hum hus => hu u ?_ hus⟩
        have : u ≠ m := fun e => hus (by rw [e]; exact hs)
        omega
    · have h2 := hF m hs
      have h1 := hc i m
      rcases ih with ⟨hb, hall⟩ | ⟨t, ht, hn, hb, hu⟩
      · refine Or.inr ⟨m, by omega, hs, ?_, fun u hum hus => ?_⟩
        · unfold lgStep
          rw [if_neg hs, if_pos (Or.inl hb)]
        · have : u = m := by
            by_cases e : u = m
            · exact e
            · exact absurd (hall u (by omega)) hus
          subst this
          exact ⟨Int.le_refl _, fun h => absurd h (Nat.lt_irrefl _)⟩
      · have h3 := hF t hn
        have h4 := hc i t
        by_cases hx : c i m + (F (S ++ [m])).1 < c i t + (F (S ++ [t])).1
        · refine Or.inr ⟨m, by omega, hs, ?_, fun u hum hus => ?_⟩
          · unfold lgStep
            rw [if_neg hs, hb, if_pos (Or.inr hx)]
          · by_cases e : u = m
            · subst e; exact ⟨Int.le_refl _, fun h => absurd h (Nat.lt_irrefl _)⟩
            · have := (hu u (by omega) hus).1
              exact ⟨by omega, fun _ => by omega⟩
        · refine Or.inr ⟨t, by omega, hn, ?_, fun u hum hus => ?_⟩
          · unfold lgStep
            rw [if_neg hs, hb, if_neg (by simp only; omega)]
          · by_cases e : u = m
            · subst e; exact ⟨by omega, fun h => by omega⟩
            · exact hu u (by omega) hus
theorem lg_first (c : Nat → Nat → Int) (n : Nat) (hc : ∀ i t, 0 ≤ c i t) (d : Nat) (S : List Nat) (h : S.length + (d + 1) = n) :
    ∃ t, t < n ∧ t ∉ S ∧ lg c n (d + 1) S = (c S.length t + (lg c n d (S ++ [t])).1, t :: (lg c n d (S ++ [t])).2) ∧
      ∀ u, u < n → u ∉ S → u < t → c S.length u + (lg c n d (S ++ [u])).1 ≠ (lg c n (d + 1) S).1 := by
  have hf := lg_fold c (lg c n d) S.length S hc (fun t _ => lg_nonneg c n hc d (S ++ [t]) (by simp; omega)) n
  have he : lg c n (d + 1) S = (List.range n).foldl (lgStep c (lg c n d) S.length S) (-1, []) := rfl
  rcases hf with ⟨h1, h2⟩ | ⟨t, ht, hn, hb, hu⟩
  · obtain ⟨t, ht, hn⟩ := free_one n S (by omega)
    exact absurd (h2 t (List.mem_range.1 ht)) hn
  · refine ⟨t, ht, hn, he.trans hb, fun u hun hus hut => ?_⟩
    rw [he, hb]
    exact (hu u hun hus).2 hut
/-- 'lg' looks at which tasks are had, and at how many, alone. -/
theorem lg_same (c : Nat → Nat → Int) (n : Nat) : ∀ (d : Nat) (S S' : List Nat), S.length = S'.length → (∀ t, t < n → (t ∈ S ↔ t ∈ S')) → lg c n d S = lg c n d S'
  | 0, _, _, _, _ => rfl
  | d + 1, S, S', hl, hm => by
    unfold lg
    have key : ∀ (ts : List Nat), (∀ t ∈ ts, t < n) → ∀ b, ts.foldl (lgStep c (lg c n d) S.length S) b = ts.foldl (lgStep c (lg c n d) S'.length S') b := by
      intro ts
      induction ts with
      | nil => intro _ b; rfl
      | cons t r ih =>
        intro ht b
        rw [List.foldl_cons, List.foldl_cons, ih (fun x hx => ht x (List.mem_cons_of_mem _ hx))]
        congr 1
        have htn := ht t List.mem_cons_self
        have e := lg_same c n d (S ++ [t]) (S' ++ [t]) (by simp [hl]) (fun u hu => by simp [hm u hu])
        unfold lgStep
        rw [e, hl]
        by_cases q : t ∈ S
        · rw [if_pos q, if_pos ((hm t htn).1 q)]
        · rw [if_neg q, if_neg (fun q' => q ((hm t htn).2 q'))]
    exact key _ (fun t ht => List.mem_range.1 ht) _
/-! ### Masks of tasks -/
theorem mask_shr (M t : Nat) (ht : t < 40) : shr .i64 (M : Int) (t : Int) = ((M / 2 ^ t : Nat) : Int) := by
  unfold shr
  have : min ((t : Int)).toNat IntKind.i64.bits = t := by simp [IntKind.bits]; omega
  rw [this]
  exact (Int.natCast_ediv M (2 ^ t)).symm ▸ by simp
theorem mask_shl (t : Nat) (ht : t < 40) : shl .i64 1 (t : Int) = ((2 ^ t : Nat) : Int) := by
  unfold shl
  have : min ((t : Int)).toNat IntKind.i64.bits = t := by simp [IntKind.bits]; omega
  rw [this, Int.one_mul]
  have h : 2 ^ t < 2 ^ 40 := Nat.pow_lt_pow_right (by decide) ht
  rw [IntKind.wrap_i64]
  have e : ((2 : Int) ^ t) = ((2 ^ t : Nat) : Int) := by simp
  rw [e]
  generalize 2 ^ t = p at h ⊢
  omega
theorem i64_small (n : Int) (h0 : 0 ≤ n) (h1 : n < 2 ^ 62) : IntKind.i64.wrap n = n := by rw [IntKind.wrap_i64]; omega
theorem mask_test (M t : Nat) (hM : M < 2 ^ 40) (ht : t < 40) : Go.bits .and .i64 (shr .i64 (M : Int) (t : Int)) 1 = ((M / 2 ^ t % 2 : Nat) : Int) := by
  rw [mask_shr M t ht]
  have h := (bits_nat .i64 62 (by decide) i64_small (M / 2 ^ t) 1 (Nat.lt_of_le_of_lt (Nat.div_le_self _ _) (by omega)) (by decide)).1
  rw [Nat.and_one_is_mod] at h
  exact h
theorem mask_put (M t : Nat) (hM : M < 2 ^ 40) (ht : t < 40) : Go.bits .or .i64 (M : Int) (shl .i64 1 (t : Int)) = ((M ||| 2 ^ t : Nat) : Int) := by
  rw [mask_shl t ht]
  exact (bits_nat .i64 62 (by decide) i64_small M (2 ^ t) (by omega) (Nat.pow_lt_pow_right (by decide) (by omega))).2
theorem mask_lt (M t : Nat) (hM : M < 2 ^ 40) (ht : t < 40) : M ||| 2 ^ t < 2 ^ 40 := Nat.or_lt_two_pow hM (Nat.pow_lt_pow_right (by decide) ht)
theorem mask_mem (M t u : Nat) : (M ||| 2 ^ t) / 2 ^ u % 2 = 1 ↔ (M / 2 ^ u % 2 = 1 ∨ u = t) := by
  have h1 := Nat.testBit_eq_decide_div_mod_eq (x := M ||| 2 ^ t) (i := u)
  have h2 := Nat.testBit_eq_decide_div_mod_eq (x := M) (i := u)
  rw [Nat.testBit_or, h2, Nat.testBit_two_pow] at h1
  constructor
  · intro h
    rw [decide_eq_true h, Bool.or_eq_true, decide_eq_true_eq, decide_eq_true_eq] at h1
    rcases h1 with h1 | h1
    · exact Or.inl h1
    · exact Or.inr h1.symm
  · intro h
    have : (decide (M / 2 ^ u % 2 = 1) || decide (t = u)) = true := by
      rw [Bool.or_eq_true, decide_eq_true_eq, decide_eq_true_eq]
      rcases h with h | h
      · exact Or.inl h
      · exact Or.inr h.symm
    rw [this] at h1
    exact of_decide_eq_true h1.symm
/-- The mask M has just the tasks S. -/
def MaskOf (n M : Nat) (S : List Nat) : Prop := M < 2 ^ 40 ∧ ∀ t, t < n → (M / 2 ^ t % 2 = 1 ↔ t ∈ S)
theorem mask_none (n : Nat) : MaskOf n 0 [] := ⟨by decide, fun t _ => by simp⟩
theorem mask_add {n M : Nat} {S : List Nat} (h : MaskOf n M S) (t : Nat) (ht : t < 40) : MaskOf n (M ||| 2 ^ t) (S ++ [t]) :=
  ⟨mask_lt M t h.1 ht, fun u hu => by rw [mask_mem, h.2 u hu]; simp⟩
def cst (P : List (List Int)) (i t : Nat) : Int := rd (rd_L1 P (i : Int)) (t : Int)
theorem u64_nat (t : Nat) (h : t < 1000) : IntKind.u64.wrap (t : Int) = (t : Int) := by rw [IntKind.wrap_u64]; omega
theorem lg_le (c : Nat → Nat → Int) (n : Nat) (hc : ∀ i t, 0 ≤ c i t) (hc' : ∀ i t, c i t ≤ 1000000) : ∀ (d : Nat) (S : List Nat), S.length + d = n → (lg c n d S).1 ≤ 1000000 * (d : Int)
  | 0, S, _ => by simp [lg]
  | d + 1, S, h => by
    obtain ⟨t, _, _, e, _⟩ := lg_first c n hc d S h
    rw [e]
    have h1 := lg_le c n hc hc' d (S ++ [t]) (by simp; omega)
    have h2 := hc' S.length t
    show c S.length t + (lg c n d (S ++ [t])).1 ≤ _
    omega
theorem least_ev (P : List (List Int)) (hn : P.length ≤ 30) (hrow : ∀ i, i < P.length → (rd_L1 P (i : Int)).length = P.length) (hc : ∀ i t, 0 ≤ cst P i t) (hc' : ∀ i t, cst P i t ≤ 1000000) :
    ∀ (d : Nat) (S : List Nat) (M : Nat), S.length + d = P.length → MaskOf P.length M S → Ev (fun k => spec_l27Least.f k P (S.length : Int) (M : Int)) (lg (cst P) P.length d S).1
  | 0, S, M, h, _ => Ev.at 1 0 (fun k _ => by
      have e : ((S.length : Nat) : Int) = (P.length : Int) := by omega
      simp only [spec_l27Least.f, e, if_true]
      rfl)
  | d + 1, S, M, h, hM => by
    have hlt : S.length < P.length := by omega
    have hF : ∀ t, t ∉ S → 0 ≤ (lg (cst P) P.length d (S ++ [t])).1 := fun t _ => lg_nonneg (cst P) P.length hc d (S ++ [t]) (by simp; omega)
    have e0 : ¬ ((S.length : Nat) : Int) = (P.length : Int) := by omega
    have hl := run_loop2 (fun k t (b : Int) => spec_l27Least.l0 k P (S.length : Int) (M : Int) (P.length : Int) b t) P.length
      (fun t => ((List.range t).foldl (lgStep (cst P) (lg (cst P) P.length d) S.length S) (-1, [])).1) (lg (cst P) P.length (d + 1) S).1
      (Ev.at 1 0 (fun k _ => by
        have c1 : ¬ ((P.length : Int) < (P.length : Int)) := by omega
        simp only [spec_l27Least.l0, c1, if_false]
        rfl))
      (fun t ht r hr => by
        have c1 : (t : Int) < (P.length : Int) := by omega
        have c2 : (0 : Int) ≤ (t : Int) := by omega
        have c3 : (0 : Int) ≤ (S.length : Int) := by omega
        have c4 : ((S.length : Nat) : Int) < (P.length : Int) := by omega
        have c5 : (t : Int) < ((rd_L1 P (S.length : Int)).length : Int) := by rw [hrow _ hlt]; omega
        have hw := wrap_succ t (by omega)
        have hu := u64_nat t (by omega)
        have hbit := hM.2 t ht
        have hmt := mask_test M t hM.1 (by omega)
        rw [List.range_succ, List.foldl_append, List.foldl_cons, List.foldl_nil] at hr
        generalize (List.range t).foldl (lgStep (cst P) (lg (cst P) P.length d) S.length S) (-1, []) = b at hr ⊢
        by_cases hs : t ∈ S
        · have h1 : M / 2 ^ t % 2 = 1 := hbit.2 hs
          rw [show lgStep (cst P) (lg (cst P) P.length d) S.length S b t = b by simp [lgStep, hs]] at hr
          refine Ev.step (fun k => ?_) hr
          simp only [spec_l27Least.l0, c1, hu, c2, hmt, h1, if_true, hw]
          rfl
        · have h1 : M / 2 ^ t % 2 = 0 := by
            have : ¬ M / 2 ^ t % 2 = 1 := fun h => hs (hbit.1 h)
            omega
          obtain ⟨K, hK⟩ := least_ev P hn hrow hc hc' d (S ++ [t]) (M ||| 2 ^ t) (by simp; omega) (mask_add hM t (by omega))
          have hmp := mask_put M t hM.1 (by omega)
          have hsl : wrap64 ((S.length : Int) + 1) = (((S ++ [t]).length : Nat) : Int) := by rw [wrap_succ S.length (by omega)]; simp
          have hv : wrap64 (rd (rd_L1 P (S.length : Int)) (t : Int) + (lg (cst P) P.length d (S ++ [t])).1) = cst P S.length t + (lg (cst P) P.length d (S ++ [t])).1 := by
            have q1 := hc S.length t
            have q2 := hc' S.length t
            have q3 := hF t hs
            have q4 := lg_le (cst P) P.length hc hc' d (S ++ [t]) (by simp; omega)
            exact wrap_in (by unfold cst at q1; omega) (by unfold cst at q2; omega)
          simp only at hK
          refine Ev.back 1 K (fun k hk => ?_) hr
          have a1 := hK k hk
          have z0 : ¬ ((0 : Nat) : Int) = 1 := by decide
          unfold lgStep
          rw [if_neg hs]
          simp only [spec_l27Least.l0, c1, hu, c2, c3, c4, c5, hmt, h1, z0, if_true, if_false, hmp, hsl, a1, hv, hw, Option.bind_some]
          by_cases hb : b.1 < 0
          · rw [if_pos hb, if_pos (Or.inl hb)]
          · rw [if_neg hb]
            by_cases hx : cst P S.length t + (lg (cst P) P.length d (S ++ [t])).1 < b.1
            · rw [if_pos hx, if_pos (Or.inr hx)]
            · rw [if_neg hx, if_neg (by omega)]) 0 (Nat.zero_le _)
    refine Ev.step (fun k => ?_) hl
    simp only [spec_l27Least.f, e0, if_false]
    rfl
theorem spec_best (P : List (List Int)) (hn : P.length ≤ 30) (hrow : ∀ i, i < P.length → (rd_L1 P (i : Int)).length = P.length) (hc : ∀ i t, 0 ≤ cst P i t) (hc' : ∀ i t, cst P i t ≤ 1000000) (r : List Int × Int × Bool) :
    ∀ (d : Nat) (S : List Nat) (M : Nat), S.length + d = P.length → MaskOf P.length M S →
      (∀ M' : Int, Ev (fun k => spec_BestAssign.l0 k P ((S ++ (lg (cst P) P.length d S).2).map (fun (t : Nat) => (t : Int))) M' (P.length : Int) (P.length : Int)) r) →
      Ev (fun k => spec_BestAssign.l0 k P (S.map (fun (t : Nat) => (t : Int))) (M : Int) (P.length : Int) (S.length : Int)) r
  | 0, S, M, h, hM, hr => by
    have e : ((S.length : Nat) : Int) = (P.length : Int) := by omega
    rw [e]
    have := hr (M : Int)
    simpa [lg] using this
  | d + 1, S, M, h, hM, hr => by
    have hlt : S.length < P.length := by omega
    have hF : ∀ t, t ∉ S → 0 ≤ (lg (cst P) P.length d (S ++ [t])).1 := fun t _ => lg_nonneg (cst P) P.length hc d (S ++ [t]) (by simp; omega)
    obtain ⟨t, ht, htS, he, hfirst⟩ := lg_first (cst P) P.length hc d S h
    have hnext := spec_best P hn hrow hc hc' r d (S ++ [t]) (M ||| 2 ^ t) (by simp; omega) (mask_add hM t (by omega)) (fun M' => by
      have := hr M'
      rw [he] at this
      simpa using this)
    obtain ⟨K0, hK0⟩ := least_ev P hn hrow hc hc' (d + 1) S M h hM
    have c3 : (0 : Int) ≤ (S.length : Int) := by omega
    have c4 : ((S.length : Nat) : Int) < (P.length : Int) := by omega
    have hsl : wrap64 ((S.length : Int) + 1) = (((S.length + 1 : Nat)) : Int) := wrap_succ S.length (by omega)
    have step : ∀ u, u < P.length → u ∉ S → ∃ K, ∀ k, K ≤ k → spec_l27Least.f k P (((S.length + 1 : Nat)) : Int) ((M ||| 2 ^ u : Nat) : Int) = some (lg (cst P) P.length d (S ++ [u])).1 ∧
        wrap64 (rd (rd_L1 P (S.length : Int)) (u : Int) + (lg (cst P) P.length d (S ++ [u])).1) = cst P S.length u + (lg (cst P) P.length d (S ++ [u])).1 := by
      intro u hu hus
      obtain ⟨K, hK⟩ := least_ev P hn hrow hc hc' d (S ++ [u]) (M ||| 2 ^ u) (by simp; omega) (mask_add hM u (by omega))
      have e1 : (((S ++ [u]).length : Nat) : Int) = ((S.length + 1 : Nat) : Int) := by simp
      rw [e1] at hK
      refine ⟨K, fun k hk => ⟨hK k hk, ?_⟩⟩
      have q1 := hc S.length u
      have q2 := hc' S.length u
      have q3 := hF u hus
      have q4 := lg_le (cst P) P.length hc hc' d (S ++ [u]) (by simp; omega)
      exact wrap_in (by unfold cst at q1; omega) (by unfold cst at q2; omega)
    have hl := run_loop2 (fun k i (_ : Unit) => spec_BestAssign.l1 k P (S.map (fun (t : Nat) => (t : Int))) (M : Int) (S.length : Int) (lg (cst P) P.length (d + 1) S).1 (P.length : Int) (S.length : Int) (P.length : Int) i) t (fun _ => ()) r
      (by
        obtain ⟨K, hK⟩ := step t ht htS
        refine Ev.back 1 K (fun k hk => ?_) hnext
        obtain ⟨a1, a2⟩ := hK k hk
        have c1 : (t : Int) < (P.length : Int) := by omega
        have c2 : (0 : Int) ≤ (t : Int) := by omega
        have c5 : (t : Int) < ((rd_L1 P (S.length : Int)).length : Int) := by rw [hrow _ hlt]; omega
        have hu := u64_nat t (by omega)
        have hmt := mask_test M t hM.1 (by omega)
        have hmp := mask_put M t hM.1 (by omega)
        have h1 : M / 2 ^ t % 2 = 0 := by
          have : ¬ M / 2 ^ t % 2 = 1 := fun h => htS ((hM.2 t ht).1 h)
          omega
        have ez : ((0 : Nat) : Int) = 0 := rfl
        have hv : cst P S.length t + (lg (cst P) P.length d (S ++ [t])).1 = (lg (cst P) P.length (d + 1) S).1 := by rw [he]
        have hlen : (S.map (fun (t : Nat) => (t : Int))).length < 17592186044416 := by simp; omega
        simp only [spec_BestAssign.l1, c1, hu, c2, c3, c4, c5, hmt, h1, ez, if_true, hmp, hsl, a1, a2, hv, hlen, Option.bind_some]
        simp)
      (fun u hu r' hr' => by
        have hun : u < P.length := by omega
        have c1 : (u : Int) < (P.length : Int) := by omega
        have c2 : (0 : Int) ≤ (u : Int) := by omega
        have c5 : (u : Int) < ((rd_L1 P (S.length : Int)).length : Int) := by rw [hrow _ hlt]; omega
        have hw := wrap_succ u (by omega)
        have huu := u64_nat u (by omega)
        have hmt := mask_test M u hM.1 (by omega)
        have hmp := mask_put M u hM.1 (by omega)
        by_cases hs : u ∈ S
        · have h1 : M / 2 ^ u % 2 = 1 := (hM.2 u hun).2 hs
          have z : ¬ ((1 : Nat) : Int) = 0 := by decide
          refine Ev.step (fun k => ?_) hr'
          simp only [spec_BestAssign.l1, c1, huu, c2, hmt, h1, z, if_true, if_false, hw]
        · have h1 : M / 2 ^ u % 2 = 0 := by
            have : ¬ M / 2 ^ u % 2 = 1 := fun h => hs ((hM.2 u hun).1 h)
            omega
          have ez : ((0 : Nat) : Int) = 0 := rfl
          obtain ⟨K, hK⟩ := step u hun hs
          refine Ev.back 1 K (fun k hk => ?_) hr'
          obtain ⟨a1, a2⟩ := hK k hk
          have hv := hfirst u hun hs hu
          simp only [spec_BestAssign.l1, c1, huu, c2, c3, c4, c5, hmt, h1, ez, if_true, if_false, hmp, hsl, a1, a2, hv, hw, Option.bind_some]) 0 (Nat.zero_le _)
    simp only at hK0
    refine Ev.back 1 K0 (fun k hk => ?_) hl
    have a0 := hK0 k hk
    simp only [spec_BestAssign.l0, c4, a0, if_true, Option.bind_some]
    rfl
def up (S : List Nat) : List Int := S.map (fun (t : Nat) => (t : Int))
theorem up_len (S : List Nat) : (up S).length = S.length := List.length_map ..
theorem up_at (S : List Nat) (i : Nat) (h : i < S.length) : rd (up S) (i : Int) = (S[i] : Int) := by
  rw [rd_get _ i (by rw [up_len]; exact h)]
  simp [up]
theorem clone_f (l : List Int) (h : l.length < 17592186044416) : slices_Clone_int_int.f l = some l := by
  simp [slices_Clone_int_int.f, h]
theorem incl_ev (S : List Nat) (t : Nat) (hS : S.length < 1000) : Ev (fun k => slices_Contains_int_int.f k (up S) (t : Int)) (decide (t ∈ S)) := by
  have hall : ((List.range S.length).all fun i => !decide (S.getD i 0 = t)) = !decide (t ∈ S) := by
    rw [Bool.eq_iff_iff, range_all, Bool.not_eq_true', decide_eq_false_iff_not]
    constructor
    · intro h hm
      obtain ⟨i, hi, e⟩ := List.getElem_of_mem hm
      have := h i hi
      simp [hi, e] at this
    · intro h i hi
      rw [Bool.not_eq_true', decide_eq_false_iff_not]
      intro e
      refine h ?_
      rw [← e]
      simp [hi]
  have h := all_loop2 (fun k i => (slices_Index_int_int.l0 k (up S) (t : Int) ((up S).length : Int) i).bind fun t => some (decide (t ≥ 0))) S.length (fun i => !decide (S.getD i 0 = t)) false true
    (Ev.next ⟨0, fun k _ => by simp [slices_Index_int_int.l0, up_len]⟩)
    (fun i hi hp r hr => Ev.step (fun k => by
      have h1 : (i : Int) < ((up S).length : Int) := by rw [up_len]; omega
      have h2 : (0 : Int) ≤ (i : Int) := by omega
      have h3 : ¬ ((t : Int) = (S[i] : Int)) := by
        intro e
        have : S[i] = t := by omega
        simp [hi, this] at hp
      simp only [slices_Index_int_int.l0, h1, h2, up_at S i hi, h3, if_true, if_false, wrap_succ i (by omega)]) hr)
    (fun i hi hp => Ev.at 1 0 (fun k _ => by
      have h1 : (i : Int) < ((up S).length : Int) := by rw [up_len]; omega
      have h2 : (0 : Int) ≤ (i : Int) := by omega
      have h3 : (t : Int) = (S[i] : Int) := by
        have : S[i] = t := by simpa [hi] using hp
        omega
      simp only [slices_Index_int_int.l0, h1, h2, up_at S i hi, ← h3, if_true, Option.bind_some]
      simp))
  rw [hall] at h
  refine Ev.congr (fun k => rfl) ?_
  rw [show decide (t ∈ S) = (if (!decide (t ∈ S)) = true then false else true) by cases decide (t ∈ S) <;> rfl]
  exact h
theorem cost_ev (P : List (List Int)) (hn : P.length ≤ 30) (hrow : ∀ i, i < P.length → (rd_L1 P (i : Int)).length = P.length) (hc : ∀ i t, 0 ≤ cst P i t) (hc' : ∀ i t, cst P i t ≤ 1000000) (S : List Nat) (hS : S.length ≤ P.length) (hlt : ∀ t ∈ S, t < P.length) :
    Ev (fun k => impl_assignCost.f k P (up S)) (costW (cst P) 0 S) := by
  have hle : ∀ i, i ≤ S.length → 0 ≤ costW (cst P) 0 (S.take i) ∧ costW (cst P) 0 (S.take i) ≤ 1000000 * (i : Int) := by
    intro i
    induction i with
    | zero => intro _; simp [costW]
    | succ i ih =>
      intro hi
      have h5 : S.take (i + 1) = S.take i ++ [S[i]] := by rw [List.take_add_one, List.getElem?_eq_getElem (by omega)]; rfl
      have q1 := hc (0 + (S.take i).length) S[i]
      have q2 := hc' (0 + (S.take i).length) S[i]
      have q := ih (by omega)
      rw [h5, costW_app]
      omega
  have h := run_loop (fun k i (x : Int) => impl_assignCost.l0 k P x (up S) ((up S).length : Int) i) S.length (fun i => costW (cst P) 0 (S.take i)) (costW (cst P) 0 S)
    (Ev.next ⟨0, fun k _ => by simp [impl_assignCost.l0, up_len]⟩)
    (fun i hi => ⟨0, fun k _ => by
      have h1 : (i : Int) < ((up S).length : Int) := by rw [up_len]; omega
      have h2 : (0 : Int) ≤ (i : Int) := by omega
      have h3 : (i : Int) < (P.length : Int) := by omega
      have h4 : (0 : Int) ≤ (S[i] : Int) := by omega
      have h6 : (S[i] : Int) < ((rd_L1 P (i : Int)).length : Int) := by rw [hrow i (by omega)]; have := hlt S[i] (List.getElem_mem hi); omega
      have h5 : S.take (i + 1) = S.take i ++ [S[i]] := by rw [List.take_add_one, List.getElem?_eq_getElem hi]; rfl
      have hl : (S.take i).length = i := by rw [List.length_take]; omega
      have e : costW (cst P) 0 (S.take (i + 1)) = costW (cst P) 0 (S.take i) + rd (rd_L1 P (i : Int)) (S[i] : Int) := by rw [h5, costW_app, hl, Nat.zero_add]; rfl
      have q1 := hle (i + 1) (by omega)
      rw [e] at q1
      have hw : wrap64 (costW (cst P) 0 (S.take i) + rd (rd_L1 P (i : Int)) (S[i] : Int)) = costW (cst P) 0 (S.take (i + 1)) := by rw [e]; exact wrap_in (by omega) (by omega)
      simp only [impl_assignCost.l0, h1, h2, h3, h4, h6, up_at S i hi, if_true, hw, wrap_succ i (by omega)]⟩) 0 (Nat.zero_le _)
  exact Ev.congr (fun k => rfl) h
theorem lg_len (c : Nat → Nat → Int) (n : Nat) (hc : ∀ i t, 0 ≤ c i t) : ∀ (d : Nat) (S : List Nat), S.length + d = n → (lg c n d S).2.length = d
  | 0, _, _ => rfl
  | d + 1, S, h => by
    obtain ⟨t, _, _, e, _⟩ := lg_first c n hc d S h
    rw [e]
    show (lg c n d (S ++ [t])).2.length + 1 = d + 1
    rw [lg_len c n hc d (S ++ [t]) (by simp; omega)]
theorem try_len (c : Nat → Nat → Int) (n : Nat) (hn : n ≤ 30) (hc : ∀ i t, 0 ≤ c i t) (d : Nat) (S : List Nat) (h : S.length + d = n) (s : List Nat × Int) (hs : s.1.length ≤ 30) : (tryAll c n d S s).1.length ≤ 30 := by
  rw [try_all c n hc d S h]
  unfold better
  split
  · show (S ++ (lg c n d S).2).length ≤ 30
    rw [List.length_append, lg_len c n hc d S h]
    omega
  · exact hs
theorem fold_len (c : Nat → Nat → Int) (n : Nat) (hn : n ≤ 30) (hc : ∀ i t, 0 ≤ c i t) (d : Nat) (S : List Nat) (h : S.length + (d + 1) = n) : ∀ (ts : List Nat) (s : List Nat × Int), s.1.length ≤ 30 →
    (ts.foldl (fun s t => if t ∈ S then s else tryAll c n d (S ++ [t]) s) s).1.length ≤ 30
  | [], s, hs => hs
  | t :: r, s, hs => by
    rw [List.foldl_cons]
    refine fold_len c n hn hc d S h r _ ?_
    split
    · exact hs
    · exact try_len c n hn hc d (S ++ [t]) (by simp; omega) s hs
theorem try_ev (P : List (List Int)) (hn : P.length ≤ 30) (hrow : ∀ i, i < P.length → (rd_L1 P (i : Int)).length = P.length) (hc : ∀ i t, 0 ≤ cst P i t) (hc' : ∀ i t, cst P i t ≤ 1000000) :
    ∀ (d : Nat) (S B : List Nat) (l : Int), S.length + d = P.length → (∀ t ∈ S, t < P.length) → B.length ≤ 30 →
      Ev (fun k => impl_bestAssign_fn1.f k (up S) P l (up B)) (up (tryAll (cst P) P.length d S (B, l)).1, (tryAll (cst P) P.length d S (B, l)).2)
  | 0, S, B, l, h, hS, hB => by
    obtain ⟨K, hK⟩ := cost_ev P hn hrow hc hc' S (by omega) hS
    simp only at hK
    have e : (((up S).length : Nat) : Int) = (P.length : Int) := by rw [up_len]; omega
    have c1 := clone_f (up S) (by rw [up_len]; omega)
    have c2 := clone_f (up B) (by rw [up_len]; omega)
    refine Ev.at 2 K (fun k hk => ?_)
    have a := hK (k + 1) (by omega)
    simp only [impl_bestAssign_fn1.f, impl_bestAssign_fn1.j0, e, a, c1, c2, if_true, Option.bind_some, tryAll]
    by_cases q1 : l < 0
    · simp [q1]
    · by_cases q2 : costW (cst P) 0 S < l
      · simp [q1, q2]
      · simp [q1, q2]
  | d + 1, S, B, l, h, hS, hB => by
    have e : ¬ (((up S).length : Nat) : Int) = (P.length : Int) := by rw [up_len]; omega
    have c1 := clone_f (up S) (by rw [up_len]; omega)
    have hl := run_loop2 (fun k t (s : List Nat × Int) => impl_bestAssign_fn1.l0 k (up S) P s.2 (up s.1) (P.length : Int) t) P.length
      (fun t => (List.range t).foldl (fun s t => if t ∈ S then s else tryAll (cst P) P.length d (S ++ [t]) s) (B, l)) (up (tryAll (cst P) P.length (d + 1) S (B, l)).1, (tryAll (cst P) P.length (d + 1) S (B, l)).2)
      (Ev.at 1 0 (fun k _ => by
        have c0 : ¬ ((P.length : Int) < (P.length : Int)) := by omega
        have hb := fold_len (cst P) P.length hn hc d S h (List.range P.length) (B, l) hB
        have c2 := clone_f (up ((List.range P.length).foldl (fun s t => if t ∈ S then s else tryAll (cst P) P.length d (S ++ [t]) s) (B, l)).1) (by rw [up_len]; omega)
        simp only [impl_bestAssign_fn1.l0, c0, if_false, c2, Option.bind_some]
        rfl))
      (fun t ht r hr => by
        have q1 : (t : Int) < (P.length : Int) := by omega
        have hw := wrap_succ t (by omega)
        have hb := fold_len (cst P) P.length hn hc d S h (List.range t) (B, l) hB
        rw [List.range_succ, List.foldl_append, List.foldl_cons, List.foldl_nil] at hr
        generalize (List.range t).foldl (fun s t => if t ∈ S then s else tryAll (cst P) P.length d (S ++ [t]) s) (B, l) = s at hb hr ⊢
        obtain ⟨K, hK⟩ := incl_ev S t (by omega)
        simp only at hK
        by_cases hs : t ∈ S
        · rw [if_pos hs] at hr
          rw [decide_eq_true hs] at hK
          refine Ev.back 1 K (fun k hk => ?_) hr
          have a := hK k hk
          simp only [impl_bestAssign_fn1.l0, q1, a, hw, if_true, Option.bind_some]
        · rw [if_neg hs] at hr
          rw [decide_eq_false hs] at hK
          obtain ⟨K2, hK2⟩ := try_ev P hn hrow hc hc' d (S ++ [t]) s.1 s.2 (by simp; omega) (fun u hu => by
            rcases List.mem_append.1 hu with hu | hu
            · exact hS u hu
            · rw [List.mem_singleton.1 hu]; exact ht) hb
          have eu : up (S ++ [t]) = up S ++ [(t : Int)] := by simp [up]
          have hl2 : (up S).length < 17592186044416 := by rw [up_len]; omega
          rw [eu] at hK2
          simp only at hK2
          refine Ev.back 1 (K + K2) (fun k hk => ?_) hr
          have a := hK k (by omega)
          have a2 := hK2 k (by omega)
          simp only [impl_bestAssign_fn1.l0, q1, a, c1, hl2, a2, hw, if_true, Bool.false_eq_true, if_false, Option.bind_some]) 0 (Nat.zero_le _)
    refine Ev.step (fun k => ?_) hl
    simp only [impl_bestAssign_fn1.f, e, if_false]
    rfl
theorem scost_ev (P : List (List Int)) (hn : P.length ≤ 30) (hrow : ∀ i, i < P.length → (rd_L1 P (i : Int)).length = P.length) (hc : ∀ i t, 0 ≤ cst P i t) (hc' : ∀ i t, cst P i t ≤ 1000000) (S : List Nat) (hS : S.length ≤ P.length) (hlt : ∀ t ∈ S, t < P.length) :
    Ev (fun k => spec_l27Cost.f k P (up S)) (costW (cst P) 0 S) := by
  have hle : ∀ i, i ≤ S.length → 0 ≤ costW (cst P) 0 (S.take i) ∧ costW (cst P) 0 (S.take i) ≤ 1000000 * (i : Int) := by
    intro i
    induction i with
    | zero => intro _; simp [costW]
    | succ i ih =>
      intro hi
      have h5 : S.take (i + 1) = S.take i ++ [S[i]] := by rw [List.take_add_one, List.getElem?_eq_getElem (by omega)]; rfl
      have q1 := hc (0 + (S.take i).length) S[i]
      have q2 := hc' (0 + (S.take i).length) S[i]
      have q := ih (by omega)
      rw [h5, costW_app]
      omega
  have h := run_loop (fun k i (x : Int) => spec_l27Cost.l0 k P x (up S) ((up S).length : Int) i) S.length (fun i => costW (cst P) 0 (S.take i)) (costW (cst P) 0 S)
    (Ev.next ⟨0, fun k _ => by simp [spec_l27Cost.l0, up_len]⟩)
    (fun i hi => ⟨0, fun k _ => by
      have h1 : (i : Int) < ((up S).length : Int) := by rw [up_len]; omega
      have h2 : (0 : Int) ≤ (i : Int) := by omega
      have h3 : (i : Int) < (P.length : Int) := by omega
      have h4 : (0 : Int) ≤ (S[i] : Int) := by omega
      have h6 : (S[i] : Int) < ((rd_L1 P (i : Int)).length : Int) := by rw [hrow i (by omega)]; have := hlt S[i] (List.getElem_mem hi); omega
      have h5 : S.take (i + 1) = S.take i ++ [S[i]] := by rw [List.take_add_one, List.getElem?_eq_getElem hi]; rfl
      have hl : (S.take i).length = i := by rw [List.length_take]; omega
      have e : costW (cst P) 0 (S.take (i + 1)) = costW (cst P) 0 (S.take i) + rd (rd_L1 P (i : Int)) (S[i] : Int) := by rw [h5, costW_app, hl, Nat.zero_add]; rfl
      have q1 := hle (i + 1) (by omega)
      rw [e] at q1
      have hw : wrap64 (costW (cst P) 0 (S.take i) + rd (rd_L1 P (i : Int)) (S[i] : Int)) = costW (cst P) 0 (S.take (i + 1)) := by rw [e]; exact wrap_in (by omega) (by omega)
      simp only [spec_l27Cost.l0, h1, h2, h3, h4, h6, up_at S i hi, if_true, hw, wrap_succ i (by omega)]⟩) 0 (Nat.zero_le _)
  exact Ev.congr (fun k => rfl) h
theorem lg_cost (c : Nat → Nat → Int) (n : Nat) (hc : ∀ i t, 0 ≤ c i t) : ∀ (d : Nat) (S : List Nat), S.length + d = n → costW c 0 (S ++ (lg c n d S).2) = costW c 0 S + (lg c n d S).1 ∧ ((∀ t ∈ S, t < n) → ∀ t ∈ S ++ (lg c n d S).2, t < n)
  | 0, S, _ => by simp [lg]
  | d + 1, S, h => by
    obtain ⟨t, ht, _, e, _⟩ := lg_first c n hc d S h
    obtain ⟨h1, h2⟩ := lg_cost c n hc d (S ++ [t]) (by simp; omega)
    rw [e]
    have e1 : S ++ (t :: (lg c n d (S ++ [t])).2) = (S ++ [t]) ++ (lg c n d (S ++ [t])).2 := by simp
    have e2 := costW_app c S 0 t
    rw [Nat.zero_add] at e2
    refine ⟨?_, fun hS => ?_⟩
    · show costW c 0 (S ++ (t :: (lg c n d (S ++ [t])).2)) = costW c 0 S + (c S.length t + (lg c n d (S ++ [t])).1)
      rw [e1, h1, e2]
      omega
    · show ∀ x ∈ S ++ (t :: (lg c n d (S ++ [t])).2), x < n
      rw [e1]
      refine h2 (fun u hu => ?_)
      rcases List.mem_append.1 hu with hu | hu
      · exact hS u hu
      · rw [List.mem_singleton.1 hu]; exact ht
/-- Both choose alike: what is least, the first way to it. -/
theorem best_both (P : List (List Int)) (hn : P.length ≤ 30) (hrow : ∀ i, i < P.length → (rd_L1 P (i : Int)).length = P.length) (hc : ∀ i t, 0 ≤ cst P i t) (hc' : ∀ i t, cst P i t ≤ 1000000) :
    Ev (fun k => impl_bestAssign.f k P) (up (lg (cst P) P.length P.length []).2, (lg (cst P) P.length P.length []).1) ∧
    Ev (fun k => spec_BestAssign.l0 k P [] 0 (P.length : Int) 0) (up (lg (cst P) P.length P.length []).2, (lg (cst P) P.length P.length []).1, true) := by
  constructor
  · have h := try_ev P hn hrow hc hc' P.length [] [] (-1) (by simp) (fun t ht => by cases ht) (by simp)
    rw [best_all (cst P) P.length hc] at h
    refine Ev.congr (fun k => ?_) h
    simp only [impl_bestAssign.f, up, List.map_nil]
    first | rfl | (cases impl_bestAssign_fn1.f k [] P (-1) [] <;> rfl)
  · obtain ⟨h1, h2⟩ := lg_cost (cst P) P.length hc P.length [] (by simp)
    have hlen := lg_len (cst P) P.length hc P.length [] (by simp)
    simp only [List.nil_append] at h1 h2
    obtain ⟨K, hK⟩ := scost_ev P hn hrow hc hc' (lg (cst P) P.length P.length []).2 (by omega) (h2 (fun t ht => by cases ht))
    have hcost : costW (cst P) 0 (lg (cst P) P.length P.length []).2 = (lg (cst P) P.length P.length []).1 := by
      rw [h1]; simp [costW]
    rw [hcost] at hK
    simp only at hK
    have h := spec_best P hn hrow hc hc' (up (lg (cst P) P.length P.length []).2, (lg (cst P) P.length P.length []).1, true) P.length [] 0 (by simp) (mask_none _) (fun M' => Ev.at 1 K (fun k hk => by
      have c0 : ¬ ((P.length : Int) < (P.length : Int)) := by omega
      have a := hK k hk
      unfold up at a
      simp only [spec_BestAssign.l0, c0, if_false, List.nil_append, a, Option.bind_some]
      rfl))
    exact Ev.congr (fun k => rfl) h
theorem best_impl (P : List (List Int)) (hn : P.length ≤ 30) (hrow : ∀ i, i < P.length → (rd_L1 P (i : Int)).length = P.length) (hc : ∀ i t, 0 ≤ cst P i t) (hc' : ∀ i t, cst P i t ≤ 1000000) :
    Ev (fun k => impl_bestAssign.f k P) (up (lg (cst P) P.length P.length []).2, (lg (cst P) P.length P.length []).1) := by
  have h := try_ev P hn hrow hc hc' P.length [] [] (-1) (by simp) (fun t ht => by cases ht) (by simp)
  rw [best_all (cst P) P.length hc] at h
  refine Ev.congr (fun k => ?_) h
  simp only [impl_bestAssign.f, up, List.map_nil]
  first | rfl | (cases impl_bestAssign_fn1.f k [] P (-1) [] <;> rfl)
theorem cst_in (P : List (List Int)) (h : goodPrices P = true) : (∀ i, i < P.length → (rd_L1 P (i : Int)).length = P.length) ∧ (∀ i t, 0 ≤ cst P i t) ∧ (∀ i t, cst P i t ≤ 1000000) := by
  have hb : ∀ i t, 0 ≤ cst P i t ∧ cst P i t ≤ 1000000 := by
    intro i t
    unfold cst
    by_cases hi : i < P.length
    · have hr := prices_row P h i hi
      by_cases ht : t < P.length
      · have := hr.2 t ht
        omega
      · have e : rd (rd_L1 P (i : Int)) (t : Int) = 0 := by
          simp only [rd, Int.toNat_natCast]
          rw [List.getD_eq_getElem?_getD, List.getElem?_eq_none (by omega)]; rfl
        rw [e]; omega
    · have e0 : rd_L1 P (i : Int) = [] := by
        simp only [rd_L1, Int.toNat_natCast]
        rw [List.getD_eq_getElem?_getD, List.getElem?_eq_none (by omega)]; rfl
      rw [e0]
      simp [rd]
  exact ⟨fun i hi => (prices_row P h i hi).1, fun i t => (hb i t).1, fun i t => (hb i t).2⟩
theorem best_len (P : List (List Int)) (h : goodPrices P = true) : (up (lg (cst P) P.length P.length []).2).length = P.length := by
  rw [up_len]
  exact lg_len (cst P) P.length (cst_in P h).2.1 P.length [] (by simp)
/-- Both answer alike, at any prices. -/
theorem best_any (P : List (List Int)) (hb : P.length ≤ 1048576) (hi : ∀ j (h : j < P.length), P[j].length ≤ 1048576) :
    ∃ G c b, G.length ≤ 6 ∧ Ev (fun k => spec_BestAssign.f k P) (G, c, b) ∧ Ev (fun k => impl_BestAssign.f k P) (G, c, b) := by
  obtain ⟨K1, h1⟩ := spec_prices P (by omega) hi
  obtain ⟨K2, h2⟩ := impl_prices P (by omega) hi
  by_cases hg : goodPrices P = true
  · have hl := prices_len P hg
    obtain ⟨q1, q2, q3⟩ := cst_in P hg
    obtain ⟨⟨K3, h3⟩, ⟨K4, h4⟩⟩ := best_both P (by omega) q1 q2 q3
    refine ⟨up (lg (cst P) P.length P.length []).2, (lg (cst P) P.length P.length []).1, true, (by rw [best_len P hg]; exact hl.2), ⟨K1 + K4, fun k hk => ?_⟩, ⟨K2 + K3, fun k hk => ?_⟩⟩
    · have a := h1 k (by omega)
      have b := h4 k (by omega)
      simp only at a b
      simp only [spec_BestAssign.f, a, Option.bind_some, hg, if_true, b]
    · have a := h2 k (by omega)
      have b := h3 k (by omega)
      simp only at a b
      simp only [impl_BestAssign.f, a, Option.bind_some, hg, if_true, b]
  · refine ⟨[], 0, false, by simp, ⟨K1, fun k hk => ?_⟩, ⟨K2, fun k hk => ?_⟩⟩
    · have a := h1 k (by omega)
      simp only at a
      simp only [spec_BestAssign.f, a, Option.bind_some, hg, if_false]
      first | rfl | simp
    · have a := h2 k (by omega)
      simp only at a
      simp only [impl_BestAssign.f, a, Option.bind_some, hg, if_false]
      first | rfl | simp
/-! ### Dues: rounds over all wishes, by walks (of no program) -/
def costF (c : Nat → Nat → Int) (f : Nat → Nat) : Nat → Int
  | 0 => 0
  | n + 1 => costF c f n + c n (f n)
def upd (f : Nat → Nat) (a v : Nat) : Nat → Nat := fun x => if x = a then v else f x
theorem upd_self (f : Nat → Nat) (a v : Nat) : upd f a v a = v := if_pos rfl
theorem upd_ne (f : Nat → Nat) (a v x : Nat) (h : x ≠ a) : upd f a v x = f x := if_neg h
theorem costF_upd (c : Nat → Nat → Int) (f : Nat → Nat) (a v : Nat) : ∀ n, costF c (upd f a v) n = costF c f n + (if a < n then c a v - c a (f a) else 0)
  | 0 => by simp [costF]
  | n + 1 => by
    simp only [costF, costF_upd c f a v n]
    by_cases h : n = a
    · subst h
      rw [upd_self, if_neg (Nat.lt_irrefl _), if_pos (Nat.lt_succ_self _)]
      omega
    · rw [upd_ne f a v n h]
      by_cases h2 : a < n
      · rw [if_pos h2, if_pos (by omega)]; omega
      · rw [if_neg h2, if_neg (by omega)]; omega
def IsPerm (n : Nat) (f : Nat → Nat) : Prop := (∀ i, i < n → f i < n) ∧ ∀ i j, i < n → j < n → f i = f j → i = j
def sw (f : Nat → Nat) (x y : Nat) : Nat → Nat := upd (upd f x (f y)) y (f x)
theorem sw_at (f : Nat → Nat) (x y i : Nat) : sw f x y i = if i = y then f x else if i = x then f y else f i := rfl
theorem sw_perm (n : Nat) (f : Nat → Nat) (x y : Nat) (h : IsPerm n f) (hx : x < n) (hy : y < n) : IsPerm n (sw f x y) := by
  refine ⟨fun i hi => ?_, fun i j hi hj e => ?_⟩
  · rw [sw_at]
    split
    · exact h.1 x hx
    · split
      · exact h.1 y hy
      · exact h.1 i hi
  · rw [sw_at, sw_at] at e
    by_cases h1 : i = y
    · rw [if_pos h1] at e
      by_cases h2 : j = y
      · omega
      · rw [if_neg h2] at e
        by_cases h3 : j = x
        · rw [if_pos h3] at e
          have := h.2 x y hx hy e
          omega
        · rw [if_neg h3] at e
          have := h.2 x j hx hj e
          omega
    · rw [if_neg h1] at e
      by_cases h4 : i = x
      · rw [if_pos h4] at e
        by_cases h2 : j = y
        · rw [if_pos h2] at e
          have := h.2 y x hy hx e
          omega
        · rw [if_neg h2] at e
          by_cases h3 : j = x
          · omega
          · rw [if_neg h3] at e
            have := h.2 y j hy hj e
            omega
      · rw [if_neg h4] at e
        by_cases h2 : j = y
        · rw [if_pos h2] at e
          have := h.2 i x hi hx e
          omega
        · rw [if_neg h2] at e
          by_cases h3 : j = x
          · rw [if_pos h3] at e
            have := h.2 i y hi hy e
            omega
          · rw [if_neg h3] at e
            exact h.2 i j hi hj e
theorem sw_cost (c : Nat → Nat → Int) (n : Nat) (f : Nat → Nat) (x y : Nat) (hx : x < n) (hy : y < n) (hne : x ≠ y) :
    costF c (sw f x y) n = costF c f n + (c x (f y) - c x (f x)) + (c y (f x) - c y (f y)) := by
  unfold sw
  rw [costF_upd, costF_upd, if_pos hx, if_pos hy, upd_ne f x (f y) y (Ne.symm hne)]
/-- A walk's weight; its end is told first. -/
def wt (c : Nat → Nat → Int) (W : Nat → Nat) : List Nat → Int
  | [] => 0
  | [_] => 0
  | r :: s :: l => (c r (W s) - c r (W r)) + wt c W (s :: l)
theorem wt_join (c : Nat → Nat → Int) (W : Nat → Nat) (x : Nat) (D : List Nat) : ∀ A : List Nat, wt c W (A ++ x :: D) = wt c W (A ++ [x]) + wt c W (x :: D)
  | [] => by simp [wt]
  | [a] => by
    simp only [List.cons_append, List.nil_append, wt]
    omega
  | a :: b :: A => by
    have h := wt_join c W x D (b :: A)
    simp only [List.cons_append] at h ⊢
    simp only [wt, h]
    omega
theorem cycle_perm (c : Nat → Nat → Int) (n : Nat) (W : Nat → Nat) (x : Nat) : ∀ (B : List Nat) (r : Nat) (f : Nat → Nat), IsPerm n f → r < n → (∀ s ∈ B, s < n) → (r :: B).Nodup → f r = W x → (∀ s ∈ B, f s = W s) →
    ∃ g, IsPerm n g ∧ costF c g n = costF c f n - (c r (W x) - c r (W r)) + wt c W (r :: B ++ [x])
  | [], r, f, hf, hr, _, _, _, _ => ⟨f, hf, by simp only [List.cons_append, List.nil_append, wt]; omega⟩
  | s :: B, r, f, hf, hr, hB, hn, hfr, hfs => by
    have hs := hB s List.mem_cons_self
    have hrs : r ≠ s := fun e => (List.nodup_cons.1 hn).1 (by rw [e]; exact List.mem_cons_self)
    have hn2 := (List.nodup_cons.1 hn).2
    have e1 := hfs s List.mem_cons_self
    obtain ⟨g, hg, hc⟩ := cycle_perm c n W x B s (sw f r s) (sw_perm n f r s hf hr hs) hs (fun u hu => hB u (List.mem_cons_of_mem _ hu)) hn2
      (by rw [sw_at, if_pos rfl]; exact hfr)
      (fun u hu => by
        have h1 : u ≠ s := fun e => (List.nodup_cons.1 hn2).1 (by rw [← e]; exact hu)
        have h2 : u ≠ r := fun e => (List.nodup_cons.1 hn).1 (by rw [← e]; exact List.mem_cons_of_mem _ hu)
        rw [sw_at, if_neg h1, if_neg h2]
        exact hfs u (List.mem_cons_of_mem _ hu))
    refine ⟨g, hg, ?_⟩
    rw [hc, sw_cost c n f r s hr hs hrs, hfr, e1]
    simp only [List.cons_append, wt]
    omega
/-- Who costs least. -/
def Best (c : Nat → Nat → Int) (n : Nat) (W : Nat → Nat) : Prop := IsPerm n W ∧ ∀ f, IsPerm n f → costF c W n ≤ costF c f n
theorem cycle_pos (c : Nat → Nat → Int) (n : Nat) (W : Nat → Nat) (h : Best c n W) (x : Nat) (B : List Nat) (hx : x < n) (hB : ∀ s ∈ B, s < n) (hn : (x :: B).Nodup) : 0 ≤ wt c W (x :: B ++ [x]) := by
  obtain ⟨g, hg, hc⟩ := cycle_perm c n W x B x W h.1 hx hB hn rfl (fun _ _ => rfl)
  have := h.2 g hg
  omega
theorem twice : ∀ l : List Nat, ¬ l.Nodup → ∃ A x B C, l = A ++ x :: (B ++ x :: C) ∧ (x :: B).Nodup
  | [], h => absurd List.nodup_nil h
  | a :: t, h => by
    by_cases ht : t.Nodup
    · have ha : a ∈ t := by
        by_cases q : a ∈ t
        · exact q
        · exact absurd (List.nodup_cons.2 ⟨q, ht⟩) h
      obtain ⟨B, C, e, hB⟩ := List.eq_append_cons_of_mem ha
      refine ⟨[], a, B, C, by rw [e]; rfl, List.nodup_cons.2 ⟨hB, ?_⟩⟩
      rw [e] at ht
      exact (List.nodup_append.1 ht).1
    · obtain ⟨A, x, B, C, e, hn⟩ := twice t ht
      exact ⟨a :: A, x, B, C, by rw [e]; rfl, hn⟩
theorem shorten (c : Nat → Nat → Int) (n : Nat) (W : Nat → Nat) (h : Best c n W) : ∀ (m : Nat) (r : Nat) (l : List Nat), l.length ≤ m → (∀ s ∈ r :: l, s < n) → ∃ l', (∀ s ∈ r :: l', s < n) ∧ (r :: l').length ≤ n ∧ wt c W (r :: l') ≤ wt c W (r :: l)
  | m, r, l, hm, hl => by
    by_cases hn : (r :: l).Nodup
    · refine ⟨l, hl, ?_, Int.le_refl _⟩
      have := nodup_len (r :: l) (List.range n) hn (fun x hx => List.mem_range.2 (hl x hx))
      rwa [List.length_range] at this
    · obtain ⟨A, x, B, C, e, hB⟩ := twice (r :: l) hn
      have hx : x < n := hl x (by rw [e]; simp)
      have hBn : ∀ s ∈ B, s < n := fun s hs => hl s (by rw [e]; simp [hs])
      have hp := cycle_pos c n W h x B hx hBn hB
      have hw : wt c W (A ++ x :: C) ≤ wt c W (r :: l) := by
        rw [e, wt_join c W x (B ++ x :: C) A, wt_join c W x C A, show x :: (B ++ x :: C) = (x :: B) ++ x :: C from rfl, wt_join c W x C (x :: B)]
        omega
      have hlen : (A ++ x :: C).length < (r :: l).length := by rw [e]; simp; omega
      obtain ⟨l1, e1⟩ : ∃ l1, A ++ x :: C = r :: l1 := by
        cases A with
        | nil =>
          simp only [List.nil_append] at e ⊢
          injection e with e0 _
          exact ⟨C, by rw [e0]⟩
        | cons a A =>
          simp only [List.cons_append] at e ⊢
          injection e with e0 _
          exact ⟨A ++ x :: C, by rw [e0]⟩
      rw [e1] at hw hlen
      have hl1 : ∀ s ∈ r :: l1, s < n := fun s hs => hl s (by
        rw [← e1] at hs
        rw [e]
        rcases List.mem_append.1 hs with q | q
        · exact List.mem_append_left _ q
        · rcases List.mem_cons.1 q with q | q
          · rw [q]; simp
          · simp [q])
      match m, hm with
      | 0, hm => simp only [List.length_cons] at hlen; omega
      | m + 1, hm =>
        obtain ⟨l', h1, h2, h3⟩ := shorten c n W h m r l1 (by simp only [List.length_cons] at hlen; omega) hl1
        exact ⟨l', h1, h2, Int.le_trans h3 hw⟩
/-! #### One round -/
def dAt (D : List Int) (a : Nat) : Int := D.getD a 0
theorem dAt_set (D : List Int) (i a : Nat) (v : Int) (h : i < D.length) : dAt (D.set i v) a = if a = i then v else dAt D a := by
  unfold dAt
  rw [List.getD_eq_getElem?_getD, List.getD_eq_getElem?_getD, List.getElem?_set]
  by_cases e : a = i
  · subst e; simp [h]
  · rw [if_neg (Ne.symm e), if_neg e]
def wish (c : Nat → Nat → Int) (W : Nat → Nat) (D : List Int) (r b : Nat) : Int := dAt D b + c r b - c r (W r)
def rx (c : Nat → Nat → Int) (W : Nat → Nat) (s : List Int × Bool) (p : Nat × Nat) : List Int × Bool :=
  if wish c W s.1 p.1 p.2 < dAt s.1 (W p.1) then (s.1.set (W p.1) (wish c W s.1 p.1 p.2), true) else s
theorem rx_len (c : Nat → Nat → Int) (W : Nat → Nat) (s : List Int × Bool) (p : Nat × Nat) : (rx c W s p).1.length = s.1.length := by
  unfold rx
  split
  · simp
  · rfl
def rxs (c : Nat → Nat → Int) (W : Nat → Nat) (ps : List (Nat × Nat)) (s : List Int × Bool) : List Int × Bool := ps.foldl (rx c W) s
theorem rxs_len (c : Nat → Nat → Int) (W : Nat → Nat) : ∀ (ps : List (Nat × Nat)) (s : List Int × Bool), (rxs c W ps s).1.length = s.1.length
  | [], s => rfl
  | p :: ps, s => (rxs_len c W ps (rx c W s p)).trans (rx_len c W s p)
section
variable (c : Nat → Nat → Int) (n : Nat) (W : Nat → Nat)
theorem rx_le (s : List Int × Bool) (p : Nat × Nat) (hW : W p.1 < s.1.length) (a : Nat) : dAt (rx c W s p).1 a ≤ dAt s.1 a := by
  unfold rx
  split
  · rename_i h
    rw [dAt_set _ _ _ _ hW]
    split
    · rename_i e; subst e; omega
    · exact Int.le_refl _
  · exact Int.le_refl _
theorem rxs_le : ∀ (ps : List (Nat × Nat)) (s : List Int × Bool), (∀ p ∈ ps, W p.1 < s.1.length) → ∀ a, dAt (rxs c W ps s).1 a ≤ dAt s.1 a
  | [], s, _, a => Int.le_refl _
  | p :: ps, s, h, a => by
    have h1 := rx_le c W s p (h p List.mem_cons_self) a
    have h2 := rxs_le ps (rx c W s p) (fun q hq => by rw [rx_len]; exact h q (List.mem_cons_of_mem _ hq)) a
    exact Int.le_trans h2 h1
theorem rx_wish (s : List Int × Bool) (p : Nat × Nat) (hW : W p.1 < s.1.length) : dAt (rx c W s p).1 (W p.1) ≤ wish c W s.1 p.1 p.2 := by
  unfold rx
  split
  · rw [dAt_set _ _ _ _ hW, if_pos rfl]
    exact Int.le_refl _
  · omega
theorem rxs_wish : ∀ (ps : List (Nat × Nat)) (s : List Int × Bool), (∀ p ∈ ps, W p.1 < s.1.length) → ∀ p ∈ ps, dAt (rxs c W ps s).1 (W p.1) ≤ wish c W s.1 p.1 p.2
  | [], _, _, p, hp => by cases hp
  | q :: ps, s, h, p, hp => by
    have hq := h q List.mem_cons_self
    have h' : ∀ p ∈ ps, W p.1 < (rx c W s q).1.length := fun u hu => by rw [rx_len]; exact h u (List.mem_cons_of_mem _ hu)
    rcases List.mem_cons.1 hp with e | hp
    · subst e
      exact Int.le_trans (rxs_le c W ps (rx c W s p) h' _) (rx_wish c W s p hq)
    · have h1 := rxs_wish ps (rx c W s q) h' p hp
      have h2 := rx_le c W s q hq p.2
      unfold wish at h1 ⊢
      exact Int.le_trans h1 (by omega)
theorem rx_flag (s : List Int × Bool) (p : Nat × Nat) : (rx c W s p).2 = false → rx c W s p = s ∧ s.2 = false := by
  unfold rx
  split
  · intro h; cases h
  · exact fun h => ⟨rfl, h⟩
theorem rxs_flag : ∀ (ps : List (Nat × Nat)) (s : List Int × Bool), (rxs c W ps s).2 = false → rxs c W ps s = s ∧ s.2 = false
  | [], _, h => ⟨rfl, h⟩
  | p :: ps, s, h => by
    have h1 := rxs_flag ps (rx c W s p) h
    have h2 := rx_flag c W s p h1.2
    exact ⟨h1.1.trans h2.1, h2.2⟩
/-- Each due is a walk's weight. -/
def Walked (D : List Int) : Prop := ∀ r, r < n → ∃ l, (∀ s ∈ r :: l, s < n) ∧ dAt D (W r) = wt c W (r :: l)
def Under (D : List Int) : Prop := ∀ r l, (∀ s ∈ r :: l, s < n) → dAt D (W r) ≤ wt c W (r :: l)
theorem rx_walked (hp : IsPerm n W) (hs : ∀ b, b < n → ∃ s, s < n ∧ W s = b) (s : List Int × Bool) (hl : s.1.length = n) (p : Nat × Nat) (h1 : p.1 < n) (h2 : p.2 < n) (h : Walked c n W s.1) : Walked c n W (rx c W s p).1 := by
  unfold rx
  split
  · intro r hr
    rw [dAt_set _ _ _ _ (by rw [hl]; exact hp.1 _ h1)]
    by_cases e : W r = W p.1
    · rw [if_pos e]
      have e2 := hp.2 r p.1 hr h1 e
      obtain ⟨q, hq, eq⟩ := hs p.2 h2
      obtain ⟨l, hl2, hd⟩ := h q hq
      refine ⟨q :: l, fun u hu => ?_, ?_⟩
      · rcases List.mem_cons.1 hu with q2 | q2
        · rw [q2]; exact hr
        · exact hl2 u q2
      · simp only [wish, wt]
        rw [← eq, hd, e2]
        omega
    · rw [if_neg e]
      exact h r hr
  · exact h
theorem rx_rest (hp : IsPerm n W) (hs : ∀ b, b < n → ∃ s, s < n ∧ W s = b) (s : List Int × Bool) (p : Nat × Nat) (h1 : p.1 < n) (h2 : p.2 < n) (h : Walked c n W s.1) (hu : Under c n W s.1) : rx c W s p = s := by
  unfold rx
  rw [if_neg]
  obtain ⟨q, hq, eq⟩ := hs p.2 h2
  obtain ⟨l, hl2, hd⟩ := h q hq
  have := hu p.1 (q :: l) (fun u hu => by
    rcases List.mem_cons.1 hu with q2 | q2
    · rw [q2]; exact h1
    · exact hl2 u q2)
  simp only [wt] at this
  unfold wish
  rw [← eq, hd]
  omega
theorem rxs_walked (hp : IsPerm n W) (hs : ∀ b, b < n → ∃ s, s < n ∧ W s = b) : ∀ (ps : List (Nat × Nat)) (s : List Int × Bool), s.1.length = n → (∀ p ∈ ps, p.1 < n ∧ p.2 < n) → Walked c n W s.1 → Walked c n W (rxs c W ps s).1
  | [], _, _, _, h => h
  | p :: ps, s, hl, hps, h => rxs_walked hp hs ps (rx c W s p) (by rw [rx_len]; exact hl) (fun q hq => hps q (List.mem_cons_of_mem _ hq)) (rx_walked c n W hp hs s hl p (hps p List.mem_cons_self).1 (hps p List.mem_cons_self).2 h)
theorem rxs_rest (hp : IsPerm n W) (hs : ∀ b, b < n → ∃ s, s < n ∧ W s = b) : ∀ (ps : List (Nat × Nat)) (s : List Int × Bool), (∀ p ∈ ps, p.1 < n ∧ p.2 < n) → Walked c n W s.1 → Under c n W s.1 → rxs c W ps s = s
  | [], _, _, _, _ => rfl
  | p :: ps, s, hps, h, hu => by
    show rxs c W ps (rx c W s p) = s
    rw [rx_rest c n W hp hs s p (hps p List.mem_cons_self).1 (hps p List.mem_cons_self).2 h hu]
    exact rxs_rest hp hs ps s (fun q hq => hps q (List.mem_cons_of_mem _ hq)) h hu
/-- All wishes, in their order. -/
def pairs (n : Nat) : List (Nat × Nat) := (List.range n).flatMap (fun r => (List.range n).map (fun b => (r, b)))
theorem pairs_mem (n r b : Nat) : (r, b) ∈ pairs n ↔ r < n ∧ b < n := by
  simp [pairs]
def rnd (D : List Int) : List Int × Bool := rxs c W (pairs n) (D, false)
def rnds : Nat → List Int
  | 0 => List.replicate n 0
  | t + 1 => (rnd c n W (rnds t)).1
theorem rnds_len : ∀ t, (rnds c n W t).length = n
  | 0 => by simp [rnds]
  | t + 1 => (rxs_len c W (pairs n) _).trans (rnds_len t)
theorem pairs_in (hp : IsPerm n W) (D : List Int) (hl : D.length = n) : ∀ p ∈ pairs n, W p.1 < D.length := fun p hq => by rw [hl]; exact hp.1 _ ((pairs_mem n p.1 p.2).1 hq).1
theorem dAt_zero (a : Nat) : dAt (List.replicate n 0) a = 0 := by
  unfold dAt
  rw [List.getD_eq_getElem?_getD, List.getElem?_replicate]
  split <;> rfl
theorem rnds_under (hp : IsPerm n W) : ∀ (t r : Nat) (l : List Nat), (∀ s ∈ r :: l, s < n) → l.length ≤ t → dAt (rnds c n W t) (W r) ≤ wt c W (r :: l)
  | 0, r, l, _, h => by
    obtain rfl := List.length_eq_zero_iff.1 (Nat.le_zero.1 h)
    simp [rnds, dAt_zero, wt]
  | t + 1, r, [], hl, h => by
    have h1 := rnds_under hp t r [] hl (Nat.zero_le _)
    exact Int.le_trans (rxs_le c W (pairs n) (rnds c n W t, false) (pairs_in n W hp _ (rnds_len c n W t)) _) h1
  | t + 1, r, s :: l, hl, h => by
    have hs : s < n := hl s (by simp)
    have h1 := rnds_under hp t s l (fun u hu => hl u (List.mem_cons_of_mem _ hu)) (by simp at h; omega)
    have h2 := rxs_wish c W (pairs n) (rnds c n W t, false) (pairs_in n W hp _ (rnds_len c n W t)) (r, W s) ((pairs_mem n r (W s)).2 ⟨hl r (by simp), hp.1 s hs⟩)
    simp only [wish] at h2
    simp only [wt]
    exact Int.le_trans h2 (by omega)
theorem rnds_walked (hp : IsPerm n W) (hs : ∀ b, b < n → ∃ s, s < n ∧ W s = b) : ∀ t, Walked c n W (rnds c n W t)
  | 0 => fun r hr => ⟨[], by simpa using hr, by simp [rnds, dAt_zero, wt]⟩
  | t + 1 => rxs_walked c n W hp hs (pairs n) _ (rnds_len c n W t) (fun p hq => (pairs_mem n p.1 p.2).1 hq) (rnds_walked hp hs t)
/-- Where who costs least, the n-th round turns nothing. -/
theorem rnds_rest (h : Best c n W) (hs : ∀ b, b < n → ∃ s, s < n ∧ W s = b) (hn : 0 < n) : rnd c n W (rnds c n W (n - 1)) = (rnds c n W (n - 1), false) :=
  rxs_rest c n W h.1 hs (pairs n) _ (fun p hq => (pairs_mem n p.1 p.2).1 hq) (rnds_walked c n W h.1 hs _) (fun r l hl => by
    obtain ⟨l', h1, h2, h3⟩ := shorten c n W h l.length r l (Nat.le_refl _) hl
    exact Int.le_trans (rnds_under c n W h.1 (n - 1) r l' h1 (by simp at h2; omega)) h3)
/-- A sum over the tasks. -/
def sumL : List Int → Int
  | [] => 0
  | x :: l => x + sumL l
theorem sumL_perm {l l' : List Int} (h : l.Perm l') : sumL l = sumL l' := by
  induction h with
  | nil => rfl
  | cons x _ ih => simp only [sumL, ih]
  | swap x y l => simp only [sumL]; omega
  | trans _ _ h1 h2 => exact h1.trans h2
theorem sumL_app : ∀ (l : List Int) (x : Int), sumL (l ++ [x]) = sumL l + x
  | [], x => by simp [sumL]
  | y :: l, x => by simp only [List.cons_append, sumL, sumL_app l x]; omega
theorem perm_map (f : Nat → Nat) (h : IsPerm n f) : ((List.range n).map f).Perm (List.range n) := by
  have hn : ((List.range n).map f).Nodup := by
    rw [List.nodup_iff_pairwise_ne, List.pairwise_map]
    refine List.Pairwise.imp_of_mem ?_ (List.nodup_iff_pairwise_ne.1 (List.nodup_range (n := n)))
    intro a b ha hb hne e
    exact hne (h.2 a b (List.mem_range.1 ha) (List.mem_range.1 hb) e)
  rw [List.perm_ext_iff_of_nodup hn List.nodup_range]
  intro a
  rw [List.mem_range]
  constructor
  · intro ha
    obtain ⟨i, hi, e⟩ := List.mem_map.1 ha
    rw [← e]
    exact h.1 i (List.mem_range.1 hi)
  · intro ha
    by_cases q : a ∈ (List.range n).map f
    · exact q
    · exfalso
      have := nodup_len (a :: (List.range n).map f) (List.range n) (List.nodup_cons.2 ⟨q, hn⟩) (fun x hx => by
        rcases List.mem_cons.1 hx with e | hx
        · rw [e]; exact List.mem_range.2 ha
        · obtain ⟨i, hi, e⟩ := List.mem_map.1 hx
          rw [← e]
          exact List.mem_range.2 (h.1 i (List.mem_range.1 hi)))
      simp only [List.length_cons, List.length_map, List.length_range] at this
      omega
theorem perm_onto (f : Nat → Nat) (h : IsPerm n f) (b : Nat) (hb : b < n) : ∃ s, s < n ∧ f s = b := by
  have := (perm_map n f h).mem_iff (a := b)
  obtain ⟨i, hi, e⟩ := List.mem_map.1 (this.2 (List.mem_range.2 hb))
  exact ⟨i, List.mem_range.1 hi, e⟩
theorem sum_perm (D : List Int) (f : Nat → Nat) (h : IsPerm n f) : sumL ((List.range n).map (fun r => dAt D (f r))) = sumL ((List.range n).map (dAt D)) := by
  have := sumL_perm ((perm_map n f h).map (dAt D))
  rwa [List.map_map] at this
theorem fair_le (D : List Int) (W f : Nat → Nat) : ∀ m, (∀ r, r < m → dAt D (W r) ≤ dAt D (f r) + c r (f r) - c r (W r)) → costF c W m + sumL ((List.range m).map (fun r => dAt D (W r))) ≤ costF c f m + sumL ((List.range m).map (fun r => dAt D (f r)))
  | 0, _ => by simp [costF, sumL]
  | m + 1, h => by
    have ih := fair_le D W f m (fun r hr => h r (by omega))
    have h1 := h m (by omega)
    simp only [costF, List.range_succ, List.map_append, List.map_cons, List.map_nil, sumL_app]
    omega
/-- Where a round turns nothing, who costs least. -/
theorem rest_best (hp : IsPerm n W) (D : List Int) (hl : D.length = n) (h : (rnd c n W D).2 = false) : Best c n W := by
  refine ⟨hp, fun f hf => ?_⟩
  have e := (rxs_flag c W (pairs n) (D, false) h).1
  have hw : ∀ r, r < n → dAt D (W r) ≤ dAt D (f r) + c r (f r) - c r (W r) := fun r hr => by
    have := rxs_wish c W (pairs n) (D, false) (pairs_in n W hp _ hl) (r, f r) ((pairs_mem n r (f r)).2 ⟨hr, hf.1 r hr⟩)
    rw [e] at this
    exact this
  have h1 := fair_le c D W f n hw
  rw [sum_perm n D W hp, sum_perm n D f hf] at h1
  omega
end
/-! ### Who costs least, by what the walk over all finds -/
theorem costW_costF (c : Nat → Nat → Int) (f : Nat → Nat) : ∀ n, costW c 0 ((List.range n).map f) = costF c f n
  | 0 => by simp [costW, costF]
  | n + 1 => by
    rw [List.range_succ, List.map_append, List.map_cons, List.map_nil, costW_app, costW_costF c f n]
    simp [costF]
theorem list_fn (S : List Nat) : (List.range S.length).map (fun i => S.getD i 0) = S := by
  refine List.ext_getElem (by simp) (fun i h1 h2 => ?_)
  simp only [List.getElem_map, List.getElem_range]
  rw [List.getD_eq_getElem?_getD, List.getElem?_eq_getElem h2]
  rfl
theorem list_perm (S : List Nat) (n : Nat) (hl : S.length = n) (hn : S.Nodup) (hlt : ∀ t ∈ S, t < n) : IsPerm n (fun i => S.getD i 0) := by
  have at_ : ∀ i (h : i < S.length), S.getD i 0 = S[i] := fun i h => by rw [List.getD_eq_getElem?_getD, List.getElem?_eq_getElem h]; rfl
  refine ⟨fun i hi => ?_, fun i j hi hj e => ?_⟩
  · simp only []
    rw [at_ i (by omega)]
    exact hlt _ (List.getElem_mem _)
  · simp only [] at e
    rw [at_ i (by omega), at_ j (by omega)] at e
    have hp := List.pairwise_iff_getElem.1 (List.nodup_iff_pairwise_ne.1 hn)
    rcases Nat.lt_trichotomy i j with h | h | h
    · exact absurd e (hp i j (by omega) (by omega) h)
    · exact h
    · exact absurd e.symm (hp j i (by omega) (by omega) h)
theorem lg_min (c : Nat → Nat → Int) (n : Nat) (hc : ∀ i t, 0 ≤ c i t) : ∀ (d : Nat) (S T : List Nat), S.length + d = n → T.length = d → (S ++ T).Nodup → (∀ t ∈ T, t < n) → (lg c n d S).1 ≤ costW c S.length T
  | 0, S, T, _, hT, _, _ => by
    obtain rfl := List.length_eq_zero_iff.1 hT
    simp [lg, costW]
  | d + 1, S, [], _, hT, _, _ => by simp at hT
  | d + 1, S, t :: T, h, hT, hn, hlt => by
    have hf := lg_fold c (lg c n d) S.length S hc (fun t _ => lg_nonneg c n hc d (S ++ [t]) (by simp; omega)) n
    have he : lg c n (d + 1) S = (List.range n).foldl (lgStep c (lg c n d) S.length S) (-1, []) := rfl
    have ht := hlt t List.mem_cons_self
    have hts : t ∉ S := fun q => (List.nodup_append.1 hn).2.2 t q t List.mem_cons_self rfl
    have ih := lg_min c n hc d (S ++ [t]) T (by simp; omega) (by simpa using hT) (by simpa using hn) (fun u hu => hlt u (List.mem_cons_of_mem _ hu))
    rw [List.length_append, List.length_singleton] at ih
    rcases hf with ⟨h1, h2⟩ | ⟨u, hu, hus, hb, hall⟩
    · exact absurd (h2 t ht) hts
    · rw [he, hb]
      have := (hall t ht hts).1
      simp only [costW]
      omega
theorem lg_nodup (c : Nat → Nat → Int) (n : Nat) (hc : ∀ i t, 0 ≤ c i t) : ∀ (d : Nat) (S : List Nat), S.length + d = n → S.Nodup → (S ++ (lg c n d S).2).Nodup
  | 0, S, _, h => by simpa [lg] using h
  | d + 1, S, h, hn => by
    obtain ⟨t, ht, hts, e, _⟩ := lg_first c n hc d S h
    rw [e]
    have := lg_nodup c n hc d (S ++ [t]) (by simp; omega) (by
      rw [List.nodup_append]
      refine ⟨hn, by simp, fun a ha b hb e => ?_⟩
      rw [List.mem_singleton.1 hb] at e
      exact hts (e ▸ ha))
    simpa using this
/-- Who costs least: just who costs what the walk over all finds. -/
theorem best_iff (c : Nat → Nat → Int) (n : Nat) (hc : ∀ i t, 0 ≤ c i t) (W : Nat → Nat) (hW : IsPerm n W) : Best c n W ↔ costF c W n = (lg c n n []).1 := by
  have hmin : ∀ f, IsPerm n f → (lg c n n []).1 ≤ costF c f n := fun f hf => by
    rw [← costW_costF c f n]
    have hn : ((List.range n).map f).Nodup := (perm_map n f hf).nodup_iff.2 List.nodup_range
    exact lg_min c n hc n [] _ (by simp) (by simp) (by simpa using hn) (fun t ht => by
      obtain ⟨i, hi, e⟩ := List.mem_map.1 ht
      rw [← e]
      exact hf.1 i (List.mem_range.1 hi))
  have hlen := lg_len c n hc n [] (by simp)
  have hnd := lg_nodup c n hc n [] (by simp) List.nodup_nil
  obtain ⟨hcost, hlt⟩ := lg_cost c n hc n [] (by simp)
  simp only [List.nil_append] at hnd hcost hlt
  have hp := list_perm (lg c n n []).2 n hlen hnd (hlt (fun t ht => by cases ht))
  have hb : costF c (fun i => (lg c n n []).2.getD i 0) n = (lg c n n []).1 := by
    rw [← costW_costF]
    have := list_fn (lg c n n []).2
    rw [hlen] at this
    rw [this, hcost]
    simp [costW]
  constructor
  · intro h
    have h1 := h.2 _ hp
    have h2 := hmin W hW
    omega
  · intro h
    exact ⟨hW, fun f hf => by rw [h]; exact hmin f hf⟩
/-! ### Loops in loops -/
theorem nest_loop {σ ρ : Type} (n : Nat) (L1 : Nat → Nat → σ → Option ρ) (L2 : Nat → Nat → Nat → σ → Option ρ) (S : Nat → Nat → σ) (R : ρ) (hS : ∀ r, r < n → S r n = S (r + 1) 0)
    (h1 : ∀ r, r < n → ∃ K, ∀ k, K ≤ k → L1 (k + 1) r (S r 0) = L2 k r 0 (S r 0))
    (h2 : ∀ r b, r < n → b < n → ∃ K, ∀ k, K ≤ k → L2 (k + 1) r b (S r b) = L2 k r (b + 1) (S r (b + 1)))
    (h3 : ∀ r, r < n → ∃ K, ∀ k, K ≤ k → L2 (k + 1) r n (S r n) = L1 k (r + 1) (S r n))
    (hend : Ev (fun k => L1 k n (S n 0)) R) : Ev (fun k => L1 k 0 (S 0 0)) R := by
  have key : ∀ d r, r + d = n → Ev (fun k => L1 k r (S r 0)) R := by
    intro d
    induction d with
    | zero =>
      intro r hr
      obtain rfl : r = n := by omega
      exact hend
    | succ d ih =>
      intro r hr
      have hn := ih (r + 1) (by omega)
      rw [← hS r (by omega)] at hn
      obtain ⟨K3, g3⟩ := h3 r (by omega)
      have he : Ev (fun k => L2 k r n (S r n)) R := Ev.back 1 K3 g3 hn
      have inner : ∀ e b, b + e = n → Ev (fun k => L2 k r b (S r b)) R := by
        intro e
        induction e with
        | zero =>
          intro b hb
          obtain rfl : b = n := by omega
          exact he
        | succ e ih2 =>
          intro b hb
          obtain ⟨K2, g2⟩ := h2 r b (by omega) (by omega)
          exact Ev.back 1 K2 g2 (ih2 (b + 1) (by omega))
      obtain ⟨K1, g1⟩ := h1 r (by omega)
      exact Ev.back 1 K1 g1 (inner n 0 (by omega))
  exact key n 0 (by omega)
/-! ### One round, as the program and as the reference do it -/
def pre (n r b : Nat) : List (Nat × Nat) := (List.range r).flatMap (fun r => (List.range n).map (fun b => (r, b))) ++ (List.range b).map (fun b => (r, b))
theorem pre_next (n r b : Nat) : pre n r (b + 1) = pre n r b ++ [(r, b)] := by
  unfold pre
  rw [List.range_succ (n := b), List.map_append, List.append_assoc]
  rfl
theorem pre_row (n r : Nat) : pre n r n = pre n (r + 1) 0 := by
  unfold pre
  rw [List.range_succ (n := r), List.flatMap_append]
  simp
theorem pre_all (n : Nat) : pre n n 0 = pairs n := by simp [pre, pairs]
theorem pre_len (n b : Nat) : ∀ r, (pre n r b).length = r * n + b
  | 0 => by simp [pre]
  | r + 1 => by
    have h := pre_len n b r
    have e := pre_len n n r
    unfold pre at h e ⊢
    rw [List.range_succ (n := r), List.flatMap_append]
    simp only [List.length_append, List.length_map, List.length_range, List.flatMap_cons, List.flatMap_nil, List.length_nil] at h e ⊢
    rw [Nat.succ_mul]
    omega
def Low (n : Nat) (D : List Int) (M : Int) : Prop := D.length = n ∧ ∀ a, -M ≤ dAt D a ∧ dAt D a ≤ 0
theorem rx_low (c : Nat → Nat → Int) (n : Nat) (W : Nat → Nat) (hc : ∀ i t, 0 ≤ c i t) (hc' : ∀ i t, c i t ≤ 1000000) (s : List Int × Bool) (p : Nat × Nat) (hW : W p.1 < n) (M : Int) (h : Low n s.1 M) (hM : 0 ≤ M) : Low n (rx c W s p).1 (M + 1000000) := by
  refine ⟨(rx_len c W s p).trans h.1, fun a => ?_⟩
  have h1 := h.2 a
  unfold rx
  split
  · rename_i hlt
    rw [dAt_set _ _ _ _ (by rw [h.1]; exact hW)]
    split
    · have h2 := h.2 p.2
      have h3 := h.2 (W p.1)
      have h4 := hc p.1 p.2
      have h5 := hc' p.1 (W p.1)
      simp only [wish] at hlt ⊢
      omega
    · omega
  · omega
theorem rxs_low (c : Nat → Nat → Int) (n : Nat) (W : Nat → Nat) (hc : ∀ i t, 0 ≤ c i t) (hc' : ∀ i t, c i t ≤ 1000000) : ∀ (ps : List (Nat × Nat)) (s : List Int × Bool) (M : Int), (∀ p ∈ ps, W p.1 < n) → Low n s.1 M → 0 ≤ M → Low n (rxs c W ps s).1 (M + 1000000 * (ps.length : Int))
  | [], s, M, _, h, _ => by simpa [rxs] using h
  | p :: ps, s, M, hps, h, hM => by
    have := rxs_low c n W hc hc' ps (rx c W s p) (M + 1000000) (fun q hq => hps q (List.mem_cons_of_mem _ hq)) (rx_low c n W hc hc' s p (hps p List.mem_cons_self) M h hM) (by omega)
    rw [show M + 1000000 + 1000000 * (ps.length : Int) = M + 1000000 * (((p :: ps).length : Nat) : Int) by simp only [List.length_cons]; omega] at this
    exact this
theorem pre_in (n : Nat) (W : Nat → Nat) (hW : ∀ i, i < n → W i < n) (r b : Nat) (hr : r < n ∨ (r = n ∧ b = 0)) (hb : b ≤ n) : ∀ p ∈ pre n r b, W p.1 < n := by
  intro p hp
  refine hW p.1 ?_
  unfold pre at hp
  rcases List.mem_append.1 hp with q | q
  · obtain ⟨i, hi, q⟩ := List.mem_flatMap.1 q
    obtain ⟨j, _, q⟩ := List.mem_map.1 q
    rw [← q]
    have := List.mem_range.1 hi
    simp only
    omega
  · obtain ⟨j, hj, q⟩ := List.mem_map.1 q
    rw [← q]
    have := List.mem_range.1 hj
    simp only
    omega
def stt (c : Nat → Nat → Int) (W : Nat → Nat) (n : Nat) (D : List Int) (r b : Nat) : List Int × Bool := rxs c W (pre n r b) (D, false)
theorem stt_next (c : Nat → Nat → Int) (W : Nat → Nat) (n : Nat) (D : List Int) (r b : Nat) : stt c W n D r (b + 1) = rx c W (stt c W n D r b) (r, b) := by
  unfold stt rxs
  rw [pre_next, List.foldl_append]
  rfl
theorem stt_low (c : Nat → Nat → Int) (n : Nat) (W : Nat → Nat) (hc : ∀ i t, 0 ≤ c i t) (hc' : ∀ i t, c i t ≤ 1000000) (hn : n ≤ 6) (hW : ∀ i, i < n → W i < n) (D : List Int) (M : Int) (h : Low n D M) (hM : 0 ≤ M) (r b : Nat) (hr : r < n ∨ (r = n ∧ b = 0)) (hb : b ≤ n) : Low n (stt c W n D r b).1 (M + 50000000) := by
  have h1 := rxs_low c n W hc hc' (pre n r b) (D, false) M (pre_in n W hW r b hr hb) h hM
  have h2 : (pre n r b).length ≤ 50 := by
    rw [pre_len]
    have : r * n ≤ 6 * 6 := Nat.mul_le_mul (by omega) hn
    omega
  refine ⟨h1.1, fun a => ?_⟩
  have := h1.2 a
  have h3 : ((pre n r b).length : Int) ≤ 50 := by omega
  show -(M + 50000000) ≤ dAt (rxs c W (pre n r b) (D, false)).1 a ∧ dAt (rxs c W (pre n r b) (D, false)).1 a ≤ 0
  omega
def wF (W : List Int) (r : Nat) : Nat := (rd W (r : Int)).toNat
theorem rd_dAt (D : List Int) (b : Nat) : rd D (b : Int) = dAt D b := by simp [rd, dAt]
theorem who_perm (W : List Int) (n : Nat) (h : goodWho W n = true) : IsPerm n (wF W) := by
  have hw := who_at W n h
  have key : ∀ i j : Nat, i < j → j < n → wF W i ≠ wF W j := by
    intro i j hij hj e
    have h1 := hw.2 i (by omega)
    have h2 := hw.2 j hj
    refine h2.2.2 ?_
    have e1 : rd W (i : Int) = rd W (j : Int) := by unfold wF at e; omega
    have hil : i < W.length := by omega
    rw [← e1, rd_get W i hil, List.mem_take_iff_getElem]
    exact ⟨i, by omega, rfl⟩
  refine ⟨fun i hi => ?_, fun i j hi hj e => ?_⟩
  · have := hw.2 i hi
    unfold wF
    omega
  · rcases Nat.lt_trichotomy i j with q | q | q
    · exact absurd e (key i j q hj)
    · exact q
    · exact absurd e.symm (key j i q hi)
theorem who_rd (W : List Int) (n : Nat) (h : goodWho W n = true) (r : Nat) (hr : r < n) : rd W (r : Int) = ((wF W r : Nat) : Int) := by
  have := (who_at W n h).2 r hr
  unfold wF
  omega
section
variable (P : List (List Int)) (W : List Int) (hn : P.length ≤ 6) (hrow : ∀ i, i < P.length → (rd_L1 P (i : Int)).length = P.length) (hc : ∀ i t, 0 ≤ cst P i t) (hc' : ∀ i t, cst P i t ≤ 1000000) (hw : goodWho W P.length = true)
include hn hrow hc hc' hw
theorem wish_wrap (D : List Int) (M : Int) (h : Low P.length D M) (hM : M ≤ 1000000000000) (r b : Nat) (hr : r < P.length) :
    wrap64 (wrap64 (rd D (b : Int) + rd (rd_L1 P (r : Int)) (b : Int)) - rd (rd_L1 P (r : Int)) (rd W (r : Int))) = wish (cst P) (wF W) D r b := by
  have _u := hn
  have _v := hrow
  rw [who_rd W P.length hw r hr, rd_dAt D b]
  show wrap64 (wrap64 (dAt D b + cst P r b) - cst P r (wF W r)) = dAt D b + cst P r b - cst P r (wF W r)
  have h1 := h.2 b
  have h2 := hc r b
  have h3 := hc' r b
  have h4 := hc r (wF W r)
  have h5 := hc' r (wF W r)
  rw [wrap_in (n := dAt D b + cst P r b) (by omega) (by omega), wrap_in (by omega) (by omega)]
theorem impl_round (D : List Int) (M : Int) (hM0 : 0 ≤ M) (hM : M ≤ 100000000000) (h : Low P.length D M) (R : List Int × Bool)
    (hend : Ev (fun k => impl_DuesOf.l0 k P W (rnd (cst P) P.length (wF W) D).1 (rnd (cst P) P.length (wF W) D).2) R) :
    Ev (fun k => impl_DuesOf.l1 k P W D false W (W.length : Int) 0) R := by
  have hwl := (who_at W P.length hw).1
  have hp := who_perm W P.length hw
  have hnest := nest_loop P.length (fun k r (s : List Int × Bool) => impl_DuesOf.l1 k P W s.1 s.2 W (W.length : Int) (r : Int))
    (fun k r b (s : List Int × Bool) => impl_DuesOf.l2 k P W s.1 s.2 (r : Int) (rd W (r : Int)) W (W.length : Int) (r : Int) (P.length : Int) (b : Int)) (stt (cst P) (wF W) P.length D) R
    (fun r _ => by unfold stt; rw [pre_row])
    (fun r hr => ⟨0, fun k _ => by
      have hl := stt_low (cst P) P.length (wF W) hc hc' hn hp.1 D M h hM0 r 0 (.inl hr) (by omega)
      have g1 : (r : Int) < (W.length : Int) := by omega
      have g2 : (0 : Int) ≤ (r : Int) := by omega
      simp only [impl_DuesOf.l1, g1, g2, if_true, hl.1]
      rfl⟩)
    (fun r b hr hb => ⟨0, fun k _ => by
      have hl := stt_low (cst P) P.length (wF W) hc hc' hn hp.1 D M h hM0 r b (.inl hr) (by omega)
      rw [stt_next]
      have hx := rx_low (cst P) P.length (wF W) hc hc' (stt (cst P) (wF W) P.length D r b) (r, b) (hp.1 r hr) _ hl (by omega)
      generalize stt (cst P) (wF W) P.length D r b = s at hl hx ⊢
      obtain ⟨D1, ch⟩ := s
      simp only at hl
      have hws := wish_wrap P W hn hrow hc hc' hw D1 _ hl (by omega) r b hr
      have hwr := who_rd W P.length hw r hr
      have hwn := hp.1 r hr
      have g1 : (b : Int) < (P.length : Int) := by omega
      have g2 : (0 : Int) ≤ (b : Int) := by omega
      have g3 : (b : Int) < (D1.length : Int) := by rw [hl.1]; omega
      have g4 : (0 : Int) ≤ (r : Int) := by omega
      have g5 : (r : Int) < (P.length : Int) := by omega
      have g6 : (b : Int) < ((rd_L1 P (r : Int)).length : Int) := by rw [hrow r hr]; omega
      have g7 : (0 : Int) ≤ rd W (r : Int) := by omega
      have g8 : rd W (r : Int) < ((rd_L1 P (r : Int)).length : Int) := by rw [hrow r hr]; omega
      have g9 : rd W (r : Int) < (D1.length : Int) := by rw [hl.1]; omega
      simp only [impl_DuesOf.l2, g1, g2, g3, g4, g5, g6, g7, g8, g9, if_true, hws, wrap_succ b (by omega)]
      have e1 : rd D1 (rd W (r : Int)) = dAt D1 (wF W r) := by rw [hwr, rd_dAt]
      have e2 : (rd W (r : Int)).toNat = wF W r := rfl
      rw [e1, e2]
      unfold rx
      by_cases q : wish (cst P) (wF W) D1 r b < dAt D1 (wF W r)
      · rw [if_pos q, if_pos q]
      · rw [if_neg q, if_neg q]⟩)
    (fun r hr => ⟨0, fun k _ => by
      have g1 : ¬ (P.length : Int) < (P.length : Int) := by omega
      simp only [impl_DuesOf.l2, g1, if_false, wrap_succ r (by omega)]⟩)
    (Ev.back 1 0 (fun k _ => by
      have g1 : ¬ (P.length : Int) < (W.length : Int) := by omega
      simp only [impl_DuesOf.l1, g1, if_false]
      unfold stt
      rw [pre_all]
      rfl) hend)
  have e0 : stt (cst P) (wF W) P.length D 0 0 = (D, false) := by simp [stt, pre, rxs]
  rw [e0] at hnest
  exact Ev.congr (fun k => rfl) hnest
theorem rnds_low : ∀ t, Low P.length (rnds (cst P) P.length (wF W) t) (50000000 * (t : Int))
  | 0 => ⟨rnds_len _ _ _ 0, fun a => by simp [rnds, dAt_zero]⟩
  | t + 1 => by
    have _u := hrow
    have h := stt_low (cst P) P.length (wF W) hc hc' hn (who_perm W P.length hw).1 (rnds (cst P) P.length (wF W) t) _ (rnds_low t) (by omega) P.length 0 (.inr ⟨rfl, rfl⟩) (by omega)
    have e : (stt (cst P) (wF W) P.length (rnds (cst P) P.length (wF W) t) P.length 0).1 = rnds (cst P) P.length (wF W) (t + 1) := by
      unfold stt
      rw [pre_all]
      rfl
    rw [e] at h
    rw [show 50000000 * ((t + 1 : Nat) : Int) = 50000000 * (t : Int) + 50000000 by omega]
    exact h
theorem rest_stays (t : Nat) (h : (rnd (cst P) P.length (wF W) (rnds (cst P) P.length (wF W) t)).2 = false) : ∀ d, rnds (cst P) P.length (wF W) (t + d) = rnds (cst P) P.length (wF W) t
  | 0 => rfl
  | d + 1 => by
    have _u := hn
    have _v := hrow
    have _w := hc
    have _x := hc'
    have _y := hw
    have e := (rxs_flag (cst P) (wF W) (pairs P.length) _ h).1
    show (rnd (cst P) P.length (wF W) (rnds (cst P) P.length (wF W) (t + d))).1 = _
    rw [rest_stays t h d]
    show (rxs (cst P) (wF W) (pairs P.length) (rnds (cst P) P.length (wF W) t, false)).1 = _
    rw [e]
/-- Where who costs least: the rounds settle. -/
theorem rounds_impl (h1 : 1 ≤ P.length) (hb : Best (cst P) P.length (wF W)) : ∀ d t, t + d = P.length - 1 →
    Ev (fun k => impl_DuesOf.l0 k P W (rnds (cst P) P.length (wF W) t) true) (rnds (cst P) P.length (wF W) (P.length - 1), true) := by
  intro d
  induction d with
  | zero =>
    intro t ht
    obtain rfl : t = P.length - 1 := by omega
    have hr := rnds_rest (cst P) P.length (wF W) hb (perm_onto P.length (wF W) hb.1) (by omega)
    have hlow := rnds_low P W hn hrow hc hc' hw (P.length - 1)
    refine Ev.back 1 0 (fun k _ => ?_) (impl_round P W hn hrow hc hc' hw _ _ (by omega) (by omega) hlow _ ?_)
    · simp only [impl_DuesOf.l0, if_true]
    · rw [hr]
      exact Ev.at 1 0 (fun k _ => by simp [impl_DuesOf.l0])
  | succ d ih =>
    intro t ht
    have hlow := rnds_low P W hn hrow hc hc' hw t
    have ht6 : (t : Int) ≤ 6 := by omega
    have hend : Ev (fun k => impl_DuesOf.l0 k P W (rnd (cst P) P.length (wF W) (rnds (cst P) P.length (wF W) t)).1 (rnd (cst P) P.length (wF W) (rnds (cst P) P.length (wF W) t)).2) (rnds (cst P) P.length (wF W) (P.length - 1), true) := by
      cases q : (rnd (cst P) P.length (wF W) (rnds (cst P) P.length (wF W) t)).2 with
      | true => exact ih (t + 1) (by omega)
      | false =>
        have e := (rxs_flag (cst P) (wF W) (pairs P.length) _ q).1
        have e1 : (rnd (cst P) P.length (wF W) (rnds (cst P) P.length (wF W) t)).1 = rnds (cst P) P.length (wF W) t := congrArg Prod.fst e
        have e2 := rest_stays P W hn hrow hc hc' hw t q (P.length - 1 - t)
        rw [show t + (P.length - 1 - t) = P.length - 1 by omega] at e2
        rw [e1, e2]
        exact Ev.at 1 0 (fun k _ => by simp [impl_DuesOf.l0])
    refine Ev.back 1 0 (fun k _ => ?_) (impl_round P W hn hrow hc hc' hw _ _ (by omega) (by omega) hlow _ hend)
    simp only [impl_DuesOf.l0, if_true]
end
theorem who_up (W : List Int) (n : Nat) (h : goodWho W n = true) : up ((List.range n).map (wF W)) = W := by
  have hl := (who_at W n h).1
  refine List.ext_getElem (by simp [up, hl]) (fun i h1 h2 => ?_)
  simp only [up, List.getElem_map, List.getElem_range]
  rw [← who_rd W n h i (by omega), rd_get W i h2]
/-- The dues, at any prices and any who. -/
theorem dues_impl (P : List (List Int)) (W : List Int) (hb : P.length ≤ 1048576) (hi : ∀ j (h : j < P.length), P[j].length ≤ 1048576) (hwl : W.length ≤ 1048576) :
    ∃ G b, G.length ≤ 6 ∧ Ev (fun k => impl_DuesOf.f k P W) (G, b) ∧
      (b = true ↔ goodPrices P = true ∧ goodWho W P.length = true ∧ Best (cst P) P.length (wF W)) ∧ (b = true → G = rnds (cst P) P.length (wF W) (P.length - 1)) := by
  obtain ⟨K3, h3⟩ := impl_who P W hb hi hwl
  by_cases hp : goodPrices P = true
  · by_cases hw : goodWho W P.length = true
    · have hl := prices_len P hp
      obtain ⟨q1, q2, q3⟩ := cst_in P hp
      have hl2 := (who_at W P.length hw).1
      obtain ⟨K4, h4⟩ := best_impl P (by omega) q1 q2 q3
      have hW := who_perm W P.length hw
      have hcost := cost_ev P (by omega) q1 q2 q3 ((List.range P.length).map (wF W)) (by simp) (fun t ht => by
        obtain ⟨i, hi, e⟩ := List.mem_map.1 ht
        rw [← e]
        exact hW.1 i (List.mem_range.1 hi))
      rw [who_up W P.length hw, costW_costF] at hcost
      obtain ⟨K5, h5⟩ := hcost
      have hbi := best_iff (cst P) P.length q2 (wF W) hW
      have e1 : List.replicate ((W.length : Int)).toNat (0 : Int) = rnds (cst P) P.length (wF W) 0 := by rw [hl2]; simp [rnds]
      have g3 : (0 : Int) ≤ (W.length : Int) := by omega
      have g4 : ((W.length : Int)).toNat ≤ 35184372088832 := by omega
      by_cases hbest : Best (cst P) P.length (wF W)
      · obtain ⟨K7, h7⟩ := rounds_impl P W hl.2 q1 q2 q3 hw hl.1 hbest (P.length - 1) 0 (by omega)
        have hc := hbi.1 hbest
        refine ⟨_, true, by rw [rnds_len]; exact hl.2, ⟨K3 + K4 + K5 + K7, fun k hk => ?_⟩, ⟨fun _ => ⟨hp, hw, hbest⟩, fun _ => rfl⟩, fun _ => rfl⟩
        have a := h3 k (by omega)
        have b := h4 k (by omega)
        have c := h5 k (by omega)
        have d := h7 k (by omega)
        simp only at a b c d
        simp only [impl_DuesOf.f, a, b, c, hp, hw, Bool.and_self, Option.bind_some, if_true, hc, g3, g4, e1]
        exact d
      · have hc : ¬ costF (cst P) (wF W) P.length = (lg (cst P) P.length P.length []).1 := fun e => hbest (hbi.2 e)
        refine ⟨[], false, by simp, ⟨K3 + K4 + K5, fun k hk => ?_⟩, ⟨fun h => (by cases h), fun h => absurd h.2.2 hbest⟩, fun h => by cases h⟩
        have a := h3 k (by omega)
        have b := h4 k (by omega)
        have c := h5 k (by omega)
        simp only at a b c
        simp only [impl_DuesOf.f, a, b, c, hp, hw, Bool.and_self, Option.bind_some, if_true, hc, if_false]
    · refine ⟨[], false, by simp, ⟨K3, fun k hk => ?_⟩, ⟨fun h => (by cases h), fun h => absurd h.2.1 hw⟩, fun h => by cases h⟩
      have a := h3 k (by omega)
      simp only at a
      have hw' : goodWho W P.length = false := Bool.eq_false_iff.mpr hw
      simp only [impl_DuesOf.f, a, hp, hw', Bool.and_false, Option.bind_some, Bool.false_eq_true, if_false]
  · have hp' : goodPrices P = false := Bool.eq_false_iff.mpr hp
    refine ⟨[], false, by simp, ⟨K3, fun k hk => ?_⟩, ⟨fun h => (by cases h), fun h => absurd h.1 hp⟩, fun h => by cases h⟩
    have a := h3 k (by omega)
    simp only at a
    simp only [impl_DuesOf.f, a, hp', Bool.false_and, Option.bind_some, Bool.false_eq_true, if_false]
theorem lg_least (c : Nat → Nat → Int) (n : Nat) (hc : ∀ i t, 0 ≤ c i t) (f : Nat → Nat) (hf : IsPerm n f) : (lg c n n []).1 ≤ costF c f n := by
  rw [← costW_costF c f n]
  have hn : ((List.range n).map f).Nodup := (perm_map n f hf).nodup_iff.2 List.nodup_range
  exact lg_min c n hc n [] _ (by simp) (by simp) (by simpa using hn) (fun t ht => by
    obtain ⟨i, hi, e⟩ := List.mem_map.1 ht
    rw [← e]
    exact hf.1 i (List.mem_range.1 hi))
/-- An assignment of natural numbers, each task once, is good. -/
theorem up_good (S : List Nat) (n : Nat) (hl : S.length = n) (hn : S.Nodup) (hlt : ∀ t ∈ S, t < n) : goodWho (up S) n = true := by
  simp only [goodWho, Bool.and_eq_true, decide_eq_true_eq, range_all, up_len]
  refine ⟨hl, fun i hi => ?_⟩
  have h1 := hlt S[i] (List.getElem_mem hi)
  simp only [whoAt, Bool.and_eq_true, decide_eq_true_eq, Bool.not_eq_true', up_at S i hi, up_len]
  refine ⟨⟨by omega, by omega⟩, ?_⟩
  rw [Bool.eq_false_iff]
  intro hm
  have hm := List.contains_iff_mem.1 hm
  obtain ⟨j, hj, e⟩ := List.mem_take_iff_getElem.1 hm
  have hji : j < i := by omega
  have hjl : j < S.length := by omega
  have e2 : S[j] = S[i] := by
    have : (up S)[j]'(by rw [up_len]; exact hjl) = ((S[j] : Nat) : Int) := by simp [up]
    omega
  exact List.pairwise_iff_getElem.1 (List.nodup_iff_pairwise_ne.1 hn) j i hjl hi hji e2
/-- Where who costs least, nobody would rather have another task. -/
theorem fine_ev (P : List (List Int)) (W : List Int) (hp : goodPrices P = true) (hw : goodWho W P.length = true) (hbest : Best (cst P) P.length (wF W)) (hb : P.length ≤ 1048576) (hi : ∀ j (h : j < P.length), P[j].length ≤ 1048576) (hwl : W.length ≤ 1048576) :
    Ev (fun k => spec_DuesFine.f k P W (rnds (cst P) P.length (wF W) (P.length - 1))) true := by
  obtain ⟨K1, h1⟩ := spec_prices P (by omega) hi
  obtain ⟨K2, h2⟩ := spec_who W P.length (by omega) hwl
  have hl := prices_len P hp
  obtain ⟨q1, q2, q3⟩ := cst_in P hp
  have hl2 := (who_at W P.length hw).1
  have hlow := rnds_low P W hl.2 q1 q2 q3 hw (P.length - 1)
  have hrest := rnds_rest (cst P) P.length (wF W) hbest (perm_onto P.length (wF W) hbest.1) (by omega)
  have hwish : ∀ r b, r < P.length → b < P.length → dAt (rnds (cst P) P.length (wF W) (P.length - 1)) (wF W r) ≤ wish (cst P) (wF W) (rnds (cst P) P.length (wF W) (P.length - 1)) r b := fun r b hr hb => by
    have := rxs_wish (cst P) (wF W) (pairs P.length) (rnds (cst P) P.length (wF W) (P.length - 1), false) (pairs_in P.length (wF W) hbest.1 _ (rnds_len _ _ _ _)) (r, b) ((pairs_mem P.length r b).2 ⟨hr, hb⟩)
    rw [show rxs (cst P) (wF W) (pairs P.length) (rnds (cst P) P.length (wF W) (P.length - 1), false) = (rnds (cst P) P.length (wF W) (P.length - 1), false) from hrest] at this
    exact this
  generalize rnds (cst P) P.length (wF W) (P.length - 1) = D at hlow hwish ⊢
  have hnest := nest_loop P.length (fun k r (_ : Unit) => spec_DuesFine.l0 k P D W (W.length : Int) (r : Int)) (fun k r b (_ : Unit) => spec_DuesFine.l1 k P D (r : Int) (rd W (r : Int)) W (W.length : Int) (r : Int) (D.length : Int) (b : Int)) (fun _ _ => ()) true (fun _ _ => rfl)
    (fun r hr => ⟨0, fun k _ => by
      have hwr := who_rd W P.length hw r hr
      have hwn := hbest.1.1 r hr
      have g1 : (r : Int) < (W.length : Int) := by omega
      have g2 : (0 : Int) ≤ (r : Int) := by omega
      have g3 : (0 : Int) ≤ rd W (r : Int) := by omega
      have g4 : rd W (r : Int) < (D.length : Int) := by rw [hlow.1]; omega
      have g5 : ¬ rd D (rd W (r : Int)) > 0 := by
        rw [hwr, rd_dAt]
        have := (hlow.2 (wF W r)).2
        omega
      simp only [spec_DuesFine.l0, g1, g2, g3, g4, g5, if_true, if_false]
      rfl⟩)
    (fun r b hr hb => ⟨0, fun k _ => by
      have hwr := who_rd W P.length hw r hr
      have hwn := hbest.1.1 r hr
      have g0 : (b : Int) < (D.length : Int) := by rw [hlow.1]; omega
      have g1 : (0 : Int) ≤ (r : Int) := by omega
      have g2 : (r : Int) < (P.length : Int) := by omega
      have g3 : (0 : Int) ≤ rd W (r : Int) := by omega
      have g4 : rd W (r : Int) < ((rd_L1 P (r : Int)).length : Int) := by rw [q1 r hr]; omega
      have g5 : rd W (r : Int) < (D.length : Int) := by rw [hlow.1]; omega
      have g6 : (0 : Int) ≤ (b : Int) := by omega
      have g7 : (b : Int) < ((rd_L1 P (r : Int)).length : Int) := by rw [q1 r hr]; omega
      have g8 : ¬ wrap64 (rd (rd_L1 P (r : Int)) (rd W (r : Int)) + rd D (rd W (r : Int))) > wrap64 (rd (rd_L1 P (r : Int)) (b : Int) + rd D (b : Int)) := by
        rw [hwr, rd_dAt, rd_dAt]
        show ¬ wrap64 (cst P r (wF W r) + dAt D (wF W r)) > wrap64 (cst P r b + dAt D b)
        have a1 := hlow.2 (wF W r)
        have a2 := hlow.2 b
        have a3 := q2 r b
        have a4 := q3 r b
        have a5 := q2 r (wF W r)
        have a6 := q3 r (wF W r)
        have a7 := hwish r b hr hb
        simp only [wish] at a7
        have a8 : ((P.length - 1 : Nat) : Int) ≤ 6 := by omega
        rw [wrap_in (by omega) (by omega), wrap_in (by omega) (by omega)]
        omega
      simp only [spec_DuesFine.l1, g0, g1, g2, g3, g4, g5, g6, g7, g8, if_true, if_false, wrap_succ b (by omega)]⟩)
    (fun r hr => ⟨0, fun k _ => by
      have g1 : ¬ (P.length : Int) < (D.length : Int) := by rw [hlow.1]; omega
      simp only [spec_DuesFine.l1, g1, if_false, wrap_succ r (by omega)]⟩)
    (Ev.at 1 0 (fun k _ => by
      have g1 : ¬ (P.length : Int) < (W.length : Int) := by omega
      simp only [spec_DuesFine.l0, g1, if_false]))
  obtain ⟨K3, h3⟩ := hnest
  refine ⟨K1 + K2 + K3 + 1, fun k hk => ?_⟩
  obtain ⟨m, rfl⟩ : ∃ m, k = m + 1 := ⟨k - 1, by omega⟩
  have a := h1 (m + 1) (by omega)
  have b := h2 (m + 1) (by omega)
  have c := h3 m (by omega)
  simp only at a b c
  have e : ((D.length : Int) != (P.length : Int)) = false := by rw [hlow.1]; simp
  simp only [spec_DuesFine.f, a, b, hp, hw, Option.bind_some, if_true, e, spec_DuesFine.j0, Bool.false_eq_true, if_false]
  exact c
theorem draw_dues (c : List Int) (hc : Bytes c) : ∃ (P : List (List Int)) (W : List Int), Ev (fun k => spec_DrawDuesOf.f k c) (P, W) ∧ P.length ≤ 8 ∧ (∀ x ∈ P, x.length ≤ 8) ∧ W.length ≤ 8 := by
  obtain ⟨⟨P, a1, s1⟩, hpost, he⟩ := prices_draw c hc
  have hP : P.length ≤ 8 := hpost.1
  have hrow : ∀ x ∈ P, x.length ≤ 8 := hpost.2.1
  have h0 : 0 ≤ a1 := hpost.2.2.1
  have h1 : a1 ≤ 2000 := hpost.2.2.2
  clear hpost
  obtain ⟨G, co, b, hG, hs, _⟩ := best_any P (by omega) (fun j h => by have := hrow _ (List.getElem_mem h); omega)
  cases b with
  | false =>
    obtain ⟨W, a2, s2, he2, hW, h2, h3⟩ := who_l0 c hc P.length hP P.length [] a1 s1 (by simp) h0 (by omega)
    have he2' : Ev (fun k => spec_l1Cur_who.f k c a1 s1 (P.length : Int)) (W, a2, s2) := he2
    refine ⟨P, W, ?_, hP, hrow, by omega⟩
    simp only [spec_DrawDuesOf.f]
    refine Ev.bind he (Ev.bind hs ?_)
    simp only [Bool.false_eq_true, if_false]
    refine Ev.bind he2' ?_
    exact Ev.now _
  | true =>
    obtain ⟨q, a2, s2, e2, m1, m2⟩ := one_ok2 c hc a1 s1 3 h0 (by omega) (by omega)
    cases q with
    | false =>
      refine ⟨P, G, ?_, hP, hrow, by omega⟩
      simp only [spec_DrawDuesOf.f]
      refine Ev.bind he (Ev.bind hs ?_)
      simp only [if_true, e2, Option.bind_some, Bool.false_eq_true, if_false]
      exact Ev.now _
    | true =>
      obtain ⟨W, a3, s3, he3, hW, h2, h3⟩ := who_l0 c hc P.length hP P.length [] a2 s2 (by simp) (by omega) (by omega)
      have he3' : Ev (fun k => spec_l1Cur_who.f k c a2 s2 (P.length : Int)) (W, a3, s3) := he3
      refine ⟨P, W, ?_, hP, hrow, by omega⟩
      simp only [spec_DrawDuesOf.f]
      refine Ev.bind he (Ev.bind hs ?_)
      simp only [if_true, e2, Option.bind_some]
      refine Ev.bind he3' ?_
      exact Ev.now _
theorem cost_of (P : List (List Int)) (W : List Int) (hp : goodPrices P = true) (hw : goodWho W P.length = true) (hb : P.length ≤ 1048576) (hi : ∀ j (h : j < P.length), P[j].length ≤ 1048576) (hwl : W.length ≤ 1048576) :
    Ev (fun k => impl_AssignCost.f k P W) (costF (cst P) (wF W) P.length, true) := by
  have hl := prices_len P hp
  obtain ⟨q1, q2, q3⟩ := cst_in P hp
  have hW := who_perm W P.length hw
  have hcost := cost_ev P (by omega) q1 q2 q3 ((List.range P.length).map (wF W)) (by simp) (fun t ht => by
    obtain ⟨i, hi, e⟩ := List.mem_map.1 ht
    rw [← e]
    exact hW.1 i (List.mem_range.1 hi))
  rw [who_up W P.length hw, costW_costF] at hcost
  have h3 := impl_who P W hb hi hwl
  rw [hp, hw] at h3
  simp only [impl_AssignCost.f]
  refine Ev.bind h3 ?_
  simp only [Bool.and_self, if_true]
  refine Ev.bind hcost ?_
  exact Ev.now _
theorem FnAssign : laws_FnAssign.Pure := by
  intro c _ _ hc
  by_cases h1 : (c.length : Int) > 1048576
  · exact ⟨0, by simp [laws_FnAssign.f, h1]⟩
  have hb : Bytes c := fun x hx => by
    have := hc x hx
    simp only [Lit.wf, IntKind.min, IntKind.max, IntKind.signed, IntKind.bits, Bool.and_eq_true, decide_eq_true_eq] at this
    simp at this
    omega
  obtain ⟨P, W, hd, hP, hrow, hW⟩ := draw_dues c hb
  have hPb : P.length ≤ 1048576 := by omega
  have hPi : ∀ j (h : j < P.length), P[j].length ≤ 1048576 := fun j h => by have := hrow _ (List.getElem_mem h); omega
  have hWb : W.length ≤ 1048576 := by omega
  obtain ⟨G, b, hG, hdi, hbt, hGe⟩ := dues_impl P W hPb hPi hWb
  refine Ev.rounds (g := fun k => laws_FnAssign.f k c) ?_
  simp only [laws_FnAssign.f, h1, if_false]
  refine Ev.bind hd ?_
  by_cases hp : goodPrices P = true
  · have hl := prices_len P hp
    obtain ⟨q1, q2, q3⟩ := cst_in P hp
    obtain ⟨hbi, hbs⟩ := best_both P (by omega) q1 q2 q3
    have hgp := spec_prices P (by omega) hPi
    have hgi := impl_prices P (by omega) hPi
    rw [hp] at hgp hgi
    have hi : Ev (fun k => impl_BestAssign.f k P) (up (lg (cst P) P.length P.length []).2, (lg (cst P) P.length P.length []).1, true) := by
      simp only [impl_BestAssign.f]
      refine Ev.bind hgi ?_
      simp only [if_true]
      exact Ev.bind hbi (Ev.now _)
    have hs : Ev (fun k => spec_BestAssign.f k P) (up (lg (cst P) P.length P.length []).2, (lg (cst P) P.length P.length []).1, true) := by
      simp only [spec_BestAssign.f]
      refine Ev.bind hgp ?_
      simp only [if_true]
      exact hbs
    refine Ev.bind hi (Ev.bind hs ?_)
    simp only [bne_self_eq_false, Bool.false_eq_true, if_false]
    refine Ev.bind hdi ?_
    simp only [if_true]
    have hlen := lg_len (cst P) P.length q2 P.length [] (by simp)
    have hnd := lg_nodup (cst P) P.length q2 P.length [] (by simp) List.nodup_nil
    obtain ⟨hcost, hlt⟩ := lg_cost (cst P) P.length q2 P.length [] (by simp)
    simp only [List.nil_append] at hnd hcost hlt
    have hlt := hlt (fun t ht => by cases ht)
    have hgood := up_good _ P.length hlen hnd hlt
    have hc1 := cost_of P _ hp hgood hPb hPi (by rw [up_len]; omega)
    have ecost : costF (cst P) (wF (up (lg (cst P) P.length P.length []).2)) P.length = (lg (cst P) P.length P.length []).1 := by
      have e1 := costW_costF (cst P) (wF (up (lg (cst P) P.length P.length []).2)) P.length
      have e2 : (List.range P.length).map (wF (up (lg (cst P) P.length P.length []).2)) = (lg (cst P) P.length P.length []).2 := by
        refine List.ext_getElem (by simp [hlen]) (fun i h1 h2 => ?_)
        simp only [List.getElem_map, List.getElem_range]
        unfold wF
        rw [up_at _ i h2]
        simp
      rw [e2, hcost] at e1
      rw [← e1]
      simp [costW]
    rw [ecost] at hc1
    refine Ev.bind hc1 ?_
    by_cases hw : goodWho W P.length = true
    · have hW2 := who_perm W P.length hw
      have hbf := best_iff (cst P) P.length q2 (wF W) hW2
      have hle := lg_least (cst P) P.length q2 (wF W) hW2
      refine Ev.bind (cost_of P W hp hw hPb hPi hWb) ?_
      simp only [if_true]
      have c1 : ¬ costF (cst P) (wF W) P.length < (lg (cst P) P.length P.length []).1 := by omega
      simp only [c1, if_false]
      cases b with
      | true =>
        have hbest := (hbt.1 rfl).2.2
        have e := hbf.1 hbest
        rw [e, hGe rfl]
        simp only [beq_self_eq_true, bne_self_eq_false, Bool.false_eq_true, if_false, if_true]
        refine Ev.bind (fine_ev P W hp hw hbest hPb hPi hWb) ?_
        exact Ev.now _
      | false =>
        have hnb : ¬ Best (cst P) P.length (wF W) := fun h => by have := hbt.2 ⟨hp, hw, h⟩; cases this
        have e : (costF (cst P) (wF W) P.length == (lg (cst P) P.length P.length []).1) = false := by
          rw [beq_eq_false_iff_ne]
          exact fun q => hnb (hbf.2 q)
        simp only [e, bne_self_eq_false, Bool.false_eq_true, if_false]
        exact Ev.now _
    · have hwf : goodWho W P.length = false := Bool.eq_false_iff.mpr hw
      have hwho := impl_who P W hPb hPi hWb
      rw [hp, hwf] at hwho
      have hc2 : Ev (fun k => impl_AssignCost.f k P W) (0, false) := by
        simp only [impl_AssignCost.f]
        refine Ev.bind hwho ?_
        simp only [Bool.and_false, Bool.false_eq_true, if_false]
        exact Ev.now _
      refine Ev.bind hc2 ?_
      cases b with
      | true => exact absurd (hbt.1 rfl).2.1 hw
      | false =>
        simp only [if_true, Bool.false_eq_true, if_false, bne_self_eq_false]
        exact Ev.now _
  · have hpf : goodPrices P = false := Bool.eq_false_iff.mpr hp
    have hgp := spec_prices P (by omega) hPi
    have hgi := impl_prices P (by omega) hPi
    rw [hpf] at hgp hgi
    have hi : Ev (fun k => impl_BestAssign.f k P) ([], 0, false) := by
      simp only [impl_BestAssign.f]
      refine Ev.bind hgi ?_
      simp only [Bool.false_eq_true, if_false]
      exact Ev.now _
    have hs : Ev (fun k => spec_BestAssign.f k P) ([], 0, false) := by
      simp only [spec_BestAssign.f]
      refine Ev.bind hgp ?_
      simp only [Bool.false_eq_true, if_false]
      exact Ev.now _
    refine Ev.bind hi (Ev.bind hs ?_)
    simp only [bne_self_eq_false, Bool.false_eq_true, if_false]
    refine Ev.bind hdi ?_
    cases b with
    | true => exact absurd (hbt.1 rfl).1 hp
    | false =>
      simp only [Bool.not_false]
      exact Ev.now _

end Go.Proofs.Ytllcdmjleohikaa.Pure
