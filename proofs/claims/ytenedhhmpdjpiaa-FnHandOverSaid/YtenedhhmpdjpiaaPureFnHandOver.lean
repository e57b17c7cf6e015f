/- For drawn prices: each task is somebody's still, none is the gone robot's. No condition. -/
import Derived.Test.YtenedhhmpdjpiaaQFnHandOverx9
import Derived.Test.YtenedhhmpdjpiaaPlain
namespace Go.Proofs.Ytenedhhmpdjpiaa.Pure
open Go.RowKit Go.Proofs.Ytenedhhmpdjpiaa.PFnHandOver Go.Proofs.Ytenedhhmpdjpiaa.Plain Go.Proofs.YtenedhhmpdjpiaaW.PrintWords Go.Proofs.YtenedhhmpdjpiaaW.PrintLast
set_option linter.unusedVariables false
set_option linter.unusedSimpArgs false

theorem between_eq (a lo hi : Int) : impl_between.f a lo hi = some (decide (lo ≤ a ∧ a ≤ hi)) := by
  unfold impl_between.f
  split <;> simp <;> omega
def okRow (x : List Int) (n : Nat) : Bool := decide (x.length = n) && (List.range x.length).all (fun j => decide (0 ≤ rd x (j : Int) ∧ rd x (j : Int) ≤ 100000))
def goodPrices (l : List (List Int)) : Bool := decide (1 ≤ l.length ∧ l.length ≤ 6) && (List.range l.length).all (fun i => okRow (rd_L2 l (i : Int)) l.length)
theorem spec_prices (l : List (List Int)) (hb : l.length ≤ 1099511627776) (hi : ∀ j (h : j < l.length), l[j].length ≤ 1048576) : Ev (fun k => spec_GoodPrices.f k l) (goodPrices l) := by
  have hin : ∀ (i : Nat), i < l.length → ∀ (x : List Int), x.length ≤ 1048576 → ∀ r, Ev (fun k => spec_GoodPrices.l0 k (l.length : Int) l (l.length : Int) ((i + 1 : Nat) : Int)) r →
      Ev (fun k => spec_GoodPrices.l1 k (l.length : Int) l (l.length : Int) (i : Int) x (x.length : Int) 0) (if (List.range x.length).all (fun j => decide (0 ≤ rd x (j : Int) ∧ rd x (j : Int) ≤ 100000)) = true then r else false) := by
    intro i hlt x hx r hr
    refine all_loop2 (fun k j => spec_GoodPrices.l1 k (l.length : Int) l (l.length : Int) (i : Int) x (x.length : Int) j) x.length _ r false ?_ ?_ ?_
    · refine Ev.back 1 0 (fun k _ => ?_) hr
      have h1 : ¬ ((x.length : Int) < (x.length : Int)) := by omega
      simp only [spec_GoodPrices.l1, h1, if_false, wrap_succ i (by omega)]
    · intro j hj hp q hq
      refine Ev.back 1 0 (fun k _ => ?_) hq
      have h1 : (j : Int) < (x.length : Int) := by omega
      have h2 : (0 : Int) ≤ (j : Int) := by omega
      rw [decide_eq_true_eq] at hp
      simp only [spec_GoodPrices.l1, h1, h2, if_true, wrap_succ j (by omega)]
      rw [if_neg (by omega), if_neg (by omega)]
    · intro j hj hp
      refine Ev.at 1 0 (fun k _ => ?_)
      have h1 : (j : Int) < (x.length : Int) := by omega
      have h2 : (0 : Int) ≤ (j : Int) := by omega
      rw [decide_eq_false_iff_not] at hp
      simp only [spec_GoodPrices.l1, h1, h2, if_true]
      split
      · rfl
      · rw [if_pos (by omega)]
  have hl := all_loop2 (fun k i => spec_GoodPrices.l0 k (l.length : Int) l (l.length : Int) i) l.length (fun i => okRow (rd_L2 l (i : Int)) l.length) true false
    (Ev.at 1 0 (fun k _ => by simp [spec_GoodPrices.l0]))
    (fun i hlt hp r hr => by
      have h1 : (i : Int) < (l.length : Int) := by omega
      have h2 : (0 : Int) ≤ (i : Int) := by omega
      have h4 : rd_L2 l (i : Int) = l[i] := by simp [rd_L2, hlt]
      have hb' := hi i hlt
      simp only [okRow, Bool.and_eq_true, decide_eq_true_eq] at hp
      have := hin i hlt (rd_L2 l (i : Int)) (by rw [h4]; exact hb') r hr
      rw [if_pos hp.2] at this
      refine Ev.back 1 0 (fun k _ => ?_) this
      simp only [spec_GoodPrices.l0, h1, h2, if_true]
      rw [if_pos (by omega)])
    (fun i hlt hp => by
      have h1 : (i : Int) < (l.length : Int) := by omega
      have h2 : (0 : Int) ≤ (i : Int) := by omega
      have h4 : rd_L2 l (i : Int) = l[i] := by simp [rd_L2, hlt]
      have hb' := hi i hlt
      by_cases hlen : (rd_L2 l (i : Int)).length = l.length
      · simp only [okRow, hlen, decide_true, Bool.true_and] at hp
        have key : ∀ (d j : Nat), j + d = (rd_L2 l (i : Int)).length → (List.range' j d).all (fun j => decide (0 ≤ rd (rd_L2 l (i : Int)) (j : Int) ∧ rd (rd_L2 l (i : Int)) (j : Int) ≤ 100000)) = false →
            Ev (fun k => spec_GoodPrices.l1 k (l.length : Int) l (l.length : Int) (i : Int) (rd_L2 l (i : Int)) ((rd_L2 l (i : Int)).length : Int) (j : Int)) false := by
          intro d
          induction d with
          | zero =>
            intro j _ h
            simp at h
          | succ d ih =>
            intro j hj h
            have h5 : (j : Int) < ((rd_L2 l (i : Int)).length : Int) := by omega
            have h6 : (0 : Int) ≤ (j : Int) := by omega
            rw [List.range'_succ, List.all_cons] at h
            by_cases hc : 0 ≤ rd (rd_L2 l (i : Int)) (j : Int) ∧ rd (rd_L2 l (i : Int)) (j : Int) ≤ 100000
            · rw [decide_eq_true hc, Bool.true_and] at h
              refine Ev.back 1 0 (fun k _ => ?_) (ih (j + 1) (by omega) h)
              rw [h4] at *
              simp only [spec_GoodPrices.l1, h5, h6, if_true, wrap_succ j (by omega)]
              rw [if_neg (by omega), if_neg (by omega)]
            · refine Ev.at 1 0 (fun k _ => ?_)
              simp only [spec_GoodPrices.l1, h5, h6, if_true]
              split
              · rfl
              · rw [if_pos (by omega)]
        rw [← hlen, List.range_eq_range'] at hp
        have := key _ 0 (by omega) hp
        refine Ev.back 1 0 (fun k _ => ?_) this
        simp only [spec_GoodPrices.l0, h1, h2, if_true]
        rw [if_pos (by omega)]
        rfl
      · refine Ev.at 1 0 (fun k _ => ?_)
        simp only [spec_GoodPrices.l0, h1, h2, if_true]
        rw [if_neg (by omega)])
  obtain ⟨K, hK⟩ := hl
  refine ⟨K + 1, fun k hk => ?_⟩
  obtain ⟨m, rfl⟩ : ∃ m, k = m + 1 := ⟨k - 1, by omega⟩
  have hk' := hK m (by omega)
  simp only [spec_GoodPrices.f, spec_GoodPrices.j0, hk', goodPrices]
  generalize (List.range l.length).all (fun (i : Nat) => okRow (rd_L2 l (i : Int)) l.length) = q
  by_cases h1 : 1 ≤ l.length
  · by_cases h6 : l.length ≤ 6
    · have e1 : ¬ ((l.length : Int) < 1) := by omega
      have e2 : ¬ ((l.length : Int) > 6) := by omega
      cases q <;> simp [e1, e2, h1, h6]
    · have e1 : ¬ ((l.length : Int) < 1) := by omega
      have e2 : ((l.length : Int) > 6) := by omega
      cases q <;> simp [e1, e2, h1, h6]
  · have e1 : ((l.length : Int) < 1) := by omega
    simp [e1, h1]
theorem impl_prices (l : List (List Int)) (hb : l.length ≤ 1099511627776) (hi : ∀ j (h : j < l.length), l[j].length ≤ 1048576) : Ev (fun k => impl_GoodPrices.f k l) (goodPrices l) := by
  have key : ∀ (i : Nat), i < l.length → ∀ (x : List Int), x.length ≤ 1048576 → ∀ (d j : Nat), j + d = x.length →
      ((List.range' j d).all (fun j => decide (0 ≤ rd x (j : Int) ∧ rd x (j : Int) ≤ 100000)) = false → Ev (fun k => impl_GoodPrices.l1 k (l.length : Int) l (l.length : Int) (i : Int) x (x.length : Int) (j : Int)) false) ∧
      ((List.range' j d).all (fun j => decide (0 ≤ rd x (j : Int) ∧ rd x (j : Int) ≤ 100000)) = true → ∀ r, Ev (fun k => impl_GoodPrices.l0 k (l.length : Int) l (l.length : Int) ((i + 1 : Nat) : Int)) r → Ev (fun k => impl_GoodPrices.l1 k (l.length : Int) l (l.length : Int) (i : Int) x (x.length : Int) (j : Int)) r) := by
    intro i hlt x hx d
    induction d with
    | zero =>
      intro j hj
      obtain rfl : j = x.length := by omega
      refine ⟨fun h => by simp at h, fun _ r hr => Ev.back 1 0 (fun k _ => ?_) hr⟩
      have h1 : ¬ ((x.length : Int) < (x.length : Int)) := by omega
      simp only [impl_GoodPrices.l1, h1, if_false, wrap_succ i (by omega)]
    | succ d ih =>
      intro j hj
      have h1 : (j : Int) < (x.length : Int) := by omega
      have h2 : (0 : Int) ≤ (j : Int) := by omega
      rw [List.range'_succ, List.all_cons]
      by_cases hc : 0 ≤ rd x (j : Int) ∧ rd x (j : Int) ≤ 100000
      · have e : ∀ k, impl_GoodPrices.l1 (k + 1) (l.length : Int) l (l.length : Int) (i : Int) x (x.length : Int) (j : Int) = impl_GoodPrices.l1 k (l.length : Int) l (l.length : Int) (i : Int) x (x.length : Int) ((j + 1 : Nat) : Int) := by
          intro k
          simp only [impl_GoodPrices.l1, h1, h2, if_true, between_eq, Option.bind_some, hc, and_self, decide_true, wrap_succ j (by omega)]
        rw [decide_eq_true hc, Bool.true_and]
        exact ⟨fun h => Ev.back 1 0 (fun k _ => e k) ((ih (j + 1) (by omega)).1 h), fun h r hr => Ev.back 1 0 (fun k _ => e k) ((ih (j + 1) (by omega)).2 h r hr)⟩
      · rw [decide_eq_false hc, Bool.false_and]
        refine ⟨fun _ => Ev.at 1 0 (fun k _ => ?_), fun h => by cases h⟩
        simp only [impl_GoodPrices.l1, h1, h2, if_true, between_eq, Option.bind_some, decide_eq_false hc, Bool.false_eq_true, if_false]
  have hl := all_loop2 (fun k i => impl_GoodPrices.l0 k (l.length : Int) l (l.length : Int) i) l.length (fun i => okRow (rd_L2 l (i : Int)) l.length) (decide (1 ≤ l.length ∧ l.length ≤ 6)) false
    (Ev.at 1 0 (fun k _ => by
      have h1 : ¬ ((l.length : Int) < (l.length : Int)) := by omega
      simp only [impl_GoodPrices.l0, h1, if_false, between_eq, Option.bind_some, Option.some.injEq]
      apply decide_eq_decide.2
      omega))
    (fun i hlt hp r hr => by
      have h1 : (i : Int) < (l.length : Int) := by omega
      have h2 : (0 : Int) ≤ (i : Int) := by omega
      have h4 : rd_L2 l (i : Int) = l[i] := by simp [rd_L2, hlt]
      have hb' := hi i hlt
      simp only [okRow, Bool.and_eq_true, decide_eq_true_eq] at hp
      have := (key i hlt (rd_L2 l (i : Int)) (by rw [h4]; exact hb') _ 0 (Nat.zero_add _)).2 (by rw [← List.range_eq_range']; exact hp.2) r hr
      refine Ev.back 1 0 (fun k _ => ?_) this
      simp only [impl_GoodPrices.l0, h1, h2, if_true]
      rw [if_pos (by omega)]
      rfl)
    (fun i hlt hp => by
      have h1 : (i : Int) < (l.length : Int) := by omega
      have h2 : (0 : Int) ≤ (i : Int) := by omega
      have h4 : rd_L2 l (i : Int) = l[i] := by simp [rd_L2, hlt]
      have hb' := hi i hlt
      by_cases hlen : (rd_L2 l (i : Int)).length = l.length
      · have hp2 : (List.range (rd_L2 l (i : Int)).length).all (fun j => decide (0 ≤ rd (rd_L2 l (i : Int)) (j : Int) ∧ rd (rd_L2 l (i : Int)) (j : Int) ≤ 100000)) = false := by
          simp only [okRow, decide_eq_true hlen, Bool.true_and] at hp
          exact hp
        have := (key i hlt (rd_L2 l (i : Int)) (by rw [h4]; exact hb') _ 0 (Nat.zero_add _)).1 (by rw [← List.range_eq_range']; exact hp2)
        refine Ev.back 1 0 (fun k _ => ?_) this
        simp only [impl_GoodPrices.l0, h1, h2, if_true]
        rw [if_pos (by omega)]
        rfl
      · refine Ev.at 1 0 (fun k _ => ?_)
        simp only [impl_GoodPrices.l0, h1, h2, if_true]
        rw [if_neg (by omega)])
  have e : (if (List.range l.length).all (fun (i : Nat) => okRow (rd_L2 l (i : Int)) l.length) = true then decide (1 ≤ l.length ∧ l.length ≤ 6) else false) = goodPrices l := by
    unfold goodPrices
    cases (List.range l.length).all (fun (i : Nat) => okRow (rd_L2 l (i : Int)) l.length) <;> simp
  rw [e] at hl
  exact hl
def whoAt (w : List Int) (i : Nat) : Bool := decide (0 ≤ rd w (i : Int) ∧ rd w (i : Int) ≤ (w.length : Int) - 1) && !(w.take i).contains (rd w (i : Int))
def goodWho (w : List Int) (n : Nat) : Bool := decide (w.length = n) && (List.range w.length).all (whoAt w)
theorem take_mem_succ (w : List Int) (i : Nat) (h : i < w.length) (x : Int) : x ∈ w.take (i + 1) ↔ (x ∈ w.take i ∨ x = rd w (i : Int)) := by
  rw [List.take_succ_eq_append_getElem h, List.mem_append, List.mem_singleton, rd_get w i h]
theorem contains_ev (l : List Int) (a : Int) (hb : l.length ≤ 1099511627776) : Ev (fun k => slices_Contains_int_int.f k l a) (l.contains a) := by
  obtain ⟨r, hp, h⟩ := one_while (fun k (s : Int) => slices_Index_int_int.l0 k l a (l.length : Int) s) (fun d s => ∃ i : Nat, s = (i : Int) ∧ i + d = l.length ∧ a ∉ l.take i) (fun r => (r ≥ 0 ↔ a ∈ l))
    (by
      rintro d s ⟨i, rfl, hd, hno⟩
      by_cases hi : i < l.length
      · have h1 : (i : Int) < (l.length : Int) := by omega
        have h2 : (0 : Int) ≤ (i : Int) := by omega
        by_cases he : a = rd l (i : Int)
        · left
          refine ⟨(i : Int), ⟨fun _ => ?_, fun _ => by omega⟩, Ev.at 1 0 (fun k _ => ?_)⟩
          · rw [he, rd_get l i hi]
            exact List.getElem_mem _
          · simp only [slices_Index_int_int.l0, h1, h2, if_true]
            rw [if_pos he]
        · right
          refine ⟨d - 1, ((i + 1 : Nat) : Int), by omega, ⟨i + 1, rfl, by omega, ?_⟩, fun r hr => Ev.back 1 0 (fun k _ => ?_) hr⟩
          · rw [take_mem_succ l i hi]
            rintro (h | h)
            · exact hno h
            · exact he h
          · simp only [slices_Index_int_int.l0, h1, h2, if_true, wrap_succ i (by omega)]
            rw [if_neg he]
      · left
        have h1 : ¬ (i : Int) < (l.length : Int) := by omega
        rw [List.take_of_length_le (by omega)] at hno
        exact ⟨-1, ⟨fun h => by omega, fun h => absurd h hno⟩, Ev.at 1 0 (fun k _ => by simp only [slices_Index_int_int.l0, h1, if_false])⟩) l.length 0 ⟨0, rfl, by omega, by simp⟩
  obtain ⟨K, hK⟩ := h
  refine ⟨K, fun k hk => ?_⟩
  have h' := hK k hk
  simp only at h'
  simp only [slices_Contains_int_int.f, slices_Index_int_int.f, h', Option.bind_some, Option.some.injEq]
  rw [Bool.eq_iff_iff, decide_eq_true_eq, hp, List.contains_iff_mem]
theorem impl_who (p : List (List Int)) (w : List Int) (hb : p.length ≤ 1048576) (hi : ∀ j (h : j < p.length), p[j].length ≤ 1048576) (hw : w.length ≤ 1048576) :
    Ev (fun k => impl_goodWho.f k p w) (goodPrices p && goodWho w p.length) := by
  have hl := all_loop2 (fun k i => impl_goodWho.l0 k w w (w.length : Int) i) w.length (whoAt w) true false
    (Ev.at 1 0 (fun k _ => by simp [impl_goodWho.l0]))
    (fun i hlt hp r hr => by
      have h1 : (i : Int) < (w.length : Int) := by omega
      have h2 : (0 : Int) ≤ (i : Int) := by omega
      have h3 : (i : Int) ≤ (w.length : Int) := by omega
      simp only [whoAt, Bool.and_eq_true, Bool.not_eq_true', decide_eq_true_eq] at hp
      obtain ⟨K, hK⟩ := contains_ev (w.take i) (rd w (i : Int)) (by rw [List.length_take]; omega)
      refine Ev.back 1 K (fun k hk => ?_) hr
      have h5 := hK k hk
      simp only at h5
      rw [hp.2] at h5
      have hwr : wrap64 ((w.length : Int) - 1) = (w.length : Int) - 1 := wrap_in (by omega) (by omega)
      simp only [impl_goodWho.l0, h1, h2, h3, if_true, between_eq, Option.bind_some, hwr, hp.1, and_self, decide_true, toNat_i, h5, Bool.false_eq_true, if_false, wrap_succ i (by omega)])
    (fun i hlt hp => by
      have h1 : (i : Int) < (w.length : Int) := by omega
      have h2 : (0 : Int) ≤ (i : Int) := by omega
      have h3 : (i : Int) ≤ (w.length : Int) := by omega
      obtain ⟨K, hK⟩ := contains_ev (w.take i) (rd w (i : Int)) (by rw [List.length_take]; omega)
      refine Ev.at 1 K (fun k hk => ?_)
      have h5 := hK k hk
      simp only at h5
      have hwr : wrap64 ((w.length : Int) - 1) = (w.length : Int) - 1 := wrap_in (by omega) (by omega)
      simp only [impl_goodWho.l0, h1, h2, h3, if_true, between_eq, Option.bind_some, hwr, toNat_i, h5]
      simp only [whoAt] at hp
      cases hd : decide (0 ≤ rd w (i : Int) ∧ rd w (i : Int) ≤ (w.length : Int) - 1) with
      | false => simp
      | true =>
        rw [hd, Bool.true_and, Bool.not_eq_false'] at hp
        simp only [hp, if_true])
  obtain ⟨K1, h1⟩ := impl_prices p (by omega) hi
  obtain ⟨K2, h2⟩ := hl
  refine ⟨K1 + K2 + 1, fun k hk => ?_⟩
  obtain ⟨m, rfl⟩ : ∃ m, k = m + 1 := ⟨k - 1, by omega⟩
  have h1' := h1 (m + 1) (by omega)
  have h2' := h2 m (by omega)
  simp only at h1' h2'
  simp only [impl_goodWho.f, h1', Option.bind_some, impl_goodWho.j0, if_true, h2', goodWho]
  generalize (List.range w.length).all (whoAt w) = q
  cases goodPrices p with
  | false => simp
  | true =>
    by_cases e : w.length = p.length
    · have e' : ((w.length : Int) != (p.length : Int)) = false := by simp; omega
      rw [e', decide_eq_true e]
      cases q <;> simp
    · have e' : ((w.length : Int) != (p.length : Int)) = true := by simp; omega
      rw [e', decide_eq_false e]
      simp
theorem spec_who (w : List Int) (n : Nat) (hn : n ≤ 1048576) (hw : w.length ≤ 1048576) : Ev (fun k => spec_l27Who.f k w (n : Int)) (goodWho w n) := by
  by_cases e : w.length = n
  · subst e
    obtain ⟨r, hp, h⟩ := one_while (fun k (s : List Bool × Int) => spec_l27Who.l0 k (w.length : Int) s.1 w (w.length : Int) s.2)
      (fun d s => ∃ i : Nat, s.2 = (i : Int) ∧ i + d = w.length ∧ s.1.length = w.length ∧ (∀ j : Nat, j < w.length → (s.1.getD j false = true ↔ (j : Int) ∈ w.take i)) ∧ ∀ j, j < i → whoAt w j = true)
      (fun r => r = (List.range w.length).all (whoAt w))
      (by
        rintro d ⟨s, z⟩ ⟨i, hz, hd, hlen, hhad, hall⟩
        obtain rfl : z = (i : Int) := hz
        simp only at hlen hhad
        by_cases hi : i < w.length
        · have h1 : (i : Int) < (w.length : Int) := by omega
          have h2 : (0 : Int) ≤ (i : Int) := by omega
          have no : whoAt w i = false → (false = (List.range w.length).all (whoAt w)) := by
            intro hf
            symm
            rw [List.all_eq_false]
            exact ⟨i, List.mem_range.2 hi, by simp [hf]⟩
          by_cases hr : 0 ≤ rd w (i : Int) ∧ rd w (i : Int) ≤ (w.length : Int) - 1
          · have h3 : ¬ (rd w (i : Int) < 0) := by omega
            have h4 : ¬ (rd w (i : Int) ≥ (w.length : Int)) := by omega
            have h5 : (rd w (i : Int) < (s.length : Int)) := by omega
            have h6 : rdOf false s (rd w (i : Int)) = s.getD (rd w (i : Int)).toNat false := rfl
            have hh := hhad (rd w (i : Int)).toNat (by omega)
            rw [show (((rd w (i : Int)).toNat : Nat) : Int) = rd w (i : Int) by omega] at hh
            cases hb : s.getD (rd w (i : Int)).toNat false with
            | true =>
              left
              refine ⟨false, no ?_, Ev.at 1 0 (fun k _ => ?_)⟩
              · have := hh.1 hb
                simp only [whoAt]
                rw [List.contains_iff_mem.2 this]
                simp
              · simp only [spec_l27Who.l0, h1, h2, if_true, h3, h4, if_false, hr.1, h5, h6, hb]
            | false =>
              right
              have hnot : rd w (i : Int) ∉ w.take i := fun h => by
                rw [hh.2 h] at hb
                cases hb
              refine ⟨d - 1, (s.set (rd w (i : Int)).toNat true, ((i + 1 : Nat) : Int)), by omega, ⟨i + 1, rfl, by omega, by simp only [List.length_set]; exact hlen, fun j hj => ?_, fun j hj => ?_⟩, fun r hr' => Ev.back 1 0 (fun k _ => ?_) hr'⟩
              · simp only
                rw [take_mem_succ w i hi, ← hhad j hj]
                by_cases ej : (rd w (i : Int)).toNat = j
                · subst ej
                  rw [List.getD_eq_getElem?_getD, List.getElem?_set_self (by omega)]
                  simp
                  omega
                · rw [List.getD_eq_getElem?_getD, List.getElem?_set_ne ej, ← List.getD_eq_getElem?_getD]
                  constructor
                  · exact .inl
                  · rintro (h | h)
                    · exact h
                    · exfalso; omega
              · by_cases ej : j = i
                · subst ej
                  simp only [whoAt, Bool.and_eq_true, Bool.not_eq_true', decide_eq_true_eq]
                  refine ⟨hr, ?_⟩
                  rw [← Bool.not_eq_true, List.contains_iff_mem]
                  exact hnot
                · exact hall j (by omega)
              · simp only [spec_l27Who.l0, h1, h2, if_true, h3, h4, if_false, hr.1, h5, h6, hb, Bool.false_eq_true, wrap_succ i (by omega)]
          · left
            refine ⟨false, no ?_, Ev.at 1 0 (fun k _ => ?_)⟩
            · simp only [whoAt]
              rw [decide_eq_false hr]
              simp
            · simp only [spec_l27Who.l0, h1, h2, if_true]
              split
              · rfl
              · rw [if_pos (by omega)]
        · left
          have h1 : ¬ (i : Int) < (w.length : Int) := by omega
          refine ⟨true, ?_, Ev.at 1 0 (fun k _ => by simp only [spec_l27Who.l0, h1, if_false])⟩
          symm
          rw [range_all]
          exact fun j hj => hall j (by omega)) w.length (List.replicate w.length false, 0)
      ⟨0, rfl, by omega, by simp, fun j hj => by simp [List.getD_eq_getElem?_getD, List.getElem?_replicate, hj], fun j hj => by omega⟩
    subst hp
    refine Ev.congr (fun k => ?_) (r := goodWho w w.length) (f := fun k => spec_l27Who.l0 k (w.length : Int) (List.replicate w.length false) w (w.length : Int) 0) ?_
    · have h5 : w.length ≤ 100000000 := by omega
      simp only [spec_l27Who.f, toNat_i, if_true]
      rw [if_pos (by omega), if_pos (by omega)]
    · have e2 : goodWho w w.length = (List.range w.length).all (whoAt w) := by simp [goodWho]
      rw [e2]
      exact h
  · refine ⟨0, fun k _ => ?_⟩
    have e' : ¬ ((w.length : Int) = (n : Int)) := by omega
    simp only [spec_l27Who.f, e', if_false, goodWho, decide_eq_false e, Bool.false_and]
theorem prices_row (p : List (List Int)) (h : goodPrices p = true) (i : Nat) (hi : i < p.length) : (rd_L2 p (i : Int)).length = p.length ∧ ∀ j : Nat, j < p.length → 0 ≤ rd (rd_L2 p (i : Int)) (j : Int) ∧ rd (rd_L2 p (i : Int)) (j : Int) ≤ 100000 := by
  simp only [goodPrices, Bool.and_eq_true, range_all] at h
  have := h.2 i hi
  simp only [okRow, Bool.and_eq_true, decide_eq_true_eq, range_all] at this
  exact ⟨this.1, fun j hj => this.2 j (by omega)⟩
theorem prices_len (p : List (List Int)) (h : goodPrices p = true) : 1 ≤ p.length ∧ p.length ≤ 6 := by
  simp only [goodPrices, Bool.and_eq_true, decide_eq_true_eq] at h
  exact h.1
theorem who_at (w : List Int) (n : Nat) (h : goodWho w n = true) : w.length = n ∧ ∀ i : Nat, i < n → 0 ≤ rd w (i : Int) ∧ rd w (i : Int) < (n : Int) ∧ rd w (i : Int) ∉ w.take i := by
  simp only [goodWho, Bool.and_eq_true, decide_eq_true_eq, range_all] at h
  refine ⟨h.1, fun i hi => ?_⟩
  have := h.2 i (by omega)
  simp only [whoAt, Bool.and_eq_true, decide_eq_true_eq, Bool.not_eq_true'] at this
  refine ⟨this.1.1, by omega, fun hm => ?_⟩
  rw [List.contains_iff_mem.2 hm] at this
  simp at this
/-- What an assignment costs. -/
theorem wraps_u64 (n : Int) (h₀ : 0 ≤ n) (h₁ : n < 2 ^ 64) : IntKind.u64.wrap n = n := by rw [IntKind.wrap_u64]; omega
theorem u64_rng (n : Int) : 0 ≤ IntKind.u64.wrap n ∧ IntKind.u64.wrap n < 18446744073709551616 := by rw [IntKind.wrap_u64]; omega
theorem u64_and255 (x : Int) (h₀ : 0 ≤ x) (h₁ : x < 2 ^ 64) : Go.bits .and .u64 x 255 = x % 256 := bits_mask .u64 64 (by decide) wraps_u64 8 (by decide) x h₀ h₁
/-- The bytes that the draws read. -/
def Bytes (c : List Int) : Prop := ∀ x ∈ c, 0 ≤ x ∧ x ≤ 255
theorem bytes_rd (c : List Int) (h : Bytes c) (i : Int) : 0 ≤ rd c i ∧ rd c i ≤ 255 := by
  unfold rd
  rw [List.getD_eq_getElem?_getD]
  by_cases hi : i.toNat < c.length
  · rw [List.getElem?_eq_getElem hi]
    exact h _ (List.getElem_mem _)
  · rw [List.getElem?_eq_none (by omega)]
    simp
theorem seed_byte (u : Int) : 0 ≤ wrap64 (Go.bits .and .u64 ((IntKind.u64.wrap u) / 1099511627776) 255) ∧ wrap64 (Go.bits .and .u64 ((IntKind.u64.wrap u) / 1099511627776) 255) ≤ 255 := by
  have h := u64_rng u
  have h1 : 0 ≤ (IntKind.u64.wrap u) / 1099511627776 := by omega
  have h2 : (IntKind.u64.wrap u) / 1099511627776 < 2 ^ 64 := by omega
  rw [u64_and255 _ h1 h2, wrap_in (by omega) (by omega)]
  omega
theorem next_ok (c : List Int) (hc : Bytes c) (a s : Int) (h0 : 0 ≤ a) (h1 : a < 4611686018427387904) : ∃ r s', spec_l1Cur_next.f c a s = some (r, a + 1, s') ∧ 0 ≤ r ∧ r ≤ 255 := by
  have hw : wrap64 (a + 1) = a + 1 := wrap_in (by omega) (by omega)
  have hb := bytes_rd c hc a
  have hwb : wrap64 (rd c a) = rd c a := wrap_in (by omega) (by omega)
  unfold spec_l1Cur_next.f
  simp only [hw, h0, if_true]
  split
  · split
    · exact ⟨_, _, rfl, by omega, by omega⟩
    · exact ⟨_, _, rfl, seed_byte _⟩
  · split
    · exact ⟨_, _, rfl, by omega, by omega⟩
    · exact ⟨_, _, rfl, seed_byte _⟩
theorem pick_ok (c : List Int) (hc : Bytes c) (a s n : Int) (h0 : 0 ≤ a) (h1 : a < 4611686018427387900) (hn : n < 9223372036854775808) :
    ∃ r a' s', spec_l1Cur_pick.f c a s n = some (r, a', s') ∧ 0 ≤ r ∧ (r < n ∨ r = 0) ∧ a ≤ a' ∧ a' ≤ a + 2 := by
  unfold spec_l1Cur_pick.f
  split
  · exact ⟨0, a, s, rfl, by omega, by omega, by omega, by omega⟩
  · obtain ⟨r1, s1, e1, h2, h3⟩ := next_ok c hc a s h0 (by omega)
    rw [e1]
    simp only [Option.bind_some]
    split
    · obtain ⟨r2, s2, e2, h4, h5⟩ := next_ok c hc (a + 1) s1 (by omega) (by omega)
      rw [e2]
      simp only [Option.bind_some]
      rw [if_neg (by omega)]
      have w1 : wrap64 (r1 * 256) = r1 * 256 := wrap_in (by omega) (by omega)
      have w2 : wrap64 (r1 * 256 + r2) = r1 * 256 + r2 := wrap_in (by omega) (by omega)
      rw [w1, w2]
      refine ⟨_, _, _, rfl, ?_, ?_, by omega, by omega⟩
      · rw [Int.tmod_eq_emod_of_nonneg (by omega)]
        exact Int.emod_nonneg _ (by omega)
      · rw [Int.tmod_eq_emod_of_nonneg (by omega)]
        exact .inl (Int.emod_lt_of_pos _ (by omega))
    · rw [if_neg (by omega)]
      refine ⟨_, _, _, rfl, ?_, ?_, by omega, by omega⟩
      · rw [Int.tmod_eq_emod_of_nonneg (by omega)]
        exact Int.emod_nonneg _ (by omega)
      · rw [Int.tmod_eq_emod_of_nonneg (by omega)]
        exact .inl (Int.emod_lt_of_pos _ (by omega))
theorem wrap_lt (n : Int) : wrap64 n < 9223372036854775808 := by unfold wrap64; omega
theorem among_ok (c : List Int) (hc : Bytes c) (a s : Int) (l : List Int) (hl : 0 < l.length) (hl2 : l.length < 1000000) (h0 : 0 ≤ a) (h1 : a < 4611686018427387900) : ∃ r a' s', spec_l1Cur_among.f c a s l = some (r, a', s') ∧ r ∈ l ∧ a ≤ a' ∧ a' ≤ a + 2 := by
  obtain ⟨r, a', s', e, h2, h3, h4, h5⟩ := pick_ok c hc a s (l.length : Int) h0 h1 (by omega)
  have h6 : r < (l.length : Int) := by omega
  have h7 : rd l r ∈ l := by
    rw [show r = ((r.toNat : Nat) : Int) by omega, rd_get l r.toNat (by omega)]
    exact List.getElem_mem _
  refine ⟨rd l r, a', s', ?_, h7, h4, h5⟩
  simp only [spec_l1Cur_among.f, e, Option.bind_some, h2, h6, if_true]
theorem one_ok2 (c : List Int) (hc : Bytes c) (a s n : Int) (h0 : 0 ≤ a) (h1 : a < 4611686018427387900) (hn : n < 9223372036854775808) :
    ∃ (b : Bool) (a' s' : Int), spec_l1Cur_one.f c a s n = some (b, a', s') ∧ a ≤ a' ∧ a' ≤ a + 2 := by
  obtain ⟨r, a1, s1, e, p, q, m1, m2⟩ := pick_ok c hc a s n h0 h1 hn
  exact ⟨(r == 0), a1, s1, by simp only [spec_l1Cur_one.f, e, Option.bind_some], m1, m2⟩
theorem rdL (L : List (List Int)) (i : Nat) (h : i < L.length) : rd_L2 L (i : Int) = L[i] := by simp [rd_L2, h]
def PricesPost (R : (List (List Int)) × Int × Int) : Prop := R.1.length ≤ 8 ∧ (∀ x ∈ R.1, x.length ≤ 8) ∧ 0 ≤ R.2.1 ∧ R.2.1 ≤ 2000
theorem prices_inner (c : List Int) (hc : Bytes c) (n : Nat) (hn : n ≤ 7) (most : Int) (hm : 0 ≤ most ∧ most ≤ 100000) (i : Nat) (hi : i < n) (L : List (List Int)) (hL : L.length = i)
    (next : ∀ (row : List Int) (a s : Int), row.length = n → 0 ≤ a → a ≤ 1000 + 20 * ((i + 1 : Nat) : Int) → ∃ R, PricesPost R ∧ Ev (fun k => spec_l1Cur_prices.l0 k (n : Int) (L ++ [row]) most ((i + 1 : Nat) : Int) c a s) R) :
    ∀ (d : Nat) (x : List Int) (a s : Int), x.length + d = n → 0 ≤ a → a ≤ 1000 + 20 * (i : Int) + 2 * (x.length : Int) → ∃ R, PricesPost R ∧ Ev (fun k => spec_l1Cur_prices.l1 k (n : Int) L most (i : Int) x (x.length : Int) c a s) R := by
  intro d
  induction d with
  | zero =>
    intro x a s hd h0 h1
    obtain ⟨R, hR, he⟩ := next x a s (by omega) h0 (by omega)
    refine ⟨R, hR, Ev.step (fun k => ?_) he⟩
    have e : wrap64 ((i : Int) + 1) = ((i + 1 : Nat) : Int) := wrap_succ i (by omega)
    have c0 : ¬ ((x.length : Int) < (n : Int)) := by omega
    have c1 : L.length < 5864062014805 := Nat.lt_of_le_of_lt (show L.length ≤ 8 by omega) (by decide)
    simp only [spec_l1Cur_prices.l1, c0, c1, if_true, if_false, e]
  | succ d ih =>
    intro x a s hd h0 h1
    have hx7 : x.length ≤ 7 := by omega
    have w : wrap64 (most + 1) = most + 1 := wrap_in (by omega) (by omega)
    obtain ⟨r, a1, s1, e1, p1, q1, m1, n1⟩ := pick_ok c hc a s (most + 1) h0 (by omega) (by omega)
    have hlen : (x ++ [r]).length = x.length + 1 := by simp
    obtain ⟨R, hR, he⟩ := ih (x ++ [r]) a1 s1 (by omega) (by omega) (by omega)
    refine ⟨R, hR, Ev.step (fun k => ?_) he⟩
    have e : wrap64 ((x.length : Int) + 1) = (((x ++ [r]).length : Nat) : Int) := by rw [hlen]; exact wrap_succ _ (by omega)
    have c0 : ((x.length : Int) < (n : Int)) := by omega
    have c1 : x.length < 17592186044416 := Nat.lt_of_le_of_lt hx7 (by decide)
    simp only [spec_l1Cur_prices.l1, c0, c1, if_true, w, e1, Option.bind_some, e]
theorem prices_outer (c : List Int) (hc : Bytes c) (n : Nat) (hn : n ≤ 7) (most : Int) (hm : 0 ≤ most ∧ most ≤ 100000) :
    ∀ (d i : Nat) (L : List (List Int)) (a s : Int), i + d = n → L.length = i → (∀ x ∈ L, x.length = n) → 0 ≤ a → a ≤ 1000 + 20 * (i : Int) → ∃ R, PricesPost R ∧ Ev (fun k => spec_l1Cur_prices.l0 k (n : Int) L most (i : Int) c a s) R := by
  intro d
  induction d with
  | zero =>
    intro i L a s hd hL hrow h0 h1
    obtain ⟨r, a1, s1, e1, p1, q1, m1, n1⟩ := pick_ok c hc a s 24 h0 (by omega) (by omega)
    have c0 : ¬ ((i : Int) < (n : Int)) := by omega
    have same : PricesPost (L, a1, s1) := ⟨by show L.length ≤ 8; omega, fun x hx => by have := hrow x hx; omega, by show 0 ≤ a1; omega, by show a1 ≤ 2000; omega⟩
    by_cases g0 : r = 0
    · by_cases hn0 : (n : Int) > 0
      · obtain ⟨v, a2, s2, e2, hv, m2, n2⟩ := among_ok c hc a1 s1 [(-1), 100001] (by decide) (by decide) (by omega) (by omega)
        have hl0 : 0 < L.length := by omega
        have hr0 : rd_L2 L 0 = L[0] := rdL L 0 hl0
        have hr1 : (L[0]).length = n := hrow _ (List.getElem_mem hl0)
        refine ⟨(L.set 0 ((L[0]).set 0 v), a2, s2), ⟨by show (L.set 0 _).length ≤ 8; rw [List.length_set]; omega, fun x hx => ?_, by show 0 ≤ a2; omega, by show a2 ≤ 2000; omega⟩, Ev.next ⟨0, fun k _ => ?_⟩⟩
        · rcases List.mem_or_eq_of_mem_set hx with hx | rfl
          · have := hrow x hx; omega
          · rw [List.length_set]; omega
        · have c1 : (0 : Int) < (L.length : Int) := by omega
          have c2 : (0 : Int) < ((L[0]).length : Int) := by omega
          have t0 : ((0 : Int)).toNat = 0 := rfl
          simp only [spec_l1Cur_prices.l0, c0, if_false, e1, Option.bind_some, g0, if_true, hn0, c1, e2, hr0, c2, t0]
      · refine ⟨(L, a1, s1), same, Ev.next ⟨0, fun k _ => ?_⟩⟩
        simp only [spec_l1Cur_prices.l0, c0, if_false, e1, Option.bind_some, g0, if_true, hn0]
    · by_cases g1 : r = 1
      · have g10 : ¬ ((1 : Int) = 0) := by decide
        by_cases hn0 : (n : Int) > 0
        · have hl0 : 0 < L.length := by omega
          have hr0 : rd_L2 L 0 = L[0] := rdL L 0 hl0
          have hr1 : (L[0]).length = n := hrow _ (List.getElem_mem hl0)
          refine ⟨(L.set 0 (L[0] ++ [1]), a1, s1), ⟨by show (L.set 0 _).length ≤ 8; rw [List.length_set]; omega, fun x hx => ?_, by show 0 ≤ a1; omega, by show a1 ≤ 2000; omega⟩, Ev.next ⟨0, fun k _ => ?_⟩⟩
          · rcases List.mem_or_eq_of_mem_set hx with hx | rfl
            · have := hrow x hx; omega
            · rw [List.length_append, List.length_singleton]; omega
          · have c1 : (0 : Int) < (L.length : Int) := by omega
            have c2 : (L[0]).length < 17592186044416 := Nat.lt_of_le_of_lt (show (L[0]).length ≤ 8 by omega) (by decide)
            have t0 : ((0 : Int)).toNat = 0 := rfl
            simp only [spec_l1Cur_prices.l0, c0, if_false, e1, Option.bind_some, g1, g10, if_true, hn0, c1, hr0, c2, t0]
        · refine ⟨(L, a1, s1), same, Ev.next ⟨0, fun k _ => ?_⟩⟩
          simp only [spec_l1Cur_prices.l0, c0, if_false, e1, Option.bind_some, g1, g10, if_true, hn0]
      · refine ⟨(L, a1, s1), same, Ev.next ⟨0, fun k _ => ?_⟩⟩
        simp only [spec_l1Cur_prices.l0, c0, if_false, e1, Option.bind_some, g0, g1]
  | succ d ih =>
    intro i L a s hd hL hrow h0 h1
    have c0 : ((i : Int) < (n : Int)) := by omega
    obtain ⟨R, hR, he⟩ := prices_inner c hc n hn most hm i (by omega) L hL (fun row a s hrl ha0 ha1 => ih (i + 1) (L ++ [row]) a s (by omega) (by rw [List.length_append, List.length_singleton, hL]) (fun x hx => by
      rcases List.mem_append.1 hx with hx | hx
      · exact hrow x hx
      · rw [List.mem_singleton] at hx; rw [hx]; exact hrl) ha0 ha1) n [] a s (by simp) h0 (by simp; omega)
    refine ⟨R, hR, Ev.step (fun k => ?_) he⟩
    simp only [spec_l1Cur_prices.l0, c0, if_true]
    rfl
theorem prices_j0 (c : List Int) (hc : Bytes c) (n : Nat) (hn : n ≤ 7) (a s : Int) (h0 : 0 ≤ a) (h1 : a ≤ 900) : ∃ R, PricesPost R ∧ Ev (fun k => spec_l1Cur_prices.j0 k (n : Int) c a s) R := by
  obtain ⟨v, a2, s2, e2, hv, m2, n2⟩ := among_ok c hc a s [4, 20, 100000] (by decide) (by decide) (by omega) (by omega)
  have hv2 : 0 ≤ v ∧ v ≤ 100000 := by
    simp only [List.mem_cons, List.mem_nil_iff, or_false] at hv
    omega
  obtain ⟨R, hR, he⟩ := prices_outer c hc n hn v hv2 n 0 [] a2 s2 (by omega) rfl (by simp) (by omega) (by omega)
  refine ⟨R, hR, Ev.next ?_⟩
  simp only [spec_l1Cur_prices.j0, e2, Option.bind_some]
  exact he
theorem prices_draw (c : List Int) (hc : Bytes c) : ∃ R, PricesPost R ∧ Ev (fun k => spec_l1Cur_prices.f k c 0 0) R := by
  obtain ⟨r, a1, s1, e1, p1, q1, m1, n1⟩ := pick_ok c hc 0 0 4 (by omega) (by omega) (by omega)
  obtain ⟨b, a2, s2, e2, m2, n2⟩ := one_ok2 c hc a1 s1 12 (by omega) (by omega) (by omega)
  simp only [spec_l1Cur_prices.f, e1, e2, Option.bind_some]
  cases b with
  | true =>
    obtain ⟨v, a3, s3, e3, hv, m3, n3⟩ := among_ok c hc a2 s2 [0, 6, 7] (by decide) (by decide) (by omega) (by omega)
    obtain ⟨n, rfl⟩ : ∃ n : Nat, v = (n : Int) := ⟨v.toNat, by simp only [List.mem_cons, List.mem_nil_iff, or_false] at hv; omega⟩
    have hn : n ≤ 7 := by simp only [List.mem_cons, List.mem_nil_iff, or_false] at hv; omega
    obtain ⟨R, hR, he⟩ := prices_j0 c hc n hn a3 s3 (by omega) (by omega)
    refine ⟨R, hR, ?_⟩
    simp only [if_true, e3, Option.bind_some]
    exact he
  | false =>
    obtain ⟨n, hn, hn2⟩ : ∃ n : Nat, wrap64 (1 + r) = (n : Int) ∧ n ≤ 7 := ⟨(1 + r).toNat, by rw [wrap_in (by omega) (by omega)]; omega, by omega⟩
    obtain ⟨R, hR, he⟩ := prices_j0 c hc n hn2 a2 s2 (by omega) (by omega)
    refine ⟨R, hR, ?_⟩
    simp only [Bool.false_eq_true, if_false, hn]
    exact he
theorem who_j2 (c : List Int) (hc : Bytes c) (n : Nat) (hn : n ≤ 8) (x : List Int) (hx : x.length = n) (b : Bool) (hb : b = true → 0 < n) (a s : Int) (h0 : 0 ≤ a) (h1 : a ≤ 8000) :
    ∃ (W : List Int) (a' s' : Int), Ev (fun k => spec_l1Cur_who.j2 k (n : Int) x b c a s) (W, a', s') ∧ W.length = n ∧ 0 ≤ a' ∧ a' ≤ 9000 := by
  cases b with
  | true =>
    have hp := hb rfl
    have w : wrap64 ((n : Int) + 1) = (n : Int) + 1 := wrap_in (by omega) (by omega)
    obtain ⟨r, a1, s1, e1, p1, q1, m1, n1⟩ := pick_ok c hc a s ((n : Int) + 1) h0 (by omega) (by omega)
    obtain ⟨r2, a2, s2, e2, p2, q2, m2, n2⟩ := pick_ok c hc a1 s1 2 (by omega) (by omega) (by omega)
    refine ⟨x.set 0 (wrap64 (r - r2)), a2, s2, Ev.next ⟨0, fun k _ => ?_⟩, by rw [List.length_set]; exact hx, by omega, by omega⟩
    have c1 : (0 : Int) < (x.length : Int) := by omega
    have t0 : ((0 : Int)).toNat = 0 := rfl
    simp only [spec_l1Cur_who.j2, if_true, w, e1, e2, Option.bind_some, c1, t0]
  | false =>
    refine ⟨x, a, s, Ev.next ⟨0, fun k _ => ?_⟩, hx, h0, by omega⟩
    simp only [spec_l1Cur_who.j2, Bool.false_eq_true, if_false]
theorem who_l1 (c : List Int) (hc : Bytes c) (n : Nat) (hn : n ≤ 8) : ∀ (d : Nat) (x : List Int) (v a s : Int), x.length = n → v ≤ (d : Int) → v < (n : Int) → -1 ≤ v → d ≤ 8 → 0 ≤ a → a ≤ 7000 - 10 * (d : Int) →
    ∃ (W : List Int) (a' s' : Int), Ev (fun k => spec_l1Cur_who.l1 k (n : Int) x v c a s) (W, a', s') ∧ W.length = n ∧ 0 ≤ a' ∧ a' ≤ 9000 := by
  intro d
  induction d with
  | zero =>
    intro x v a s hx hv hv2 hv3 _ h0 h1
    obtain ⟨b, a1, s1, e1, m1, n1⟩ := one_ok2 c hc a s 24 h0 (by omega) (by omega)
    have c0 : ¬ (v > 0) := by omega
    cases b with
    | true =>
      obtain ⟨W, a', s', he, hW, h2, h3⟩ := who_j2 c hc n hn x hx (decide ((n : Int) > 0)) (fun h => by have := of_decide_eq_true h; omega) a1 s1 (by omega) (by omega)
      refine ⟨W, a', s', Ev.next ?_, hW, h2, h3⟩
      simp only [spec_l1Cur_who.l1, c0, if_false, e1, Option.bind_some, if_true]
      exact he
    | false =>
      obtain ⟨W, a', s', he, hW, h2, h3⟩ := who_j2 c hc n hn x hx false (fun h => by cases h) a1 s1 (by omega) (by omega)
      refine ⟨W, a', s', Ev.next ?_, hW, h2, h3⟩
      simp only [spec_l1Cur_who.l1, c0, if_false, e1, Option.bind_some, Bool.false_eq_true]
      exact he
  | succ d ih =>
    intro x v a s hx hv hv2 hv3 hd h0 h1
    by_cases c0 : v > 0
    · have w : wrap64 (v + 1) = v + 1 := wrap_in (by omega) (by omega)
      have w2 : wrap64 (v - 1) = v - 1 := wrap_in (by omega) (by omega)
      obtain ⟨r, a1, s1, e1, p1, q1, m1, n1⟩ := pick_ok c hc a s (v + 1) h0 (by omega) (by omega)
      obtain ⟨W, a', s', he, hW, h2, h3⟩ := ih ((x.set v.toNat (rd x r)).set r.toNat (rd x v)) (v - 1) a1 s1 (by rw [List.length_set, List.length_set]; exact hx) (by omega) (by omega) (by omega) (by omega) (by omega) (by omega)
      refine ⟨W, a', s', Ev.step (fun k => ?_) he, hW, h2, h3⟩
      have c1 : 0 ≤ v := by omega
      have c2 : v < (x.length : Int) := by omega
      have c3 : r < (x.length : Int) := by omega
      simp only [spec_l1Cur_who.l1, c0, if_true, w, e1, Option.bind_some, c1, c2, p1, c3, w2]
    · exact ih x v a s hx (by omega) hv2 hv3 (by omega) h0 (by omega)
theorem who_l0 (c : List Int) (hc : Bytes c) (n : Nat) (hn : n ≤ 8) : ∀ (d : Nat) (x : List Int) (a s : Int), x.length + d = n → 0 ≤ a → a ≤ 5000 →
    ∃ (W : List Int) (a' s' : Int), Ev (fun k => spec_l1Cur_who.l0 k (n : Int) x (x.length : Int) c a s) (W, a', s') ∧ W.length = n ∧ 0 ≤ a' ∧ a' ≤ 9000 := by
  intro d
  induction d with
  | zero =>
    intro x a s hd h0 h1
    have w : wrap64 ((n : Int) - 1) = (n : Int) - 1 := wrap_in (by omega) (by omega)
    obtain ⟨W, a', s', he, hW, h2, h3⟩ := who_l1 c hc n hn 8 x ((n : Int) - 1) a s (by omega) (by omega) (by omega) (by omega) (by omega) h0 (by omega)
    refine ⟨W, a', s', Ev.step (fun k => ?_) he, hW, h2, h3⟩
    have c0 : ¬ ((x.length : Int) < (n : Int)) := by omega
    simp only [spec_l1Cur_who.l0, c0, if_false, w]
  | succ d ih =>
    intro x a s hd h0 h1
    have hlen : (x ++ [(x.length : Int)]).length = x.length + 1 := by simp
    obtain ⟨W, a', s', he, hW, h2, h3⟩ := ih (x ++ [(x.length : Int)]) a s (by omega) h0 h1
    refine ⟨W, a', s', Ev.step (fun k => ?_) he, hW, h2, h3⟩
    have e : wrap64 ((x.length : Int) + 1) = (((x ++ [(x.length : Int)]).length : Nat) : Int) := by rw [hlen]; exact wrap_succ _ (by omega)
    have c0 : ((x.length : Int) < (n : Int)) := by omega
    have c1 : x.length < 17592186044416 := Nat.lt_of_lt_of_le (show x.length < 9 by omega) (by simp)
    simp only [spec_l1Cur_who.l0, c0, c1, if_true, e]
theorem draw_hand (c : List Int) (hc : Bytes c) : ∃ (P : List (List Int)) (W : List Int) (g : Int), Ev (fun k => spec_DrawHandOver.f k c) (P, W, g) ∧ P.length ≤ 8 ∧ (∀ x ∈ P, x.length ≤ 8) ∧ W.length = P.length ∧ -1 ≤ g ∧ g ≤ (P.length : Int) := by
  obtain ⟨⟨P, a1, s1⟩, hpost, he⟩ := prices_draw c hc
  have hP : P.length ≤ 8 := hpost.1
  have hrow : ∀ x ∈ P, x.length ≤ 8 := hpost.2.1
  have h0 : 0 ≤ a1 := hpost.2.2.1
  have h1 : a1 ≤ 2000 := hpost.2.2.2
  clear hpost
  obtain ⟨W, a2, s2, he2, hW, h2, h3⟩ := who_l0 c hc P.length hP P.length [] a1 s1 (by simp) h0 (by omega)
  have w : wrap64 ((P.length : Int) + 2) = (P.length : Int) + 2 := wrap_in (by omega) (by omega)
  obtain ⟨r, a3, s3, e3, p3, q3, m3, n3⟩ := pick_ok c hc a2 s2 ((P.length : Int) + 2) h2 (by omega) (by omega)
  have w2 : wrap64 (r - 1) = r - 1 := wrap_in (by omega) (by omega)
  refine ⟨P, W, r - 1, ?_, hP, hrow, hW, by omega, by omega⟩
  simp only [spec_DrawHandOver.f]
  refine Ev.bind he ?_
  have he2' : Ev (fun k => spec_l1Cur_who.f k c a1 s1 (P.length : Int)) (W, a2, s2) := he2
  refine Ev.bind he2' ?_
  simp only [w, e3, Option.bind_some, w2]
  exact Ev.now _
/-- What has been met so far, as the row of marks. -/
def hadOf (done : List Int) (n : Nat) : List Bool := (List.range n).map fun t => decide (((t : Nat) : Int) ∈ done)
theorem had_length (done : List Int) (n : Nat) : (hadOf done n).length = n := by simp [hadOf]
theorem had_rd (done : List Int) (n t : Nat) (h : t < n) : rdOf false (hadOf done n) ((t : Nat) : Int) = decide (((t : Nat) : Int) ∈ done) := by
  rw [rdOf_get _ _ _ (by rw [had_length]; exact h)]
  simp [hadOf]
theorem had_set (done : List Int) (n t : Nat) (h : t < n) : (hadOf done n).set t true = hadOf (done ++ [((t : Nat) : Int)]) n := by
  refine List.ext_getElem (by rw [List.length_set, had_length, had_length]) fun j h1 h2 => ?_
  rw [List.getElem_set]
  unfold hadOf
  simp only [List.getElem_map, List.getElem_range, List.mem_append, List.mem_singleton]
  by_cases hj : t = j
  · subst hj
    simp
  · have : ¬ ((j : Int) = (t : Int)) := by omega
    simp [hj, this]
structure Fine (L : List (List Int)) (n : Nat) : Prop where
  rng : ∀ (i : Nat) (hi : i < L.length) (j : Nat) (hj : j < (L[i]).length), 0 ≤ (L[i])[j] ∧ (L[i])[j] < (n : Int)
  up : ∀ (i : Nat) (hi : i < L.length) (j : Nat) (hj : j + 1 < (L[i]).length), (L[i])[j] < (L[i])[j + 1]
  new : ∀ (i : Nat) (hi : i < L.length) (j : Nat) (hj : j < (L[i]).length), (L[i])[j] ∉ (L.take i).flatten ++ (L[i]).take j
theorem flat_take (L : List (List Int)) (i : Nat) (hi : i < L.length) : (L.take (i + 1)).flatten = (L.take i).flatten ++ L[i] := by
  rw [List.take_succ_eq_append_getElem hi, List.flatten_append]
  simp
theorem tasks_inner (L : List (List Int)) (hl : L.length ≤ 8) (hF : Fine L L.length) (hlen : ∀ x ∈ L, x.length ≤ 8) (i : Nat) (hi : i < L.length) (r : Bool)
    (next : Ev (fun k => spec_AllTasks.l0 k L (hadOf (L.take (i + 1)).flatten L.length) (((L.take (i + 1)).flatten.length : Nat) : Int) L (L.length : Int) ((i + 1 : Nat) : Int)) r) :
    ∀ (d j : Nat), j + d = (L[i]).length → Ev (fun k => spec_AllTasks.l1 k L (hadOf ((L.take i).flatten ++ (L[i]).take j) L.length) ((((L.take i).flatten ++ (L[i]).take j).length : Nat) : Int) (L[i]) L (L.length : Int) (i : Int) (L[i]) ((L[i]).length : Int) (j : Int)) r := by
  have hrl := hlen _ (List.getElem_mem hi)
  intro d
  induction d with
  | zero =>
    intro j hj
    obtain rfl : j = (L[i]).length := by omega
    rw [List.take_length, ← flat_take L i hi]
    refine Ev.step (fun k => ?_) next
    have e : wrap64 ((i : Int) + 1) = ((i + 1 : Nat) : Int) := wrap_succ i (by omega)
    simp only [spec_AllTasks.l1, Int.lt_irrefl, if_false, e]
  | succ d ih =>
    intro j hj
    have hjl : j < (L[i]).length := by omega
    have hr := hF.rng i hi j hjl
    have hnew := hF.new i hi j hjl
    obtain ⟨t, ht⟩ : ∃ t : Nat, (L[i])[j] = (t : Int) := ⟨((L[i])[j]).toNat, by omega⟩
    have htn : t < L.length := by omega
    have hflat : ∀ m, m ≤ L.length → (L.take m).flatten.length ≤ 8 * m := by
      intro m
      induction m with
      | zero => intro _; simp
      | succ m ihm =>
        intro hm
        have := ihm (by omega)
        rw [flat_take L m (by omega), List.length_append]
        have h8 := hlen _ (List.getElem_mem (show m < L.length by omega))
        omega
    have hfl := hflat i (by omega)
    have htk : (L[i]).take (j + 1) = (L[i]).take j ++ [(L[i])[j]] := List.take_succ_eq_append_getElem hjl
    have hn := ih (j + 1) (by omega)
    rw [htk, ← List.append_assoc] at hn
    have erd : rd (L[i]) (j : Int) = (L[i])[j] := rd_get _ _ hjl
    have e : wrap64 ((j : Int) + 1) = ((j + 1 : Nat) : Int) := wrap_succ j (by omega)
    obtain ⟨D, hD⟩ : ∃ D, (L.take i).flatten ++ (L[i]).take j = D := ⟨_, rfl⟩
    rw [hD] at hn hnew ⊢
    have hDl : D.length ≤ 100 := by
      rw [← hD, List.length_append, List.length_take]
      omega
    have ec : wrap64 (((D.length : Nat) : Int) + 1) = (((D ++ [(L[i])[j]]).length : Nat) : Int) := by
      rw [List.length_append, List.length_singleton]
      exact wrap_succ _ (by omega)
    rw [ht] at hn hnew ec
    rw [← had_set D L.length t htn] at hn
    refine Ev.step (fun k => ?_) hn
    have c1 : (j : Int) < ((L[i]).length : Int) := by omega
    have c2 : (0 : Int) ≤ (j : Int) := by omega
    have c3 : ¬ ((t : Int) < 0) := by omega
    have c4 : ¬ ((t : Int) ≥ (L.length : Int)) := by omega
    have c5 : (0 : Int) ≤ (t : Int) := by omega
    have c6 : (t : Int) < ((hadOf D L.length).length : Int) := by rw [had_length]; omega
    have c7 : rdOf false (hadOf D L.length) (t : Int) = false := by
      rw [had_rd D L.length t htn]
      exact decide_eq_false hnew
    have t0 : ((t : Int)).toNat = t := by omega
    simp only [spec_AllTasks.l1, c1, c2, if_true, erd, ht, c3, c4, c5, c6, c7, if_false, Bool.false_eq_true, t0, ec, e]
    by_cases hj0 : (j : Int) > 0
    · have ew : wrap64 ((j : Int) - 1) = ((j - 1 : Nat) : Int) := wrap_pred j (by omega) (by omega)
      have c8 : (0 : Int) ≤ ((j - 1 : Nat) : Int) := by omega
      have c9 : ((j - 1 : Nat) : Int) < ((L[i]).length : Int) := by omega
      have hup := hF.up i hi (j - 1) (by omega)
      have erd2 : rd (L[i]) ((j - 1 : Nat) : Int) = (L[i])[j - 1] := rd_get _ _ (by omega)
      have hup2 : (L[i])[j - 1] < (t : Int) := by
        have : (L[i])[j - 1 + 1] = (L[i])[j] := by congr 1; omega
        rw [this, ht] at hup
        exact hup
      have c10 : ¬ ((L[i])[j - 1] ≥ (t : Int)) := by omega
      simp only [hj0, if_true, ew, c8, c9, erd2, c10, if_false]
    · simp only [hj0, if_false]
theorem tasks_outer (L : List (List Int)) (hl : L.length ≤ 8) (hF : Fine L L.length) (hlen : ∀ x ∈ L, x.length ≤ 8) (htot : L.flatten.length = L.length) :
    ∀ (d i : Nat), i + d = L.length → Ev (fun k => spec_AllTasks.l0 k L (hadOf (L.take i).flatten L.length) (((L.take i).flatten.length : Nat) : Int) L (L.length : Int) (i : Int)) true := by
  intro d
  induction d with
  | zero =>
    intro i hi
    obtain rfl : i = L.length := by omega
    rw [List.take_length, htot]
    refine Ev.next ⟨0, fun k _ => ?_⟩
    simp only [spec_AllTasks.l0, Int.lt_irrefl, if_false]
    simp
  | succ d ih =>
    intro i hi
    have hil : i < L.length := by omega
    have h := tasks_inner L hl hF hlen i hil true (ih (i + 1) (by omega)) (L[i]).length 0 (by omega)
    rw [List.take_zero, List.append_nil] at h
    refine Ev.step (fun k => ?_) h
    have c1 : (i : Int) < (L.length : Int) := by omega
    have c2 : (0 : Int) ≤ (i : Int) := by omega
    simp only [spec_AllTasks.l0, c1, c2, if_true, rdL L i hil]
    rfl
theorem tasks_ev (L : List (List Int)) (hl : L.length ≤ 8) (hF : Fine L L.length) (hlen : ∀ x ∈ L, x.length ≤ 8) (htot : L.flatten.length = L.length) : Ev (fun k => spec_AllTasks.f k L) true := by
  have h := tasks_outer L hl hF hlen htot L.length 0 (by omega)
  have e : hadOf (L.take 0).flatten L.length = List.replicate L.length false := by
    refine List.ext_getElem (by rw [had_length, List.length_replicate]) fun j h1 h2 => ?_
    simp [hadOf]
  rw [e] at h
  have c1 : (0 : Int) ≤ (L.length : Int) := by omega
  have t0 : ((L.length : Int)).toNat = L.length := by omega
  have c2 : L.length ≤ 281474976710656 := Nat.le_trans hl (by decide)
  simp only [spec_AllTasks.f, c1, t0, c2, if_true]
  exact h

/-- Who's task a robot has. -/
def wAt (W : List Int) (i : Nat) : Int := rd W ((i : Nat) : Int)
theorem w_inj (W : List Int) (n : Nat) (h : goodWho W n = true) (i j : Nat) (hi : i < n) (hj : j < n) (hne : i ≠ j) : wAt W i ≠ wAt W j := by
  have hw := who_at W n h
  have key : ∀ i j : Nat, i < j → j < n → wAt W i ≠ wAt W j := by
    intro i j hij hj e
    refine (hw.2 j hj).2.2 ?_
    have hil : i < W.length := by omega
    have e1 : wAt W i = W[i] := rd_get W i hil
    show wAt W j ∈ W.take j
    rw [← e, e1, List.mem_take_iff_getElem]
    exact ⟨i, by omega, rfl⟩
  rcases Nat.lt_or_gt_of_ne hne with h1 | h1
  · exact key i j h1 hj
  · exact fun e => key j i h1 hi e.symm
def sort2 (a b : Int) : List Int := if b < a then [b, a] else [a, b]
def rowOf (W : List Int) (g tq i : Nat) : List Int := if i = g then [] else if i = tq then sort2 (wAt W i) (wAt W g) else [wAt W i]
def rowsOf (W : List Int) (g tq n : Nat) : List (List Int) := (List.range n).map (rowOf W g tq)
theorem rows_length (W : List Int) (g tq n : Nat) : (rowsOf W g tq n).length = n := by simp [rowsOf]
theorem rows_at (W : List Int) (g tq n i : Nat) (h : i < (rowsOf W g tq n).length) : (rowsOf W g tq n)[i] = rowOf W g tq i := by simp [rowsOf]
theorem mem_sort2 (a b x : Int) : x ∈ sort2 a b ↔ x = a ∨ x = b := by
  unfold sort2
  split
  · simp only [List.mem_cons, List.mem_nil_iff, or_false]; exact or_comm
  · simp
theorem rows_mem (W : List Int) (g tq n : Nat) (hgt : g ≠ tq) : ∀ m, m ≤ n → ∀ x, x ∈ ((rowsOf W g tq n).take m).flatten → (∃ r, r < m ∧ r ≠ g ∧ x = wAt W r) ∨ (tq < m ∧ x = wAt W g) := by
  intro m
  induction m with
  | zero => intro _ x hx; simp at hx
  | succ m ih =>
    intro hm x hx
    have hml : m < (rowsOf W g tq n).length := by rw [rows_length]; omega
    rw [flat_take _ m hml, List.mem_append] at hx
    rcases hx with hx | hx
    · rcases ih (by omega) x hx with ⟨r, h1, h2, h3⟩ | ⟨h1, h2⟩
      · exact .inl ⟨r, by omega, h2, h3⟩
      · exact .inr ⟨by omega, h2⟩
    · rw [rows_at] at hx
      unfold rowOf at hx
      split at hx
      · simp at hx
      · split at hx
        · rw [mem_sort2] at hx
          rcases hx with hx | hx
          · exact .inl ⟨m, by omega, by assumption, hx⟩
          · exact .inr ⟨by omega, hx⟩
        · rw [List.mem_singleton] at hx
          exact .inl ⟨m, by omega, by assumption, hx⟩
theorem row_small (W : List Int) (g tq i : Nat) : (rowOf W g tq i).length ≤ 2 := by
  unfold rowOf sort2
  (repeat' split) <;> simp
theorem rows_total (W : List Int) (g tq n : Nat) (hg : g < n) (ht : tq < n) (hgt : g ≠ tq) : ∀ m, m ≤ n → ((rowsOf W g tq n).take m).flatten.length + (if g < m then 1 else 0) = m + (if tq < m then 1 else 0) := by
  intro m
  induction m with
  | zero => intro _; simp
  | succ m ih =>
    intro hm
    have h := ih (by omega)
    have hml : m < (rowsOf W g tq n).length := by rw [rows_length]; omega
    rw [flat_take _ m hml, List.length_append, rows_at]
    have hlen : (rowOf W g tq m).length = if m = g then 0 else if m = tq then 2 else 1 := by
      unfold rowOf sort2
      (repeat' split) <;> simp
    rw [hlen]
    (repeat' split at h) <;> (repeat' split) <;> omega
theorem rows_fine (W : List Int) (g tq n : Nat) (hW : goodWho W n = true) (hg : g < n) (ht : tq < n) (hgt : g ≠ tq) : Fine (rowsOf W g tq n) (rowsOf W g tq n).length := by
  have hw := who_at W n hW
  have inj := w_inj W n hW
  have hgn : wAt W g = rd W (g : Int) := rfl
  have mem_row : ∀ i x, x ∈ rowOf W g tq i → i ≠ g ∧ (x = wAt W i ∨ (i = tq ∧ x = wAt W g)) := by
    intro i x hx
    unfold rowOf at hx
    split at hx
    · simp at hx
    · split at hx
      · rw [mem_sort2] at hx
        exact ⟨by assumption, hx.imp id (fun h => ⟨by assumption, h⟩)⟩
      · rw [List.mem_singleton] at hx
        exact ⟨by assumption, .inl hx⟩
  refine ⟨?_, ?_, ?_⟩
  · intro i hi j hj
    rw [rows_length]
    have hi' : i < n := by rw [rows_length] at hi; exact hi
    have hm := mem_row i ((rowsOf W g tq n)[i])[j] (by rw [← rows_at W g tq n i hi]; exact List.getElem_mem hj)
    have h1 := (hw.2 i hi').1
    have h2 := (hw.2 i hi').2.1
    have h3 := (hw.2 g hg).1
    have h4 := (hw.2 g hg).2.1
    unfold wAt at hm
    rcases hm.2 with e | ⟨_, e⟩ <;> rw [e] <;> omega
  · intro i hi j hj
    have hi' : i < n := by rw [rows_length] at hi; exact hi
    have hsm := row_small W g tq i
    have e := rows_at W g tq n i hi
    have hj0 : j = 0 := by rw [e] at hj; omega
    subst hj0
    have gen : ∀ (r : List Int), r = rowOf W g tq i → ∀ (h : 0 + 1 < r.length), r[0] < r[0 + 1] := by
      intro r hr h
      have hlt : ¬ i = g := fun h2 => by rw [hr] at h; unfold rowOf at h; rw [if_pos h2] at h; simp at h
      have hto : i = tq := Classical.byContradiction fun h2 => by rw [hr] at h; unfold rowOf at h; rw [if_neg hlt, if_neg h2] at h; simp at h
      have hne := inj i g hi' hg hlt
      have hr2 : r = sort2 (wAt W i) (wAt W g) := by rw [hr]; unfold rowOf; rw [if_neg hlt, if_pos hto]
      subst hr2
      unfold sort2
      split
      · simp; omega
      · simp; omega
    exact gen _ e hj
  · intro i hi j hj
    have hi' : i < n := by rw [rows_length] at hi; exact hi
    have e := rows_at W g tq n i hi
    intro hmem
    rw [List.mem_append] at hmem
    have hm := mem_row i ((rowsOf W g tq n)[i])[j] (by rw [← e]; exact List.getElem_mem hj)
    rcases hmem with hmem | hmem
    · have hpre := rows_mem W g tq n hgt i (by omega) _ hmem
      rcases hm with ⟨hig, hx | ⟨hit, hx⟩⟩
      · rcases hpre with ⟨r, h1, h2, h3⟩ | ⟨h1, h2⟩
        · exact inj i r hi' (by omega) (by omega) (hx.symm.trans h3)
        · exact inj i g hi' hg hig (hx.symm.trans h2)
      · rcases hpre with ⟨r, h1, h2, h3⟩ | ⟨h1, h2⟩
        · exact inj g r hg (by omega) (fun h => h2 h.symm) (hx.symm.trans h3)
        · omega
    · have hsm := row_small W g tq i
      have gen : ∀ (r : List Int), r = rowOf W g tq i → ∀ (h : j < r.length), r[j] ∉ r.take j := by
        intro r hr h hmem
        have hj2 : j < 2 := by rw [hr] at h; omega
        rcases (by omega : j = 0 ∨ j = 1) with rfl | rfl
        · simp at hmem
        · have hlt : ¬ i = g := fun h2 => by rw [hr] at h; unfold rowOf at h; rw [if_pos h2] at h; simp at h
          have hto : i = tq := Classical.byContradiction fun h2 => by rw [hr] at h; unfold rowOf at h; rw [if_neg hlt, if_neg h2] at h; simp at h
          have hne := inj i g hi' hg hlt
          have hr2 : r = sort2 (wAt W i) (wAt W g) := by rw [hr]; unfold rowOf; rw [if_neg hlt, if_pos hto]
          subst hr2
          unfold sort2 at hmem
          split at hmem
          · have h5 : wAt W i ∈ [wAt W g] := hmem
            rw [List.mem_singleton] at h5
            exact hne h5
          · have h5 : wAt W g ∈ [wAt W i] := hmem
            rw [List.mem_singleton] at h5
            exact hne h5.symm
      exact gen _ e hj hmem
theorem less_eq (a b : Int) : cmp_Less_int.f a b = some (decide (a < b)) := by
  simp [cmp_Less_int.f, cmp_isNaN_int.f]
theorem sort1_ev (a : Int) : Ev (fun k => slices_Sort_int_int.f k [a]) [a] := by
  have w : wrap64 (0 + 1) = 1 := by rw [wrap_in (by omega) (by omega)]; rfl
  have e1 : (([a] : List Int).length : Int) = 1 := rfl
  have c12 : ([a] : List Int).length ≤ 12 := by simp
  simp only [slices_Sort_int_int.f, c12, if_true, slices_insertionSortOrdered_int.f, w, e1]
  refine Ev.bind (Ev.next ⟨0, fun k _ => ?_⟩) (Ev.now _)
  simp only [slices_insertionSortOrdered_int.l0, Int.lt_irrefl, if_false]
theorem sort2_ev (a b : Int) : Ev (fun k => slices_Sort_int_int.f k [a, b]) (sort2 a b) := by
  have w : wrap64 (0 + 1) = 1 := by rw [wrap_in (by omega) (by omega)]; rfl
  have w2 : wrap64 (1 + 1) = 2 := by rw [wrap_in (by omega) (by omega)]; rfl
  have w3 : wrap64 (1 - 1) = 0 := by rw [wrap_in (by omega) (by omega)]; rfl
  have e1 : (([a, b] : List Int).length : Int) = 2 := rfl
  have c12 : ([a, b] : List Int).length ≤ 12 := by simp
  have fin : ∀ l : List Int, Ev (fun k => slices_insertionSortOrdered_int.l0 k l 0 2 2) l := fun l => Ev.next ⟨0, fun k _ => by
    simp only [slices_insertionSortOrdered_int.l0, Int.lt_irrefl, if_false]⟩
  have d1 : (1 : Int) < 2 := by decide
  have d2 : (1 : Int) > 0 := by decide
  have d3 : (0 : Int) ≤ 1 := by decide
  have d4 : (0 : Int) ≤ 0 := by decide
  have d5 : (0 : Int) < 2 := by decide
  have d6 : ¬ ((0 : Int) > 0) := by decide
  have t1 : ((1 : Int)).toNat = 1 := rfl
  have t0 : ((0 : Int)).toNat = 0 := rfl
  have r1 : rd [a, b] 1 = b := rfl
  have r0 : rd [a, b] 0 = a := rfl
  simp only [slices_Sort_int_int.f, c12, if_true, slices_insertionSortOrdered_int.f, w, e1]
  refine Ev.bind ?_ (Ev.now _)
  refine Ev.next ?_
  simp only [slices_insertionSortOrdered_int.l0, d1, if_true]
  refine Ev.next ?_
  simp only [slices_insertionSortOrdered_int.l1, d1, d2, d3, d4, d5, if_true, e1, w3, less_eq, r1, r0, Option.bind_some, t1, t0, w2]
  unfold sort2
  by_cases h : b < a
  · rw [if_pos h]
    simp only [h, decide_true, if_true]
    refine Ev.next ?_
    simp only [slices_insertionSortOrdered_int.l1, d6, if_false, w2]
    exact fin _
  · rw [if_neg h]
    simp only [h, decide_false, Bool.false_eq_true, if_false]
    exact fin _
theorem good_len (P : List (List Int)) (W : List Int) (hp : goodPrices P = true) (hw : goodWho W P.length = true) : W.length = P.length ∧ 1 ≤ P.length ∧ P.length ≤ 6 :=
  ⟨(who_at W P.length hw).1, prices_len P hp⟩
theorem impl_l1 (W : List Int) (n g tq : Nat) (t : Int) (ht : t = wAt W g) (hn : W.length = n) (h6 : n ≤ 6) (hgt : g ≠ tq) : ∀ (d i : Nat), i + d = n →
    Ev (fun k => impl_HandOver.l1 k (g : Int) t (tq : Int) ((List.range i).map (rowOf W g tq)) W (n : Int) (i : Int)) (rowsOf W g tq n, true) := by
  intro d
  induction d with
  | zero =>
    intro i hi
    obtain rfl : i = n := by omega
    refine Ev.next ⟨0, fun k _ => ?_⟩
    simp only [impl_HandOver.l1, Int.lt_irrefl, if_false]
    rfl
  | succ d ih =>
    intro i hi
    have hin : i < W.length := by omega
    have e : wrap64 ((i : Int) + 1) = ((i + 1 : Nat) : Int) := wrap_succ i (by omega)
    have hnx := ih (i + 1) (by omega)
    rw [List.range_succ, List.map_append, List.map_cons, List.map_nil] at hnx
    have hl : ((List.range i).map (rowOf W g tq)).length < 5864062014805 := Nat.lt_of_le_of_lt (show ((List.range i).map (rowOf W g tq)).length ≤ 8 by simp; omega) (by decide)
    have c1 : (i : Int) < (n : Int) := by omega
    have c2 : (0 : Int) ≤ (i : Int) := by omega
    have c3 : (i : Int) < (W.length : Int) := by omega
    have er : rd W (i : Int) = wAt W i := rfl
    refine Ev.next ?_
    simp only [impl_HandOver.l1, c1, c2, c3, if_true, er, e]
    by_cases hg : i = g
    · have h1 : (i : Int) = (g : Int) := by omega
      have h2 : ¬ ((g : Int) = (tq : Int)) := by omega
      have hr : rowOf W g tq i = [] := by unfold rowOf; rw [if_pos hg]
      rw [hr] at hnx
      simp only [h1, h2, if_true, if_false, hl]
      exact hnx
    · have h1 : ¬ ((i : Int) = (g : Int)) := by omega
      simp only [h1, if_false, Option.bind_some]
      by_cases hq : i = tq
      · have h2 : (i : Int) = (tq : Int) := by omega
        have hr : rowOf W g tq i = sort2 (wAt W i) t := by unfold rowOf; rw [if_neg hg, if_pos hq, ht]
        rw [hr] at hnx
        have hs : ([wAt W i] : List Int).length < 17592186044416 := by simp
        simp only [h2, if_true, hs]
        refine Ev.bind (sort2_ev (wAt W i) t) ?_
        simp only [hl, if_true]
        exact hnx
      · have h2 : ¬ ((i : Int) = (tq : Int)) := by omega
        have hr : rowOf W g tq i = [wAt W i] := by unfold rowOf; rw [if_neg hg, if_neg hq]
        rw [hr] at hnx
        simp only [h2, if_false, hl, if_true]
        exact hnx
theorem impl_l0 (P : List (List Int)) (W : List Int) (n g : Nat) (t : Int) (ht : t = wAt W g) (hpn : P.length = n) (hn : W.length = n) (h6 : n ≤ 6) (hg : g < n) (h2 : 2 ≤ n) (ht0 : 0 ≤ t) (htn : t < (n : Int)) (hrow : ∀ x ∈ P, x.length = n) :
    ∀ (d i : Nat) (x : Int), i + d = n → ((x = -1 ∧ ∀ j, j < i → j = g) ∨ ∃ q : Nat, x = (q : Int) ∧ q < i ∧ q ≠ g) →
    ∃ tq : Nat, tq < n ∧ g ≠ tq ∧ Ev (fun k => impl_HandOver.l0 k P W (g : Int) t x (n : Int) (i : Int)) (rowsOf W g tq n, true) := by
  intro d
  induction d with
  | zero =>
    intro i x hi hx
    rcases hx with ⟨rfl, hall⟩ | ⟨q, rfl, hq, hqg⟩
    · exfalso
      have a1 := hall 0 (by omega)
      have a2 := hall 1 (by omega)
      omega
    · have h := impl_l1 W n g q t ht hn h6 (fun e => hqg e.symm) n 0 (by omega)
      refine ⟨q, by omega, fun e => hqg e.symm, Ev.step (fun k => ?_) h⟩
      have c0 : ¬ ((i : Int) < (n : Int)) := by omega
      simp only [impl_HandOver.l0, c0, if_false]
      rw [hn]
      rfl
  | succ d ih =>
    intro i x hi hx
    have hip : i < P.length := by omega
    have e : wrap64 ((i : Int) + 1) = ((i + 1 : Nat) : Int) := wrap_succ i (by omega)
    have c1 : (i : Int) < (n : Int) := by omega
    by_cases hg2 : i = g
    · obtain ⟨tq, h3, h4, he⟩ := ih (i + 1) x (by omega) (by
        rcases hx with ⟨rfl, hall⟩ | ⟨q, rfl, hq, hqg⟩
        · exact .inl ⟨rfl, fun j hj => by
            by_cases hji : j < i
            · exact hall j hji
            · omega⟩
        · exact .inr ⟨q, rfl, by omega, hqg⟩)
      refine ⟨tq, h3, h4, Ev.step (fun k => ?_) he⟩
      have h1 : (i : Int) = (g : Int) := by omega
      simp only [impl_HandOver.l0, c1, if_true, e]
      rw [if_pos h1]
    · have h1 : ¬ ((i : Int) = (g : Int)) := by omega
      obtain ⟨t1, h3, h4, he⟩ := ih (i + 1) (i : Int) (by omega) (.inr ⟨i, rfl, by omega, hg2⟩)
      rcases hx with ⟨rfl, hall⟩ | ⟨q, rfl, hq, hqg⟩
      · refine ⟨t1, h3, h4, Ev.step (fun k => ?_) he⟩
        have c2 : (-1 : Int) < 0 := by decide
        simp only [impl_HandOver.l0, c1, if_true, e, h1, if_false, c2]
      · obtain ⟨t2, h5, h6', he2⟩ := ih (i + 1) (q : Int) (by omega) (.inr ⟨q, rfl, by omega, hqg⟩)
        have hqp : q < P.length := by omega
        have l1 : (P[i]).length = n := hrow _ (List.getElem_mem hip)
        have l2 : (P[q]).length = n := hrow _ (List.getElem_mem hqp)
        have c2 : ¬ ((q : Int) < 0) := by omega
        have c3 : (0 : Int) ≤ (i : Int) := by omega
        have c4 : (i : Int) < (P.length : Int) := by omega
        have c5 : t < ((P[i]).length : Int) := by omega
        have c6 : (0 : Int) ≤ (q : Int) := by omega
        have c7 : (q : Int) < (P.length : Int) := by omega
        have c8 : t < ((P[q]).length : Int) := by omega
        by_cases hlt : rd (P[i]) t < rd (P[q]) t
        · refine ⟨t1, h3, h4, Ev.step (fun k => ?_) he⟩
          simp only [impl_HandOver.l0, c1, if_true, e, h1, if_false, c2, c3, c4, ht0, rdL P i hip, rdL P q hqp, c5, c6, c7, c8, hlt]
        · refine ⟨t2, h5, h6', Ev.step (fun k => ?_) he2⟩
          simp only [impl_HandOver.l0, c1, if_true, e, h1, if_false, c2, c3, c4, ht0, rdL P i hip, rdL P q hqp, c5, c6, c7, c8, hlt]
def okHand (P : List (List Int)) (W : List Int) (g : Int) : Prop := goodPrices P = true ∧ goodWho W P.length = true ∧ 0 ≤ g ∧ g < (P.length : Int) ∧ 2 ≤ P.length
theorem rows_same (P : List (List Int)) (h : goodPrices P = true) : ∀ x ∈ P, x.length = P.length := by
  intro x hx
  obtain ⟨i, hi, rfl⟩ := List.getElem_of_mem hx
  have := (prices_row P h i hi).1
  rw [rdL P i hi] at this
  exact this
theorem impl_ok (P : List (List Int)) (W : List Int) (g : Nat) (h : okHand P W (g : Int)) : ∃ tq : Nat, tq < P.length ∧ g ≠ tq ∧ Ev (fun k => impl_HandOver.f k P W (g : Int)) (rowsOf W g tq P.length, true) := by
  obtain ⟨hp, hw, h0, h1, h2⟩ := h
  obtain ⟨l1, l2, l3⟩ := good_len P W hp hw
  have hat := who_at W P.length hw
  have hgn : g < P.length := by omega
  obtain ⟨tq, h3, h4, he⟩ := impl_l0 P W P.length g (wAt W g) rfl rfl l1 l3 hgn h2 (hat.2 g hgn).1 (hat.2 g hgn).2.1 (rows_same P hp) P.length 0 (-1) (by omega) (.inl ⟨rfl, fun j hj => by omega⟩)
  refine ⟨tq, h3, h4, ?_⟩
  simp only [impl_HandOver.f]
  have hgw := impl_who P W (by omega) (fun j hj => by have := rows_same P hp _ (List.getElem_mem hj); omega) (by omega)
  rw [hp, hw] at hgw
  refine Ev.bind hgw ?_
  have w : wrap64 ((W.length : Int) - 1) = (W.length : Int) - 1 := wrap_in (by omega) (by omega)
  have c : ((0 : Int) ≤ (g : Int) ∧ (g : Int) ≤ (W.length : Int) - 1) := by omega
  have c1 : (((W.length : Nat) : Int) == 1) = false := by rw [beq_eq_false_iff_ne]; omega
  simp only [Bool.and_self, if_true, w, between_eq, decide_eq_true c, Option.bind_some, c1]
  refine Ev.next ?_
  have c2 : (g : Int) < (W.length : Int) := by omega
  simp only [impl_HandOver.j0, Bool.false_eq_true, if_false, h0, c2, if_true]
  rw [l1]
  exact he
theorem impl_not (P : List (List Int)) (W : List Int) (g : Int) (hP : P.length ≤ 8) (hrow : ∀ x ∈ P, x.length ≤ 8) (hW : W.length = P.length) (hg : -1 ≤ g ∧ g ≤ (P.length : Int)) (h : ¬ okHand P W g) : Ev (fun k => impl_HandOver.f k P W g) ([], false) := by
  have stop : Ev (fun k => impl_HandOver.j0 k P W g true) ([], false) := Ev.next ⟨0, fun k _ => by simp [impl_HandOver.j0]⟩
  simp only [impl_HandOver.f]
  refine Ev.bind (impl_who P W (by omega) (fun j hj => by have := hrow _ (List.getElem_mem hj); omega) (by omega)) ?_
  cases hgw : (goodPrices P && goodWho W P.length) with
  | false =>
    simp only [Bool.false_eq_true, if_false]
    exact stop
  | true =>
    rw [Bool.and_eq_true] at hgw
    have hl := prices_len P hgw.1
    have w : wrap64 ((W.length : Int) - 1) = (W.length : Int) - 1 := wrap_in (by omega) (by omega)
    simp only [if_true, w, between_eq, Option.bind_some]
    by_cases c : ((0 : Int) ≤ g ∧ g ≤ (W.length : Int) - 1)
    · have h1 : P.length = 1 := Classical.byContradiction fun hne => h ⟨hgw.1, hgw.2, c.1, by omega, by omega⟩
      have c1 : (((W.length : Nat) : Int) == 1) = true := by rw [beq_iff_eq]; omega
      simp only [decide_eq_true c, if_true, c1]
      exact stop
    · simp only [decide_eq_false c, Bool.false_eq_true, if_false]
      exact stop
theorem spec_l1 (W : List Int) (n : Nat) (g x : Int) (hn : W.length = n) (h6 : n ≤ 6) (hg0 : 0 ≤ g) (hgn : g < (n : Int)) : ∀ (d i : Nat) (L : List (List Int)), i + d = n → L.length = n →
    ∃ R, Ev (fun k => spec_HandOver.l1 k W g x L W (n : Int) (i : Int)) (R, true) := by
  intro d
  induction d with
  | zero =>
    intro i L hi hL
    have c0 : ¬ ((i : Int) < (n : Int)) := by omega
    refine ⟨L, Ev.next ⟨0, fun k _ => ?_⟩⟩
    simp only [spec_HandOver.l1, c0, if_false]
  | succ d ih =>
    intro i L hi hL
    have e : wrap64 ((i : Int) + 1) = ((i + 1 : Nat) : Int) := wrap_succ i (by omega)
    have c1 : (i : Int) < (n : Int) := by omega
    have c2 : (0 : Int) ≤ (i : Int) := by omega
    have c3 : (i : Int) < (W.length : Int) := by omega
    have c4 : (i : Int) < (L.length : Int) := by omega
    have c5 : g < (W.length : Int) := by omega
    by_cases hg : (i : Int) = g
    · obtain ⟨R, he⟩ := ih (i + 1) L (by omega) hL
      refine ⟨R, Ev.step (fun k => ?_) he⟩
      simp only [spec_HandOver.l1, c1, c2, c3, if_true, e]
      rw [if_pos hg]
    · by_cases hx : (i : Int) = x
      · by_cases hlt : rd W g < rd W (i : Int)
        · obtain ⟨R, he⟩ := ih (i + 1) ((L.set ((i : Int)).toNat ([rd W (i : Int)])).set ((i : Int)).toNat ([rd W g, rd W (i : Int)])) (by omega) (by rw [List.length_set, List.length_set]; exact hL)
          refine ⟨R, Ev.step (fun k => ?_) he⟩
          simp only [spec_HandOver.l1, c1, c2, c3, c4, c5, hg0, if_true, e, hg, if_false, Option.bind_some]
          rw [if_pos hx, if_pos hlt]
        · obtain ⟨R, he⟩ := ih (i + 1) ((L.set ((i : Int)).toNat ([rd W (i : Int)])).set ((i : Int)).toNat ([rd W (i : Int), rd W g])) (by omega) (by rw [List.length_set, List.length_set]; exact hL)
          refine ⟨R, Ev.step (fun k => ?_) he⟩
          simp only [spec_HandOver.l1, c1, c2, c3, c4, c5, hg0, if_true, e, hg, if_false, Option.bind_some]
          rw [if_pos hx, if_neg hlt]
      · obtain ⟨R, he⟩ := ih (i + 1) (L.set ((i : Int)).toNat ([rd W (i : Int)])) (by omega) (by rw [List.length_set]; exact hL)
        refine ⟨R, Ev.step (fun k => ?_) he⟩
        simp only [spec_HandOver.l1, c1, c2, c3, c4, if_true, e, hg, hx, if_false, Option.bind_some]
theorem spec_l0 (P : List (List Int)) (W : List Int) (n : Nat) (g : Int) (hpn : P.length = n) (hn : W.length = n) (h6 : n ≤ 6) (hg0 : 0 ≤ g) (hgn : g < (n : Int)) (ht0 : 0 ≤ rd W g) (htn : rd W g < (n : Int)) (hrow : ∀ x ∈ P, x.length = n) :
    ∀ (d i : Nat) (x : Int), i + d = n → (x < 0 ∨ ∃ q : Nat, x = (q : Int) ∧ q < n) → ∃ R, Ev (fun k => spec_HandOver.l0 k P W g (n : Int) x (n : Int) (i : Int)) (R, true) := by
  intro d
  induction d with
  | zero =>
    intro i x hi hx
    obtain ⟨R, he⟩ := spec_l1 W n g x hn h6 hg0 hgn n 0 (List.replicate n []) (by omega) (by simp)
    refine ⟨R, Ev.step (fun k => ?_) he⟩
    have c0 : ¬ ((i : Int) < (n : Int)) := by omega
    have c1 : (0 : Int) ≤ (n : Int) := by omega
    have t0 : ((n : Int)).toNat = n := by omega
    have c2 : n ≤ 11728124029610 := Nat.le_trans h6 (by decide)
    simp only [spec_HandOver.l0, c0, c1, t0, c2, if_true, if_false]
    rw [hn]
    rfl
  | succ d ih =>
    intro i x hi hx
    have hip : i < P.length := by omega
    have e : wrap64 ((i : Int) + 1) = ((i + 1 : Nat) : Int) := wrap_succ i (by omega)
    have c1 : (i : Int) < (n : Int) := by omega
    obtain ⟨R0, he0⟩ := ih (i + 1) x (by omega) hx
    obtain ⟨R1, he1⟩ := ih (i + 1) (i : Int) (by omega) (.inr ⟨i, rfl, by omega⟩)
    by_cases hg : (i : Int) = g
    · refine ⟨R0, Ev.step (fun k => ?_) he0⟩
      simp only [spec_HandOver.l0, c1, if_true, e]
      rw [if_pos hg]
    · by_cases hx0 : x < 0
      · refine ⟨R1, Ev.step (fun k => ?_) he1⟩
        simp only [spec_HandOver.l0, c1, if_true, e, hg, if_false, hx0]
      · obtain ⟨q, rfl, hq⟩ : ∃ q : Nat, x = (q : Int) ∧ q < n := by
          rcases hx with hx | hx
          · exact absurd hx hx0
          · exact hx
        have hqp : q < P.length := by omega
        have l1 : (P[i]).length = n := hrow _ (List.getElem_mem hip)
        have l2 : (P[q]).length = n := hrow _ (List.getElem_mem hqp)
        have c3 : (0 : Int) ≤ (i : Int) := by omega
        have c4 : (i : Int) < (P.length : Int) := by omega
        have c5 : rd W g < ((P[i]).length : Int) := by omega
        have c6 : (0 : Int) ≤ (q : Int) := by omega
        have c7 : (q : Int) < (P.length : Int) := by omega
        have c8 : rd W g < ((P[q]).length : Int) := by omega
        have c9 : g < (W.length : Int) := by omega
        by_cases hlt : rd (P[i]) (rd W g) < rd (P[q]) (rd W g)
        · refine ⟨R1, Ev.step (fun k => ?_) he1⟩
          simp only [spec_HandOver.l0, c1, if_true, e, hg, if_false, hx0, c3, c4, hg0, c9, ht0, rdL P i hip, rdL P q hqp, c5, c6, c7, c8, hlt]
        · refine ⟨R0, Ev.step (fun k => ?_) he0⟩
          simp only [spec_HandOver.l0, c1, if_true, e, hg, if_false, hx0, c3, c4, hg0, c9, ht0, rdL P i hip, rdL P q hqp, c5, c6, c7, c8, hlt]
theorem spec_any (P : List (List Int)) (W : List Int) (g : Int) (hP : P.length ≤ 8) (hrow : ∀ x ∈ P, x.length ≤ 8) (hW : W.length = P.length) : ∃ R, (okHand P W g → R.2 = true) ∧ (¬ okHand P W g → R.2 = false) ∧ Ev (fun k => spec_HandOver.f k P W g) R := by
  have stop : Ev (fun k => spec_HandOver.j0 k P W g (P.length : Int) true) ([], false) := Ev.next ⟨0, fun k _ => by simp [spec_HandOver.j0]⟩
  have hpr := spec_prices P (by omega) (fun j hj => by have := hrow _ (List.getElem_mem hj); omega)
  have hwh := spec_who W P.length (by omega) (by omega)
  simp only [spec_HandOver.f]
  by_cases hok : okHand P W g
  · obtain ⟨hp, hw, h0, h1, h2⟩ := hok
    have hlen := prices_len P hp
    obtain ⟨gn, rfl⟩ : ∃ gn : Nat, g = (gn : Int) := ⟨g.toNat, by omega⟩
    have hat := (who_at W P.length hw).2 gn (by omega)
    obtain ⟨R, he⟩ := spec_l0 P W P.length (gn : Int) rfl hW hlen.2 h0 h1 hat.1 hat.2.1 (rows_same P hp) P.length 0 (-1) (by omega) (.inl (by decide))
    refine ⟨(R, true), fun _ => rfl, fun h => absurd ⟨hp, hw, h0, h1, h2⟩ h, ?_⟩
    rw [hp] at hpr
    rw [hw] at hwh
    refine Ev.bind hpr ?_
    simp only [if_true]
    refine Ev.bind hwh ?_
    have c1 : ¬ ((P.length : Int) < 2) := by omega
    have c2 : ¬ ((gn : Int) < 0) := by omega
    have c3 : ¬ ((gn : Int) ≥ (P.length : Int)) := by omega
    simp only [if_true, c1, c2, if_false, decide_eq_false c3]
    refine Ev.next ?_
    simp only [spec_HandOver.j0, Bool.false_eq_true, if_false]
    exact he
  · refine ⟨([], false), fun h => absurd h hok, fun _ => rfl, ?_⟩
    refine Ev.bind hpr ?_
    cases hp : goodPrices P with
    | false =>
      simp only [Bool.false_eq_true, if_false]
      exact stop
    | true =>
      simp only [if_true]
      refine Ev.bind hwh ?_
      cases hw : goodWho W P.length with
      | false =>
        simp only [Bool.false_eq_true, if_false]
        exact stop
      | true =>
        simp only [if_true]
        by_cases c1 : (P.length : Int) < 2
        · simp only [c1, if_true]
          exact stop
        · by_cases c2 : g < 0
          · simp only [c1, c2, if_true, if_false]
            exact stop
          · have c3 : g ≥ (P.length : Int) := Classical.byContradiction fun h => hok ⟨hp, hw, by omega, by omega, by omega⟩
            simp only [c1, c2, if_false, decide_eq_true c3]
            exact stop
theorem FnHandOver : laws_FnHandOver.Pure := by
  intro c _ _ hc
  by_cases h1 : (c.length : Int) > 1048576
  · exact ⟨0, by simp [laws_FnHandOver.f, h1]⟩
  have hb : Bytes c := fun x hx => by
    have := hc x hx
    simp only [Lit.wf, IntKind.min, IntKind.max, IntKind.signed, IntKind.bits, Bool.and_eq_true, decide_eq_true_eq] at this
    simp at this
    omega
  obtain ⟨P, W, g, hd, hP, hrow, hW, hg1, hg2⟩ := draw_hand c hb
  obtain ⟨R, hR1, hR2, hs⟩ := spec_any P W g hP hrow hW
  refine Ev.rounds (g := fun k => laws_FnHandOver.f k c) ?_
  simp only [laws_FnHandOver.f, h1, if_false]
  refine Ev.bind hd ?_
  by_cases hok : okHand P W g
  · have hr := hR1 hok
    obtain ⟨gn, rfl⟩ : ∃ gn : Nat, g = (gn : Int) := ⟨g.toNat, by have := hok.2.2.1; omega⟩
    obtain ⟨tq, h3, h4, hi⟩ := impl_ok P W gn hok
    have hgn : gn < P.length := by have := hok.2.2.2.1; omega
    refine Ev.bind hi ?_
    refine Ev.bind hs ?_
    have hl := rows_length W gn tq P.length
    have hrl : ((rowsOf W gn tq P.length).length : Int) = (W.length : Int) := by rw [hl]; omega
    have c1 : (0 : Int) ≤ (gn : Int) := by omega
    have c2 : (gn : Int) < (W.length : Int) := by omega
    have hgl : gn < (rowsOf W gn tq P.length).length := by omega
    have e0 : rd_L2 (rowsOf W gn tq P.length) (gn : Int) = [] := by
      rw [rdL _ gn hgl, rows_at]
      unfold rowOf
      rw [if_pos rfl]
    have e1 : (([] : List Int).length : Int) = 0 := rfl
    simp only [hr, bne_self_eq_false, Bool.false_eq_true, if_false, if_true, hrl, c1, c2, e0, e1]
    have htot := rows_total W gn tq P.length hgn h3 h4 P.length (Nat.le_refl _)
    have hall := tasks_ev (rowsOf W gn tq P.length) (by omega) (rows_fine W gn tq P.length hok.2.1 hgn h3 h4) (fun x hx => by
      obtain ⟨i, hi, rfl⟩ := List.getElem_of_mem hx
      rw [rows_at]
      have := row_small W gn tq i
      omega) (by
      have htk : (rowsOf W gn tq P.length).take P.length = rowsOf W gn tq P.length := List.take_of_length_le (by omega)
      rw [htk, if_pos hgn, if_pos h3] at htot
      omega)
    exact Ev.bind hall (Ev.now _)
  · have hr := hR2 hok
    refine Ev.bind (impl_not P W g hP hrow hW ⟨hg1, hg2⟩ hok) ?_
    refine Ev.bind hs ?_
    simp only [hr, bne_self_eq_false, Bool.false_eq_true, if_false]
    exact Ev.now _

end Go.Proofs.Ytenedhhmpdjpiaa.Pure
