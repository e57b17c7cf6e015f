/- 'FnExactHandOver': what the program's function and the reference's answer, told over numbers and lists alone, meets the law at every input within the kinds' own bounds; no other condition. -/
import Derived.Test.YtenedhhmpdjpiaaQFnExactHandOverx8
import Derived.Test.YtenedhhmpdjpiaaPlain
namespace Go.Proofs.Ytenedhhmpdjpiaa.Pure
open Go.RowKit Go.Proofs.Ytenedhhmpdjpiaa.PFnExactHandOver Go.Proofs.Ytenedhhmpdjpiaa.Plain Go.Proofs.YtenedhhmpdjpiaaW.PrintWords Go.Proofs.YtenedhhmpdjpiaaW.PrintLast
set_option linter.unusedVariables false
set_option linter.unusedSimpArgs false

theorem szIntS_eq (l : List Int) (h : l.length ≤ 140737488351232) (n : Int) (h0 : 0 ≤ n) (h1 : n ≤ 1048576) : laws_szIntS.f l n = some (if (l.length : Int) > n then -1 else n - l.length) := by
  unfold laws_szIntS.f
  rw [wrap_in (by omega) (by omega)]
  split <;> split <;> first | rfl | (exfalso; omega)
theorem toIntS_ev (l : List Int) (h : l.length ≤ 1048576) : Ev (fun k => laws_toIntS.f k l) l := by
  have := to_loop (fun k acc i => laws_toIntS.l0 k l acc i) id l 0 (fun k acc => by simp [laws_toIntS.l0]) (fun i hi => ⟨0, fun k _ acc hacc => by
    have h1 : (i : Int) < (l.length : Int) := by omega
    have h2 : (0 : Int) ≤ (i : Int) := by omega
    have h3 : (i : Int) < (acc.length : Int) := by omega
    have h4 : rd l (i : Int) = l[i] := by simp [rd, hi]
    simp only [laws_toIntS.l0, h1, h2, h3, h4, if_true, wrap_succ i (by omega), toNat_i]
    rfl⟩)
  rw [List.map_id] at this
  exact Ev.congr (fun k => by
    have h5 : l.length ≤ 100000000 := by omega
    simp only [laws_toIntS.f, toNat_i]
    rw [if_pos (by omega), if_pos (by omega)]) this
theorem eqIntS_ev (l : List Int) (h : l.length < 9223372036854775807) : Ev (fun k => laws_eqIntS.f k l l) true := by
  have := eq_loop (fun k i => laws_eqIntS.l0 k l l i) l.length true (fun k => by simp [laws_eqIntS.l0]) (fun i hi => ⟨0, fun k _ => by
    have h1 : (i : Int) < (l.length : Int) := by omega
    have h2 : (0 : Int) ≤ (i : Int) := by omega
    simp only [laws_eqIntS.l0, h1, h2, if_true, Option.bind_some, wrap_succ i (by omega), bne_self_eq_false, Bool.false_eq_true, if_false]⟩)
  exact Ev.congr (fun k => by simp only [laws_eqIntS.f, if_true]) this
theorem markIntS_at (l : List Int) (h : l.length ≤ 1000000000) (m0 : Int) (h0 : 0 ≤ m0) (hm : m0 ≤ 1000000000000000) : Ev (fun k => laws_markIntS.f k l m0) (m0 + ((1 : Nat) : Int) * (l.length : Int), (List.range l.length).map fun (j : Nat) => id (m0 + ((1 : Nat) : Int) * (j : Int))) := by
  refine mark_loop (fun k ys m i => laws_markIntS.l0 k ys m i) id 1 m0 l (fun k ys m hy => by simp [laws_markIntS.l0, hy]) (fun i hi => ⟨0, fun k _ ys hy => ?_⟩)
  have h1 : (i : Int) < (ys.length : Int) := by omega
  have h2 : (0 : Int) ≤ (i : Int) := by omega
  have hw1 : wrap64 (m0 + 1 * (i : Int) + 1) = m0 + 1 * ((i + 1 : Nat) : Int) := (wrap_in (by omega) (by omega)).trans (by omega)
  simp only [Int.cast_ofNat_Int] at *
  simp only [laws_markIntS.l0, h1, h2, if_true, wrap_succ i (by omega), toNat_i, Option.bind_some, hw1]
  all_goals rfl
theorem markIntS_ev (l : List Int) (h : l.length ≤ 1000000000) : Ev (fun k => laws_markIntS.f k l 1) (1 + ((1 : Nat) : Int) * (l.length : Int), (List.range l.length).map fun (j : Nat) => id (1 + ((1 : Nat) : Int) * (j : Int))) := markIntS_at l h 1 (by omega) (by omega)
theorem heldIntS_at (n : Nat) (h : n ≤ 1000000000) (m0 : Int) (h0 : 0 ≤ m0) (hm : m0 ≤ 1000000000000000) : Ev (fun k => laws_heldIntS.f k ((List.range n).map fun (j : Nat) => id (m0 + ((1 : Nat) : Int) * (j : Int))) m0) (m0 + ((1 : Nat) : Int) * (n : Int)) := by
  refine held_loop (fun k m i => laws_heldIntS.l0 k ((List.range n).map fun (j : Nat) => id (m0 + ((1 : Nat) : Int) * (j : Int))) m i) 1 m0 n _ (fun k => by simp [laws_heldIntS.l0]) (fun i hi => ⟨0, fun k _ => ?_⟩)
  have h1 : (i : Int) < ((((List.range n).map fun (j : Nat) => id (m0 + ((1 : Nat) : Int) * (j : Int))).length : Nat) : Int) := by simp; omega
  have h2 : (0 : Int) ≤ (i : Int) := by omega
  have h3 : rd ((List.range n).map fun (j : Nat) => id (m0 + ((1 : Nat) : Int) * (j : Int))) (i : Int) = id (m0 + ((1 : Nat) : Int) * (i : Int)) := by simp [rd, hi]
  have hw1 : wrap64 (m0 + 1 * (i : Int) + 1) = m0 + 1 * ((i + 1 : Nat) : Int) := (wrap_in (by omega) (by omega)).trans (by omega)
  generalize ((List.range n).map fun (j : Nat) => id (m0 + ((1 : Nat) : Int) * (j : Int))) = L at *
  simp only [Int.cast_ofNat_Int] at *
  simp only [laws_heldIntS.l0, h1, h2, h3, if_true, wrap_succ i (by omega), bne_self_eq_false, Bool.false_eq_true, if_false, id, hw1]

theorem heldIntS_ev (n : Nat) (h : n ≤ 1000000000) : Ev (fun k => laws_heldIntS.f k ((List.range n).map fun (j : Nat) => id (1 + ((1 : Nat) : Int) * (j : Int))) 1) (1 + ((1 : Nat) : Int) * (n : Int)) := heldIntS_at n h 1 (by omega) (by omega)
theorem between_eq (a lo hi : Int) : impl_between.f a lo hi = some (decide (lo ≤ a ∧ a ≤ hi)) := by
  unfold impl_between.f
  split <;> simp <;> omega
def okRow (x : List Int) (n : Nat) : Bool := decide (x.length = n) && (List.range x.length).all (fun j => decide (0 ≤ rd x (j : Int) ∧ rd x (j : Int) ≤ 100000))
def goodPrices (l : List (List Int)) : Bool := decide (1 ≤ l.length ∧ l.length ≤ 6) && (List.range l.length).all (fun i => okRow (rd_L1 l (i : Int)) l.length)
theorem spec_prices (l : List (List Int)) (hb : l.length ≤ 1099511627776) (hi : ∀ j (h : j < l.length), l[j].length ≤ 1048576) : Ev (fun k => spec_GoodPrices.f k l) (goodPrices l) := by
  have hin : ∀ (i : Nat), i < l.length → ∀ (x : List Int), x.length ≤ 1048576 → ∀ r, Ev (fun k => spec_GoodPrices.l0 k (l.length : Int) l (l.length : Int) ((i + 1 : Nat) : Int)) r →
      Ev (fun k => spec_GoodPrices.l1 k (l.length : Int) l (l.length : Int) (i : Int) x (x.length : Int) 0) (if (List.range x.length).all (fun j => decide (0 ≤ rd x (j : Int) ∧ rd x (j : Int) ≤ 100000)) = true then r else false) := by
    intro i hlt x hx r hr
    refine all_loop2 (fun k j => spec_GoodPrices.l1 k (l.length : Int) l (l.length : Int) (i : Int) x (x.length : Int) j) x.length _ r false ?_ ?_ ?_
    · refine Ev.back 1 0 (fun k _ => ?_) hr
      have h1 : ¬ ((x.length : Int) < (x.length : Int)) := by omega
      simp only [spec_GoodPrices.l1, h1, if_false, wrap_succ i (by omega)]
    · intro j hj hp q hq
      refine Ev.back 1 0 (fun k _ => ?_) hq
      have h1 : (j : Int) < (x.length : Int) := by omega
      have h2 : (0 : Int) ≤ (j : Int) := by omega
      rw [decide_eq_true_eq] at hp
      simp only [spec_GoodPrices.l1, h1, h2, if_true, wrap_succ j (by omega)]
      rw [if_neg (by omega), if_neg (by omega)]
    · intro j hj hp
      refine Ev.at 1 0 (fun k _ => ?_)
      have h1 : (j : Int) < (x.length : Int) := by omega
      have h2 : (0 : Int) ≤ (j : Int) := by omega
      rw [decide_eq_false_iff_not] at hp
      simp only [spec_GoodPrices.l1, h1, h2, if_true]
      split
      · rfl
      · rw [if_pos (by omega)]
  have hl := all_loop2 (fun k i => spec_GoodPrices.l0 k (l.length : Int) l (l.length : Int) i) l.length (fun i => okRow (rd_L1 l (i : Int)) l.length) true false
    (Ev.at 1 0 (fun k _ => by simp [spec_GoodPrices.l0]))
    (fun i hlt hp r hr => by
      have h1 : (i : Int) < (l.length : Int) := by omega
      have h2 : (0 : Int) ≤ (i : Int) := by omega
      have h4 : rd_L1 l (i : Int) = l[i] := by simp [rd_L1, hlt]
      have hb' := hi i hlt
      simp only [okRow, Bool.and_eq_true, decide_eq_true_eq] at hp
      have := hin i hlt (rd_L1 l (i : Int)) (by rw [h4]; exact hb') r hr
      rw [if_pos hp.2] at this
      refine Ev.back 1 0 (fun k _ => ?_) this
      simp only [spec_GoodPrices.l0, h1, h2, if_true]
      rw [if_pos (by omega)])
    (fun i hlt hp => by
      have h1 : (i : Int) < (l.length : Int) := by omega
      have h2 : (0 : Int) ≤ (i : Int) := by omega
      have h4 : rd_L1 l (i : Int) = l[i] := by simp [rd_L1, hlt]
      have hb' := hi i hlt
      by_cases hlen : (rd_L1 l (i : Int)).length = l.length
      · simp only [okRow, hlen, decide_true, Bool.true_and] at hp
        have key : ∀ (d j : Nat), j + d = (rd_L1 l (i : Int)).length → (List.range' j d).all (fun j => decide (0 ≤ rd (rd_L1 l (i : Int)) (j : Int) ∧ rd (rd_L1 l (i : Int)) (j : Int) ≤ 100000)) = false →
            Ev (fun k => spec_GoodPrices.l1 k (l.length : Int) l (l.length : Int) (i : Int) (rd_L1 l (i : Int)) ((rd_L1 l (i : Int)).length : Int) (j : Int)) false := by
          intro d
          induction d with
          | zero =>
            intro j _ h
            simp at h
          | succ d ih =>
            intro j hj h
            have h5 : (j : Int) < ((rd_L1 l (i : Int)).length : Int) := by omega
            have h6 : (0 : Int) ≤ (j : Int) := by omega
            rw [List.range'_succ, List.all_cons] at h
            by_cases hc : 0 ≤ rd (rd_L1 l (i : Int)) (j : Int) ∧ rd (rd_L1 l (i : Int)) (j : Int) ≤ 100000
            · rw [decide_eq_true hc, Bool.true_and] at h
              refine Ev.back 1 0 (fun k _ => ?_) (ih (j + 1) (by omega) h)
              rw [h4] at *
              simp only [spec_GoodPrices.l1, h5, h6, if_true, wrap_succ j (by omega)]
              rw [if_neg (by omega), if_neg (by omega)]
            · refine Ev.at 1 0 (fun k _ => ?_)
              simp only [spec_GoodPrices.l1, h5, h6, if_true]
              split
              · rfl
              · rw [if_pos (by omega)]
        rw [← hlen, List.range_eq_range'] at hp
        have := key _ 0 (by omega) hp
        refine Ev.back 1 0 (fun k _ => ?_) this
        simp only [spec_GoodPrices.l0, h1, h2, if_true]
        rw [if_pos (by omega)]
        rfl
      · refine Ev.at 1 0 (fun k _ => ?_)
        simp only [spec_GoodPrices.l0, h1, h2, if_true]
        rw [if_neg (by omega)])
  obtain ⟨K, hK⟩ := hl
  refine ⟨K + 1, fun k hk => ?_⟩
  obtain ⟨m, rfl⟩ : ∃ m, k = m + 1 := ⟨k - 1, by omega⟩
  have hk' := hK m (by omega)
  simp only [spec_GoodPrices.f, spec_GoodPrices.j0, hk', goodPrices]
  generalize (List.range l.length).all (fun (i : Nat) => okRow (rd_L1 l (i : Int)) l.length) = q
  by_cases h1 : 1 ≤ l.length
  · by_cases h6 : l.length ≤ 6
    · have e1 : ¬ ((l.length : Int) < 1) := by omega
      have e2 : ¬ ((l.length : Int) > 6) := by omega
      cases q <;> simp [e1, e2, h1, h6]
    · have e1 : ¬ ((l.length : Int) < 1) := by omega
      have e2 : ((l.length : Int) > 6) := by omega
      cases q <;> simp [e1, e2, h1, h6]
  · have e1 : ((l.length : Int) < 1) := by omega
    simp [e1, h1]
theorem impl_prices (l : List (List Int)) (hb : l.length ≤ 1099511627776) (hi : ∀ j (h : j < l.length), l[j].length ≤ 1048576) : Ev (fun k => impl_GoodPrices.f k l) (goodPrices l) := by
  have key : ∀ (i : Nat), i < l.length → ∀ (x : List Int), x.length ≤ 1048576 → ∀ (d j : Nat), j + d = x.length →
      ((List.range' j d).all (fun j => decide (0 ≤ rd x (j : Int) ∧ rd x (j : Int) ≤ 100000)) = false → Ev (fun k => impl_GoodPrices.l1 k (l.length : Int) l (l.length : Int) (i : Int) x (x.length : Int) (j : Int)) false) ∧
      ((List.range' j d).all (fun j => decide (0 ≤ rd x (j : Int) ∧ rd x (j : Int) ≤ 100000)) = true → ∀ r, Ev (fun k => impl_GoodPrices.l0 k (l.length : Int) l (l.length : Int) ((i + 1 : Nat) : Int)) r → Ev (fun k => impl_GoodPrices.l1 k (l.length : Int) l (l.length : Int) (i : Int) x (x.length : Int) (j : Int)) r) := by
    intro i hlt x hx d
    induction d with
    | zero =>
      intro j hj
      obtain rfl : j = x.length := by omega
      refine ⟨fun h => by simp at h, fun _ r hr => Ev.back 1 0 (fun k _ => ?_) hr⟩
      have h1 : ¬ ((x.length : Int) < (x.length : Int)) := by omega
      simp only [impl_GoodPrices.l1, h1, if_false, wrap_succ i (by omega)]
    | succ d ih =>
      intro j hj
      have h1 : (j : Int) < (x.length : Int) := by omega
      have h2 : (0 : Int) ≤ (j : Int) := by omega
      rw [List.range'_succ, List.all_cons]
      by_cases hc : 0 ≤ rd x (j : Int) ∧ rd x (j : Int) ≤ 100000
      · have e : ∀ k, impl_GoodPrices.l1 (k + 1) (l.length : Int) l (l.length : Int) (i : Int) x (x.length : Int) (j : Int) = impl_GoodPrices.l1 k (l.length : Int) l (l.length : Int) (i : Int) x (x.length : Int) ((j + 1 : Nat) : Int) := by
          intro k
          simp only [impl_GoodPrices.l1, h1, h2, if_true, between_eq, Option.bind_some, hc, and_self, decide_true, wrap_succ j (by omega)]
        rw [decide_eq_true hc, Bool.true_and]
        exact ⟨fun h => Ev.back 1 0 (fun k _ => e k) ((ih (j + 1) (by omega)).1 h), fun h r hr => Ev.back 1 0 (fun k _ => e k) ((ih (j + 1) (by omega)).2 h r hr)⟩
      · rw [decide_eq_false hc, Bool.false_and]
        refine ⟨fun _ => Ev.at 1 0 (fun k _ => ?_), fun h => by cases h⟩
        simp only [impl_GoodPrices.l1, h1, h2, if_true, between_eq, Option.bind_some, decide_eq_false hc, Bool.false_eq_true, if_false]
  have hl := all_loop2 (fun k i => impl_GoodPrices.l0 k (l.length : Int) l (l.length : Int) i) l.length (fun i => okRow (rd_L1 l (i : Int)) l.length) (decide (1 ≤ l.length ∧ l.length ≤ 6)) false
    (Ev.at 1 0 (fun k _ => by
      have h1 : ¬ ((l.length : Int) < (l.length : Int)) := by omega
      simp only [impl_GoodPrices.l0, h1, if_false, between_eq, Option.bind_some, Option.some.injEq]
      apply decide_eq_decide.2
      omega))
    (fun i hlt hp r hr => by
      have h1 : (i : Int) < (l.length : Int) := by omega
      have h2 : (0 : Int) ≤ (i : Int) := by omega
      have h4 : rd_L1 l (i : Int) = l[i] := by simp [rd_L1, hlt]
      have hb' := hi i hlt
      simp only [okRow, Bool.and_eq_true, decide_eq_true_eq] at hp
      have := (key i hlt (rd_L1 l (i : Int)) (by rw [h4]; exact hb') _ 0 (Nat.zero_add _)).2 (by rw [← List.range_eq_range']; exact hp.2) r hr
      refine Ev.back 1 0 (fun k _ => ?_) this
      simp only [impl_GoodPrices.l0, h1, h2, if_true]
      rw [if_pos (by omega)]
      rfl)
    (fun i hlt hp => by
      have h1 : (i : Int) < (l.length : Int) := by omega
      have h2 : (0 : Int) ≤ (i : Int) := by omega
      have h4 : rd_L1 l (i : Int) = l[i] := by simp [rd_L1, hlt]
      have hb' := hi i hlt
      by_cases hlen : (rd_L1 l (i : Int)).length = l.length
      · have hp2 : (List.range (rd_L1 l (i : Int)).length).all (fun j => decide (0 ≤ rd (rd_L1 l (i : Int)) (j : Int) ∧ rd (rd_L1 l (i : Int)) (j : Int) ≤ 100000)) = false := by
          simp only [okRow, decide_eq_true hlen, Bool.true_and] at hp
          exact hp
        have := (key i hlt (rd_L1 l (i : Int)) (by rw [h4]; exact hb') _ 0 (Nat.zero_add _)).1 (by rw [← List.range_eq_range']; exact hp2)
        refine Ev.back 1 0 (fun k _ => ?_) this
        simp only [impl_GoodPrices.l0, h1, h2, if_true]
        rw [if_pos (by omega)]
        rfl
      · refine Ev.at 1 0 (fun k _ => ?_)
        simp only [impl_GoodPrices.l0, h1, h2, if_true]
        rw [if_neg (by omega)])
  have e : (if (List.range l.length).all (fun (i : Nat) => okRow (rd_L1 l (i : Int)) l.length) = true then decide (1 ≤ l.length ∧ l.length ≤ 6) else false) = goodPrices l := by
    unfold goodPrices
    cases (List.range l.length).all (fun (i : Nat) => okRow (rd_L1 l (i : Int)) l.length) <;> simp
  rw [e] at hl
  exact hl
def whoAt (w : List Int) (i : Nat) : Bool := decide (0 ≤ rd w (i : Int) ∧ rd w (i : Int) ≤ (w.length : Int) - 1) && !(w.take i).contains (rd w (i : Int))
def goodWho (w : List Int) (n : Nat) : Bool := decide (w.length = n) && (List.range w.length).all (whoAt w)
theorem take_mem_succ (w : List Int) (i : Nat) (h : i < w.length) (x : Int) : x ∈ w.take (i + 1) ↔ (x ∈ w.take i ∨ x = rd w (i : Int)) := by
  rw [List.take_succ_eq_append_getElem h, List.mem_append, List.mem_singleton, rd_get w i h]
theorem contains_ev (l : List Int) (a : Int) (hb : l.length ≤ 1099511627776) : Ev (fun k => slices_Contains_int_int.f k l a) (l.contains a) := by
  obtain ⟨r, hp, h⟩ := one_while (fun k (s : Int) => slices_Index_int_int.l0 k l a (l.length : Int) s) (fun d s => ∃ i : Nat, s = (i : Int) ∧ i + d = l.length ∧ a ∉ l.take i) (fun r => (r ≥ 0 ↔ a ∈ l))
    (by
      rintro d s ⟨i, rfl, hd, hno⟩
      by_cases hi : i < l.length
      · have h1 : (i : Int) < (l.length : Int) := by omega
        have h2 : (0 : Int) ≤ (i : Int) := by omega
        by_cases he : a = rd l (i : Int)
        · left
          refine ⟨(i : Int), ⟨fun _ => ?_, fun _ => by omega⟩, Ev.at 1 0 (fun k _ => ?_)⟩
          · rw [he, rd_get l i hi]
            exact List.getElem_mem _
          · simp only [slices_Index_int_int.l0, h1, h2, if_true]
            rw [if_pos he]
        · right
          refine ⟨d - 1, ((i + 1 : Nat) : Int), by omega, ⟨i + 1, rfl, by omega, ?_⟩, fun r hr => Ev.back 1 0 (fun k _ => ?_) hr⟩
          · rw [take_mem_succ l i hi]
            rintro (h | h)
            · exact hno h
            · exact he h
          · simp only [slices_Index_int_int.l0, h1, h2, if_true, wrap_succ i (by omega)]
            rw [if_neg he]
      · left
        have h1 : ¬ (i : Int) < (l.length : Int) := by omega
        rw [List.take_of_length_le (by omega)] at hno
        exact ⟨-1, ⟨fun h => by omega, fun h => absurd h hno⟩, Ev.at 1 0 (fun k _ => by simp only [slices_Index_int_int.l0, h1, if_false])⟩) l.length 0 ⟨0, rfl, by omega, by simp⟩
  obtain ⟨K, hK⟩ := h
  refine ⟨K, fun k hk => ?_⟩
  have h' := hK k hk
  simp only at h'
  simp only [slices_Contains_int_int.f, slices_Index_int_int.f, h', Option.bind_some, Option.some.injEq]
  rw [Bool.eq_iff_iff, decide_eq_true_eq, hp, List.contains_iff_mem]
theorem impl_who (p : List (List Int)) (w : List Int) (hb : p.length ≤ 1048576) (hi : ∀ j (h : j < p.length), p[j].length ≤ 1048576) (hw : w.length ≤ 1048576) :
    Ev (fun k => impl_goodWho.f k p w) (goodPrices p && goodWho w p.length) := by
  have hl := all_loop2 (fun k i => impl_goodWho.l0 k w w (w.length : Int) i) w.length (whoAt w) true false
    (Ev.at 1 0 (fun k _ => by simp [impl_goodWho.l0]))
    (fun i hlt hp r hr => by
      have h1 : (i : Int) < (w.length : Int) := by omega
      have h2 : (0 : Int) ≤ (i : Int) := by omega
      have h3 : (i : Int) ≤ (w.length : Int) := by omega
      simp only [whoAt, Bool.and_eq_true, Bool.not_eq_true', decide_eq_true_eq] at hp
      obtain ⟨K, hK⟩ := contains_ev (w.take i) (rd w (i : Int)) (by rw [List.length_take]; omega)
      refine Ev.back 1 K (fun k hk => ?_) hr
      have h5 := hK k hk
      simp only at h5
      rw [hp.2] at h5
      have hwr : wrap64 ((w.length : Int) - 1) = (w.length : Int) - 1 := wrap_in (by omega) (by omega)
      simp only [impl_goodWho.l0, h1, h2, h3, if_true, between_eq, Option.bind_some, hwr, hp.1, and_self, decide_true, toNat_i, h5, Bool.false_eq_true, if_false, wrap_succ i (by omega)])
    (fun i hlt hp => by
      have h1 : (i : Int) < (w.length : Int) := by omega
      have h2 : (0 : Int) ≤ (i : Int) := by omega
      have h3 : (i : Int) ≤ (w.length : Int) := by omega
      obtain ⟨K, hK⟩ := contains_ev (w.take i) (rd w (i : Int)) (by rw [List.length_take]; omega)
      refine Ev.at 1 K (fun k hk => ?_)
      have h5 := hK k hk
      simp only at h5
      have hwr : wrap64 ((w.length : Int) - 1) = (w.length : Int) - 1 := wrap_in (by omega) (by omega)
      simp only [impl_goodWho.l0, h1, h2, h3, if_true, between_eq, Option.bind_some, hwr, toNat_i, h5]
      simp only [whoAt] at hp
      cases hd : decide (0 ≤ rd w (i : Int) ∧ rd w (i : Int) ≤ (w.length : Int) - 1) with
      | false => simp
      | true =>
        rw [hd, Bool.true_and, Bool.not_eq_false'] at hp
        simp only [hp, if_true])
  obtain ⟨K1, h1⟩ := impl_prices p (by omega) hi
  obtain ⟨K2, h2⟩ := hl
  refine ⟨K1 + K2 + 1, fun k hk => ?_⟩
  obtain ⟨m, rfl⟩ : ∃ m, k = m + 1 := ⟨k - 1, by omega⟩
  have h1' := h1 (m + 1) (by omega)
  have h2' := h2 m (by omega)
  simp only at h1' h2'
  simp only [impl_goodWho.f, h1', Option.bind_some, impl_goodWho.j0, if_true, h2', goodWho]
  generalize (List.range w.length).all (whoAt w) = q
  cases goodPrices p with
  | false => simp
  | true =>
    by_cases e : w.length = p.length
    · have e' : ((w.length : Int) != (p.length : Int)) = false := by simp; omega
      rw [e', decide_eq_true e]
      cases q <;> simp
    · have e' : ((w.length : Int) != (p.length : Int)) = true := by simp; omega
      rw [e', decide_eq_false e]
      simp
theorem spec_who (w : List Int) (n : Nat) (hn : n ≤ 1048576) (hw : w.length ≤ 1048576) : Ev (fun k => spec_l27Who.f k w (n : Int)) (goodWho w n) := by
  by_cases e : w.length = n
  · subst e
    obtain ⟨r, hp, h⟩ := one_while (fun k (s : List Bool × Int) => spec_l27Who.l0 k (w.length : Int) s.1 w (w.length : Int) s.2)
      (fun d s => ∃ i : Nat, s.2 = (i : Int) ∧ i + d = w.length ∧ s.1.length = w.length ∧ (∀ j : Nat, j < w.length → (s.1.getD j false = true ↔ (j : Int) ∈ w.take i)) ∧ ∀ j, j < i → whoAt w j = true)
      (fun r => r = (List.range w.length).all (whoAt w))
      (by
        rintro d ⟨s, z⟩ ⟨i, hz, hd, hlen, hhad, hall⟩
        obtain rfl : z = (i : Int) := hz
        simp only at hlen hhad
        by_cases hi : i < w.length
        · have h1 : (i : Int) < (w.length : Int) := by omega
          have h2 : (0 : Int) ≤ (i : Int) := by omega
          have no : whoAt w i = false → (false = (List.range w.length).all (whoAt w)) := by
            intro hf
            symm
            rw [List.all_eq_false]
            exact ⟨i, List.mem_range.2 hi, by simp [hf]⟩
          by_cases hr : 0 ≤ rd w (i : Int) ∧ rd w (i : Int) ≤ (w.length : Int) - 1
          · have h3 : ¬ (rd w (i : Int) < 0) := by omega
            have h4 : ¬ (rd w (i : Int) ≥ (w.length : Int)) := by omega
            have h5 : (rd w (i : Int) < (s.length : Int)) := by omega
            have h6 : rdOf false s (rd w (i : Int)) = s.getD (rd w (i : Int)).toNat false := rfl
            have hh := hhad (rd w (i : Int)).toNat (by omega)
            rw [show (((rd w (i : Int)).toNat : Nat) : Int) = rd w (i : Int) by omega] at hh
            cases hb : s.getD (rd w (i : Int)).toNat false with
            | true =>
              left
              refine ⟨false, no ?_, Ev.at 1 0 (fun k _ => ?_)⟩
              · have := hh.1 hb
                simp only [whoAt]
                rw [List.contains_iff_mem.2 this]
                simp
              · simp only [spec_l27Who.l0, h1, h2, if_true, h3, h4, if_false, hr.1, h5, h6, hb]
            | false =>
              right
              have hnot : rd w (i : Int) ∉ w.take i := fun h => by
                rw [hh.2 h] at hb
                cases hb
              refine ⟨d - 1, (s.set (rd w (i : Int)).toNat true, ((i + 1 : Nat) : Int)), by omega, ⟨i + 1, rfl, by omega, by simp only [List.length_set]; exact hlen, fun j hj => ?_, fun j hj => ?_⟩, fun r hr' => Ev.back 1 0 (fun k _ => ?_) hr'⟩
              · simp only
                rw [take_mem_succ w i hi, ← hhad j hj]
                by_cases ej : (rd w (i : Int)).toNat = j
                · subst ej
                  rw [List.getD_eq_getElem?_getD, List.getElem?_set_self (by omega)]
                  simp
                  omega
                · rw [List.getD_eq_getElem?_getD, List.getElem?_set_ne ej, ← List.getD_eq_getElem?_getD]
                  constructor
                  · exact .inl
                  · rintro (h | h)
                    · exact h
                    · exfalso; omega
              · by_cases ej : j = i
                · subst ej
                  simp only [whoAt, Bool.and_eq_true, Bool.not_eq_true', decide_eq_true_eq]
                  refine ⟨hr, ?_⟩
                  rw [← Bool.not_eq_true, List.contains_iff_mem]
                  exact hnot
                · exact hall j (by omega)
              · simp only [spec_l27Who.l0, h1, h2, if_true, h3, h4, if_false, hr.1, h5, h6, hb, Bool.false_eq_true, wrap_succ i (by omega)]
          · left
            refine ⟨false, no ?_, Ev.at 1 0 (fun k _ => ?_)⟩
            · simp only [whoAt]
              rw [decide_eq_false hr]
              simp
            · simp only [spec_l27Who.l0, h1, h2, if_true]
              split
              · rfl
              · rw [if_pos (by omega)]
        · left
          have h1 : ¬ (i : Int) < (w.length : Int) := by omega
          refine ⟨true, ?_, Ev.at 1 0 (fun k _ => by simp only [spec_l27Who.l0, h1, if_false])⟩
          symm
          rw [range_all]
          exact fun j hj => hall j (by omega)) w.length (List.replicate w.length false, 0)
      ⟨0, rfl, by omega, by simp, fun j hj => by simp [List.getD_eq_getElem?_getD, List.getElem?_replicate, hj], fun j hj => by omega⟩
    subst hp
    refine Ev.congr (fun k => ?_) (r := goodWho w w.length) (f := fun k => spec_l27Who.l0 k (w.length : Int) (List.replicate w.length false) w (w.length : Int) 0) ?_
    · have h5 : w.length ≤ 100000000 := by omega
      simp only [spec_l27Who.f, toNat_i, if_true]
      rw [if_pos (by omega), if_pos (by omega)]
    · have e2 : goodWho w w.length = (List.range w.length).all (whoAt w) := by simp [goodWho]
      rw [e2]
      exact h
  · refine ⟨0, fun k _ => ?_⟩
    have e' : ¬ ((w.length : Int) = (n : Int)) := by omega
    simp only [spec_l27Who.f, e', if_false, goodWho, decide_eq_false e, Bool.false_and]
theorem prices_row (p : List (List Int)) (h : goodPrices p = true) (i : Nat) (hi : i < p.length) : (rd_L1 p (i : Int)).length = p.length ∧ ∀ j : Nat, j < p.length → 0 ≤ rd (rd_L1 p (i : Int)) (j : Int) ∧ rd (rd_L1 p (i : Int)) (j : Int) ≤ 100000 := by
  simp only [goodPrices, Bool.and_eq_true, range_all] at h
  have := h.2 i hi
  simp only [okRow, Bool.and_eq_true, decide_eq_true_eq, range_all] at this
  exact ⟨this.1, fun j hj => this.2 j (by omega)⟩
theorem prices_len (p : List (List Int)) (h : goodPrices p = true) : 1 ≤ p.length ∧ p.length ≤ 6 := by
  simp only [goodPrices, Bool.and_eq_true, decide_eq_true_eq] at h
  exact h.1
theorem who_at (w : List Int) (n : Nat) (h : goodWho w n = true) : w.length = n ∧ ∀ i : Nat, i < n → 0 ≤ rd w (i : Int) ∧ rd w (i : Int) < (n : Int) ∧ rd w (i : Int) ∉ w.take i := by
  simp only [goodWho, Bool.and_eq_true, decide_eq_true_eq, range_all] at h
  refine ⟨h.1, fun i hi => ?_⟩
  have := h.2 i (by omega)
  simp only [whoAt, Bool.and_eq_true, decide_eq_true_eq, Bool.not_eq_true'] at this
  refine ⟨this.1.1, by omega, fun hm => ?_⟩
  rw [List.contains_iff_mem.2 hm] at this
  simp at this
/-- What an assignment costs. -/
theorem szIntSS_ev (l : List (List Int)) (hl : l.length ≤ 140737488351232) (hi : ∀ x, x ∈ l → x.length ≤ 140737488351232) :
    ∃ r, (r < 0 ∨ (¬ r < 0 ∧ l.length ≤ 1048576 ∧ ∀ j (h : j < l.length), l[j].length ≤ 1048576)) ∧ Ev (fun k => laws_szIntSS.f k l 1048576) r := by
  by_cases hn : (l.length : Int) > 1048576
  · refine ⟨-1, .inl (by omega), 0, fun k _ => ?_⟩
    simp only [laws_szIntSS.f]
    rw [wrap_in (by omega) (by omega), if_pos (by omega)]
  · obtain ⟨r, hp, h⟩ := one_while (fun k (s : Int × Int) => laws_szIntSS.l0 k l s.1 s.2) (fun d s => ∃ i : Nat, s.2 = (i : Int) ∧ i + d = l.length ∧ 0 ≤ s.1 ∧ s.1 ≤ 1048576 ∧ ∀ j (h : j < l.length), j < i → l[j].length ≤ 1048576)
      (fun r => r < 0 ∨ (¬ r < 0 ∧ l.length ≤ 1048576 ∧ ∀ j (h : j < l.length), l[j].length ≤ 1048576))
      (by
        rintro d ⟨s, j⟩ ⟨i, hj, hd, hs0, hs1, hall⟩
        obtain rfl : j = (i : Int) := hj
        simp only at hs0 hs1
        by_cases hlt : i < l.length
        · have h1 : (i : Int) < (l.length : Int) := by omega
          have h2 : (0 : Int) ≤ (i : Int) := by omega
          have h3 : rd_L1 l (i : Int) = l[i] := by simp [rd_L1, hlt]
          have hb := hi l[i] (List.getElem_mem _)
          have hz := szIntS_eq l[i] hb s hs0 hs1
          by_cases hc : (l[i].length : Int) > s
          · left
            refine ⟨-1, .inl (by omega), Ev.at 1 0 (fun k _ => ?_)⟩
            simp only [laws_szIntSS.l0, h1, h2, if_true, h3, hz, hc, Option.bind_some]
            rfl
          · right
            have h4 : ¬ (s - (l[i].length : Int) < 0) := by omega
            refine ⟨d - 1, (s - (l[i].length : Int), ((i + 1 : Nat) : Int)), by omega, ⟨i + 1, rfl, by omega, by simp only; omega, by simp only; omega, fun j hj hji => ?_⟩, fun r hr => Ev.back 1 0 (fun k _ => ?_) hr⟩
            · by_cases e : j = i
              · subst e
                omega
              · exact hall j hj (by omega)
            · simp only [laws_szIntSS.l0, h1, h2, if_true, h3, hz, hc, if_false, Option.bind_some, h4, wrap_succ i (by omega)]
        · left
          have h1 : ¬ (i : Int) < (l.length : Int) := by omega
          exact ⟨s, .inr ⟨by omega, by omega, fun j hj => hall j hj (by omega)⟩, Ev.at 1 0 (fun k _ => by simp only [laws_szIntSS.l0, h1, if_false])⟩) l.length (1048576 - (l.length : Int), 0) ⟨0, rfl, by omega, by simp only; omega, by simp only; omega, fun j _ h => by omega⟩
    refine ⟨r, hp, Ev.congr (fun k => ?_) h⟩
    simp only [laws_szIntSS.f]
    rw [wrap_in (by omega) (by omega), if_neg (by omega)]
theorem toIntSS_ev (l : List (List Int)) (hl : l.length ≤ 1048576) (hi : ∀ j (h : j < l.length), l[j].length ≤ 1048576) : Ev (fun k => laws_toIntSS.f k l) l := by
  have := to_loop (fun k acc i => laws_toIntSS.l0 k l acc i) id l [] (fun k acc => by simp [laws_toIntSS.l0]) (fun i hlt => by
    obtain ⟨K, hK⟩ := toIntS_ev l[i] (hi i hlt)
    refine ⟨K, fun k hk acc hacc => ?_⟩
    have h1 : (i : Int) < (l.length : Int) := by omega
    have h2 : (0 : Int) ≤ (i : Int) := by omega
    have h3 : (i : Int) < (acc.length : Int) := by omega
    have h4 : rd_L1 l (i : Int) = l[i] := by simp [rd_L1, hlt]
    have h5 := hK k hk
    simp only at h5
    simp only [laws_toIntSS.l0, h1, h2, h3, h4, h5, if_true, Option.bind_some, wrap_succ i (by omega), toNat_i]
    rfl)
  rw [List.map_id] at this
  exact Ev.congr (fun k => by
    have h5 : l.length ≤ 100000000 := by omega
    simp only [laws_toIntSS.f, toNat_i]
    rw [if_pos (by omega), if_pos (by omega)]) this
theorem eqIntSS_ev (l : List (List Int)) (hl : l.length ≤ 1048576) (hi : ∀ j (h : j < l.length), l[j].length ≤ 1048576) : Ev (fun k => laws_eqIntSS.f k l l) true := by
  have := eq_loop (fun k i => laws_eqIntSS.l0 k l l i) l.length true (fun k => by simp [laws_eqIntSS.l0]) (fun i hlt => by
    have h4 : rd_L1 l (i : Int) = l[i] := by simp [rd_L1, hlt]
    have hb := hi i hlt
    obtain ⟨K, hK⟩ := eqIntS_ev l[i] (by omega)
    refine ⟨K, fun k hk => ?_⟩
    have h1 : (i : Int) < (l.length : Int) := by omega
    have h2 : (0 : Int) ≤ (i : Int) := by omega
    have h5 := hK k hk
    simp only at h5
    simp only [laws_eqIntSS.l0, h1, h2, if_true, h4, h5, Option.bind_some, wrap_succ i (by omega)])
  exact Ev.congr (fun k => by simp only [laws_eqIntSS.f, if_true]) this
theorem rdL (L : List (List Int)) (i : Nat) (h : i < L.length) : rd_L1 L (i : Int) = L[i] := by simp [rd_L1, h]
/-- Who's task a robot has. -/
def wAt (W : List Int) (i : Nat) : Int := rd W ((i : Nat) : Int)
theorem w_inj (W : List Int) (n : Nat) (h : goodWho W n = true) (i j : Nat) (hi : i < n) (hj : j < n) (hne : i ≠ j) : wAt W i ≠ wAt W j := by
  have hw := who_at W n h
  have key : ∀ i j : Nat, i < j → j < n → wAt W i ≠ wAt W j := by
    intro i j hij hj e
    refine (hw.2 j hj).2.2 ?_
    have hil : i < W.length := by omega
    have e1 : wAt W i = W[i] := rd_get W i hil
    show wAt W j ∈ W.take j
    rw [← e, e1, List.mem_take_iff_getElem]
    exact ⟨i, by omega, rfl⟩
  rcases Nat.lt_or_gt_of_ne hne with h1 | h1
  · exact key i j h1 hj
  · exact fun e => key j i h1 hi e.symm
def sort2 (a b : Int) : List Int := if b < a then [b, a] else [a, b]
def rowOf (W : List Int) (g tq i : Nat) : List Int := if i = g then [] else if i = tq then sort2 (wAt W i) (wAt W g) else [wAt W i]
def rowsOf (W : List Int) (g tq n : Nat) : List (List Int) := (List.range n).map (rowOf W g tq)
theorem rows_length (W : List Int) (g tq n : Nat) : (rowsOf W g tq n).length = n := by simp [rowsOf]
theorem rows_at (W : List Int) (g tq n i : Nat) (h : i < (rowsOf W g tq n).length) : (rowsOf W g tq n)[i] = rowOf W g tq i := by simp [rowsOf]
theorem mem_sort2 (a b x : Int) : x ∈ sort2 a b ↔ x = a ∨ x = b := by
  unfold sort2
  split
  · simp only [List.mem_cons, List.mem_nil_iff, or_false]; exact or_comm
  · simp
theorem row_small (W : List Int) (g tq i : Nat) : (rowOf W g tq i).length ≤ 2 := by
  unfold rowOf sort2
  (repeat' split) <;> simp
theorem less_eq (a b : Int) : cmp_Less_int.f a b = some (decide (a < b)) := by
  simp [cmp_Less_int.f, cmp_isNaN_int.f]
theorem sort1_ev (a : Int) : Ev (fun k => slices_Sort_int_int.f k [a]) [a] := by
  have w : wrap64 (0 + 1) = 1 := by rw [wrap_in (by omega) (by omega)]; rfl
  have e1 : (([a] : List Int).length : Int) = 1 := rfl
  have c12 : ([a] : List Int).length ≤ 12 := by simp
  simp only [slices_Sort_int_int.f, c12, if_true, slices_insertionSortOrdered_int.f, w, e1]
  refine Ev.bind (Ev.next ⟨0, fun k _ => ?_⟩) (Ev.now _)
  simp only [slices_insertionSortOrdered_int.l0, Int.lt_irrefl, if_false]
theorem sort2_ev (a b : Int) : Ev (fun k => slices_Sort_int_int.f k [a, b]) (sort2 a b) := by
  have w : wrap64 (0 + 1) = 1 := by rw [wrap_in (by omega) (by omega)]; rfl
  have w2 : wrap64 (1 + 1) = 2 := by rw [wrap_in (by omega) (by omega)]; rfl
  have w3 : wrap64 (1 - 1) = 0 := by rw [wrap_in (by omega) (by omega)]; rfl
  have e1 : (([a, b] : List Int).length : Int) = 2 := rfl
  have c12 : ([a, b] : List Int).length ≤ 12 := by simp
  have fin : ∀ l : List Int, Ev (fun k => slices_insertionSortOrdered_int.l0 k l 0 2 2) l := fun l => Ev.next ⟨0, fun k _ => by
    simp only [slices_insertionSortOrdered_int.l0, Int.lt_irrefl, if_false]⟩
  have d1 : (1 : Int) < 2 := by decide
  have d2 : (1 : Int) > 0 := by decide
  have d3 : (0 : Int) ≤ 1 := by decide
  have d4 : (0 : Int) ≤ 0 := by decide
  have d5 : (0 : Int) < 2 := by decide
  have d6 : ¬ ((0 : Int) > 0) := by decide
  have t1 : ((1 : Int)).toNat = 1 := rfl
  have t0 : ((0 : Int)).toNat = 0 := rfl
  have r1 : rd [a, b] 1 = b := rfl
  have r0 : rd [a, b] 0 = a := rfl
  simp only [slices_Sort_int_int.f, c12, if_true, slices_insertionSortOrdered_int.f, w, e1]
  refine Ev.bind ?_ (Ev.now _)
  refine Ev.next ?_
  simp only [slices_insertionSortOrdered_int.l0, d1, if_true]
  refine Ev.next ?_
  simp only [slices_insertionSortOrdered_int.l1, d1, d2, d3, d4, d5, if_true, e1, w3, less_eq, r1, r0, Option.bind_some, t1, t0, w2]
  unfold sort2
  by_cases h : b < a
  · rw [if_pos h]
    simp only [h, decide_true, if_true]
    refine Ev.next ?_
    simp only [slices_insertionSortOrdered_int.l1, d6, if_false, w2]
    exact fin _
  · rw [if_neg h]
    simp only [h, decide_false, Bool.false_eq_true, if_false]
    exact fin _
theorem good_len (P : List (List Int)) (W : List Int) (hp : goodPrices P = true) (hw : goodWho W P.length = true) : W.length = P.length ∧ 1 ≤ P.length ∧ P.length ≤ 6 :=
  ⟨(who_at W P.length hw).1, prices_len P hp⟩
theorem impl_l1 (W : List Int) (n g tq : Nat) (t : Int) (ht : t = wAt W g) (hn : W.length = n) (h6 : n ≤ 6) (hgt : g ≠ tq) : ∀ (d i : Nat), i + d = n →
    Ev (fun k => impl_HandOver.l1 k (g : Int) t (tq : Int) ((List.range i).map (rowOf W g tq)) W (n : Int) (i : Int)) (rowsOf W g tq n, true) := by
  intro d
  induction d with
  | zero =>
    intro i hi
    obtain rfl : i = n := by omega
    refine Ev.next ⟨0, fun k _ => ?_⟩
    simp only [impl_HandOver.l1, Int.lt_irrefl, if_false]
    rfl
  | succ d ih =>
    intro i hi
    have hin : i < W.length := by omega
    have e : wrap64 ((i : Int) + 1) = ((i + 1 : Nat) : Int) := wrap_succ i (by omega)
    have hnx := ih (i + 1) (by omega)
    rw [List.range_succ, List.map_append, List.map_cons, List.map_nil] at hnx
    have hl : ((List.range i).map (rowOf W g tq)).length < 5864062014805 := Nat.lt_of_le_of_lt (show ((List.range i).map (rowOf W g tq)).length ≤ 8 by simp; omega) (by decide)
    have c1 : (i : Int) < (n : Int) := by omega
    have c2 : (0 : Int) ≤ (i : Int) := by omega
    have c3 : (i : Int) < (W.length : Int) := by omega
    have er : rd W (i : Int) = wAt W i := rfl
    refine Ev.next ?_
    simp only [impl_HandOver.l1, c1, c2, c3, if_true, er, e]
    by_cases hg : i = g
    · have h1 : (i : Int) = (g : Int) := by omega
      have h2 : ¬ ((g : Int) = (tq : Int)) := by omega
      have hr : rowOf W g tq i = [] := by unfold rowOf; rw [if_pos hg]
      rw [hr] at hnx
      simp only [h1, h2, if_true, if_false, hl]
      exact hnx
    · have h1 : ¬ ((i : Int) = (g : Int)) := by omega
      simp only [h1, if_false, Option.bind_some]
      by_cases hq : i = tq
      · have h2 : (i : Int) = (tq : Int) := by omega
        have hr : rowOf W g tq i = sort2 (wAt W i) t := by unfold rowOf; rw [if_neg hg, if_pos hq, ht]
        rw [hr] at hnx
        have hs : ([wAt W i] : List Int).length < 17592186044416 := by simp
        simp only [h2, if_true, hs]
        refine Ev.bind (sort2_ev (wAt W i) t) ?_
        simp only [hl, if_true]
        exact hnx
      · have h2 : ¬ ((i : Int) = (tq : Int)) := by omega
        have hr : rowOf W g tq i = [wAt W i] := by unfold rowOf; rw [if_neg hg, if_neg hq]
        rw [hr] at hnx
        simp only [h2, if_false, hl, if_true]
        exact hnx
theorem impl_l0 (P : List (List Int)) (W : List Int) (n g : Nat) (t : Int) (ht : t = wAt W g) (hpn : P.length = n) (hn : W.length = n) (h6 : n ≤ 6) (hg : g < n) (h2 : 2 ≤ n) (ht0 : 0 ≤ t) (htn : t < (n : Int)) (hrow : ∀ x ∈ P, x.length = n) :
    ∀ (d i : Nat) (x : Int), i + d = n → ((x = -1 ∧ ∀ j, j < i → j = g) ∨ ∃ q : Nat, x = (q : Int) ∧ q < i ∧ q ≠ g) →
    ∃ tq : Nat, tq < n ∧ g ≠ tq ∧ Ev (fun k => impl_HandOver.l0 k P W (g : Int) t x (n : Int) (i : Int)) (rowsOf W g tq n, true) := by
  intro d
  induction d with
  | zero =>
    intro i x hi hx
    rcases hx with ⟨rfl, hall⟩ | ⟨q, rfl, hq, hqg⟩
    · exfalso
      have a1 := hall 0 (by omega)
      have a2 := hall 1 (by omega)
      omega
    · have h := impl_l1 W n g q t ht hn h6 (fun e => hqg e.symm) n 0 (by omega)
      refine ⟨q, by omega, fun e => hqg e.symm, Ev.step (fun k => ?_) h⟩
      have c0 : ¬ ((i : Int) < (n : Int)) := by omega
      simp only [impl_HandOver.l0, c0, if_false]
      rw [hn]
      rfl
  | succ d ih =>
    intro i x hi hx
    have hip : i < P.length := by omega
    have e : wrap64 ((i : Int) + 1) = ((i + 1 : Nat) : Int) := wrap_succ i (by omega)
    have c1 : (i : Int) < (n : Int) := by omega
    by_cases hg2 : i = g
    · obtain ⟨tq, h3, h4, he⟩ := ih (i + 1) x (by omega) (by
        rcases hx with ⟨rfl, hall⟩ | ⟨q, rfl, hq, hqg⟩
        · exact .inl ⟨rfl, fun j hj => by
            by_cases hji : j < i
            · exact hall j hji
            · omega⟩
        · exact .inr ⟨q, rfl, by omega, hqg⟩)
      refine ⟨tq, h3, h4, Ev.step (fun k => ?_) he⟩
      have h1 : (i : Int) = (g : Int) := by omega
      simp only [impl_HandOver.l0, c1, if_true, e]
      rw [if_pos h1]
    · have h1 : ¬ ((i : Int) = (g : Int)) := by omega
      obtain ⟨t1, h3, h4, he⟩ := ih (i + 1) (i : Int) (by omega) (.inr ⟨i, rfl, by omega, hg2⟩)
      rcases hx with ⟨rfl, hall⟩ | ⟨q, rfl, hq, hqg⟩
      · refine ⟨t1, h3, h4, Ev.step (fun k => ?_) he⟩
        have c2 : (-1 : Int) < 0 := by decide
        simp only [impl_HandOver.l0, c1, if_true, e, h1, if_false, c2]
      · obtain ⟨t2, h5, h6', he2⟩ := ih (i + 1) (q : Int) (by omega) (.inr ⟨q, rfl, by omega, hqg⟩)
        have hqp : q < P.length := by omega
        have l1 : (P[i]).length = n := hrow _ (List.getElem_mem hip)
        have l2 : (P[q]).length = n := hrow _ (List.getElem_mem hqp)
        have c2 : ¬ ((q : Int) < 0) := by omega
        have c3 : (0 : Int) ≤ (i : Int) := by omega
        have c4 : (i : Int) < (P.length : Int) := by omega
        have c5 : t < ((P[i]).length : Int) := by omega
        have c6 : (0 : Int) ≤ (q : Int) := by omega
        have c7 : (q : Int) < (P.length : Int) := by omega
        have c8 : t < ((P[q]).length : Int) := by omega
        by_cases hlt : rd (P[i]) t < rd (P[q]) t
        · refine ⟨t1, h3, h4, Ev.step (fun k => ?_) he⟩
          simp only [impl_HandOver.l0, c1, if_true, e, h1, if_false, c2, c3, c4, ht0, rdL P i hip, rdL P q hqp, c5, c6, c7, c8, hlt]
        · refine ⟨t2, h5, h6', Ev.step (fun k => ?_) he2⟩
          simp only [impl_HandOver.l0, c1, if_true, e, h1, if_false, c2, c3, c4, ht0, rdL P i hip, rdL P q hqp, c5, c6, c7, c8, hlt]
def okHand (P : List (List Int)) (W : List Int) (g : Int) : Prop := goodPrices P = true ∧ goodWho W P.length = true ∧ 0 ≤ g ∧ g < (P.length : Int) ∧ 2 ≤ P.length
theorem rows_same (P : List (List Int)) (h : goodPrices P = true) : ∀ x ∈ P, x.length = P.length := by
  intro x hx
  obtain ⟨i, hi, rfl⟩ := List.getElem_of_mem hx
  have := (prices_row P h i hi).1
  rw [rdL P i hi] at this
  exact this
theorem impl_ok (P : List (List Int)) (W : List Int) (g : Nat) (h : okHand P W (g : Int)) : ∃ tq : Nat, tq < P.length ∧ g ≠ tq ∧ Ev (fun k => impl_HandOver.f k P W (g : Int)) (rowsOf W g tq P.length, true) := by
  obtain ⟨hp, hw, h0, h1, h2⟩ := h
  obtain ⟨l1, l2, l3⟩ := good_len P W hp hw
  have hat := who_at W P.length hw
  have hgn : g < P.length := by omega
  obtain ⟨tq, h3, h4, he⟩ := impl_l0 P W P.length g (wAt W g) rfl rfl l1 l3 hgn h2 (hat.2 g hgn).1 (hat.2 g hgn).2.1 (rows_same P hp) P.length 0 (-1) (by omega) (.inl ⟨rfl, fun j hj => by omega⟩)
  refine ⟨tq, h3, h4, ?_⟩
  simp only [impl_HandOver.f]
  have hgw := impl_who P W (by omega) (fun j hj => by have := rows_same P hp _ (List.getElem_mem hj); omega) (by omega)
  rw [hp, hw] at hgw
  refine Ev.bind hgw ?_
  have w : wrap64 ((W.length : Int) - 1) = (W.length : Int) - 1 := wrap_in (by omega) (by omega)
  have c : ((0 : Int) ≤ (g : Int) ∧ (g : Int) ≤ (W.length : Int) - 1) := by omega
  have c1 : (((W.length : Nat) : Int) == 1) = false := by rw [beq_eq_false_iff_ne]; omega
  simp only [Bool.and_self, if_true, w, between_eq, decide_eq_true c, Option.bind_some, c1]
  refine Ev.next ?_
  have c2 : (g : Int) < (W.length : Int) := by omega
  simp only [impl_HandOver.j0, Bool.false_eq_true, if_false, h0, c2, if_true]
  rw [l1]
  exact he
theorem impl_not (P : List (List Int)) (W : List Int) (g : Int) (hP : P.length ≤ 8) (hrow : ∀ x ∈ P, x.length ≤ 8) (hW : W.length = P.length) (hg : -1 ≤ g ∧ g ≤ (P.length : Int)) (h : ¬ okHand P W g) : Ev (fun k => impl_HandOver.f k P W g) ([], false) := by
  have stop : Ev (fun k => impl_HandOver.j0 k P W g true) ([], false) := Ev.next ⟨0, fun k _ => by simp [impl_HandOver.j0]⟩
  simp only [impl_HandOver.f]
  refine Ev.bind (impl_who P W (by omega) (fun j hj => by have := hrow _ (List.getElem_mem hj); omega) (by omega)) ?_
  cases hgw : (goodPrices P && goodWho W P.length) with
  | false =>
    simp only [Bool.false_eq_true, if_false]
    exact stop
  | true =>
    rw [Bool.and_eq_true] at hgw
    have hl := prices_len P hgw.1
    have w : wrap64 ((W.length : Int) - 1) = (W.length : Int) - 1 := wrap_in (by omega) (by omega)
    simp only [if_true, w, between_eq, Option.bind_some]
    by_cases c : ((0 : Int) ≤ g ∧ g ≤ (W.length : Int) - 1)
    · have h1 : P.length = 1 := Classical.byContradiction fun hne => h ⟨hgw.1, hgw.2, c.1, by omega, by omega⟩
      have c1 : (((W.length : Nat) : Int) == 1) = true := by rw [beq_iff_eq]; omega
      simp only [decide_eq_true c, if_true, c1]
      exact stop
    · simp only [decide_eq_false c, Bool.false_eq_true, if_false]
      exact stop
theorem spec_l1 (W : List Int) (n : Nat) (g x : Int) (hn : W.length = n) (h6 : n ≤ 6) (hg0 : 0 ≤ g) (hgn : g < (n : Int)) : ∀ (d i : Nat) (L : List (List Int)), i + d = n → L.length = n →
    ∃ R, Ev (fun k => spec_HandOver.l1 k W g x L W (n : Int) (i : Int)) (R, true) := by
  intro d
  induction d with
  | zero =>
    intro i L hi hL
    have c0 : ¬ ((i : Int) < (n : Int)) := by omega
    refine ⟨L, Ev.next ⟨0, fun k _ => ?_⟩⟩
    simp only [spec_HandOver.l1, c0, if_false]
  | succ d ih =>
    intro i L hi hL
    have e : wrap64 ((i : Int) + 1) = ((i + 1 : Nat) : Int) := wrap_succ i (by omega)
    have c1 : (i : Int) < (n : Int) := by omega
    have c2 : (0 : Int) ≤ (i : Int) := by omega
    have c3 : (i : Int) < (W.length : Int) := by omega
    have c4 : (i : Int) < (L.length : Int) := by omega
    have c5 : g < (W.length : Int) := by omega
    by_cases hg : (i : Int) = g
    · obtain ⟨R, he⟩ := ih (i + 1) L (by omega) hL
      refine ⟨R, Ev.step (fun k => ?_) he⟩
      simp only [spec_HandOver.l1, c1, c2, c3, if_true, e]
      rw [if_pos hg]
    · by_cases hx : (i : Int) = x
      · by_cases hlt : rd W g < rd W (i : Int)
        · obtain ⟨R, he⟩ := ih (i + 1) ((L.set ((i : Int)).toNat ([rd W (i : Int)])).set ((i : Int)).toNat ([rd W g, rd W (i : Int)])) (by omega) (by rw [List.length_set, List.length_set]; exact hL)
          refine ⟨R, Ev.step (fun k => ?_) he⟩
          simp only [spec_HandOver.l1, c1, c2, c3, c4, c5, hg0, if_true, e, hg, if_false, Option.bind_some]
          rw [if_pos hx, if_pos hlt]
        · obtain ⟨R, he⟩ := ih (i + 1) ((L.set ((i : Int)).toNat ([rd W (i : Int)])).set ((i : Int)).toNat ([rd W (i : Int), rd W g])) (by omega) (by rw [List.length_set, List.length_set]; exact hL)
          refine ⟨R, Ev.step (fun k => ?_) he⟩
          simp only [spec_HandOver.l1, c1, c2, c3, c4, c5, hg0, if_true, e, hg, if_false, Option.bind_some]
          rw [if_pos hx, if_neg hlt]
      · obtain ⟨R, he⟩ := ih (i + 1) (L.set ((i : Int)).toNat ([rd W (i : Int)])) (by omega) (by rw [List.length_set]; exact hL)
        refine ⟨R, Ev.step (fun k => ?_) he⟩
        simp only [spec_HandOver.l1, c1, c2, c3, c4, if_true, e, hg, hx, if_false, Option.bind_some]
theorem spec_l0 (P : List (List Int)) (W : List Int) (n : Nat) (g : Int) (hpn : P.length = n) (hn : W.length = n) (h6 : n ≤ 6) (hg0 : 0 ≤ g) (hgn : g < (n : Int)) (ht0 : 0 ≤ rd W g) (htn : rd W g < (n : Int)) (hrow : ∀ x ∈ P, x.length = n) :
    ∀ (d i : Nat) (x : Int), i + d = n → (x < 0 ∨ ∃ q : Nat, x = (q : Int) ∧ q < n) → ∃ R, Ev (fun k => spec_HandOver.l0 k P W g (n : Int) x (n : Int) (i : Int)) (R, true) := by
  intro d
  induction d with
  | zero =>
    intro i x hi hx
    obtain ⟨R, he⟩ := spec_l1 W n g x hn h6 hg0 hgn n 0 (List.replicate n []) (by omega) (by simp)
    refine ⟨R, Ev.step (fun k => ?_) he⟩
    have c0 : ¬ ((i : Int) < (n : Int)) := by omega
    have c1 : (0 : Int) ≤ (n : Int) := by omega
    have t0 : ((n : Int)).toNat = n := by omega
    have c2 : n ≤ 11728124029610 := Nat.le_trans h6 (by decide)
    simp only [spec_HandOver.l0, c0, c1, t0, c2, if_true, if_false]
    rw [hn]
    rfl
  | succ d ih =>
    intro i x hi hx
    have hip : i < P.length := by omega
    have e : wrap64 ((i : Int) + 1) = ((i + 1 : Nat) : Int) := wrap_succ i (by omega)
    have c1 : (i : Int) < (n : Int) := by omega
    obtain ⟨R0, he0⟩ := ih (i + 1) x (by omega) hx
    obtain ⟨R1, he1⟩ := ih (i + 1) (i : Int) (by omega) (.inr ⟨i, rfl, by omega⟩)
    by_cases hg : (i : Int) = g
    · refine ⟨R0, Ev.step (fun k => ?_) he0⟩
      simp only [spec_HandOver.l0, c1, if_true, e]
      rw [if_pos hg]
    · by_cases hx0 : x < 0
      · refine ⟨R1, Ev.step (fun k => ?_) he1⟩
        simp only [spec_HandOver.l0, c1, if_true, e, hg, if_false, hx0]
      · obtain ⟨q, rfl, hq⟩ : ∃ q : Nat, x = (q : Int) ∧ q < n := by
          rcases hx with hx | hx
          · exact absurd hx hx0
          · exact hx
        have hqp : q < P.length := by omega
        have l1 : (P[i]).length = n := hrow _ (List.getElem_mem hip)
        have l2 : (P[q]).length = n := hrow _ (List.getElem_mem hqp)
        have c3 : (0 : Int) ≤ (i : Int) := by omega
        have c4 : (i : Int) < (P.length : Int) := by omega
        have c5 : rd W g < ((P[i]).length : Int) := by omega
        have c6 : (0 : Int) ≤ (q : Int) := by omega
        have c7 : (q : Int) < (P.length : Int) := by omega
        have c8 : rd W g < ((P[q]).length : Int) := by omega
        have c9 : g < (W.length : Int) := by omega
        by_cases hlt : rd (P[i]) (rd W g) < rd (P[q]) (rd W g)
        · refine ⟨R1, Ev.step (fun k => ?_) he1⟩
          simp only [spec_HandOver.l0, c1, if_true, e, hg, if_false, hx0, c3, c4, hg0, c9, ht0, rdL P i hip, rdL P q hqp, c5, c6, c7, c8, hlt]
        · refine ⟨R0, Ev.step (fun k => ?_) he0⟩
          simp only [spec_HandOver.l0, c1, if_true, e, hg, if_false, hx0, c3, c4, hg0, c9, ht0, rdL P i hip, rdL P q hqp, c5, c6, c7, c8, hlt]
theorem spec_any (P : List (List Int)) (W : List Int) (g : Int) (hP : P.length ≤ 8) (hrow : ∀ x ∈ P, x.length ≤ 8) (hW : W.length = P.length) : ∃ R, (okHand P W g → R.2 = true) ∧ (¬ okHand P W g → R.2 = false) ∧ Ev (fun k => spec_HandOver.f k P W g) R := by
  have stop : Ev (fun k => spec_HandOver.j0 k P W g (P.length : Int) true) ([], false) := Ev.next ⟨0, fun k _ => by simp [spec_HandOver.j0]⟩
  have hpr := spec_prices P (by omega) (fun j hj => by have := hrow _ (List.getElem_mem hj); omega)
  have hwh := spec_who W P.length (by omega) (by omega)
  simp only [spec_HandOver.f]
  by_cases hok : okHand P W g
  · obtain ⟨hp, hw, h0, h1, h2⟩ := hok
    have hlen := prices_len P hp
    obtain ⟨gn, rfl⟩ : ∃ gn : Nat, g = (gn : Int) := ⟨g.toNat, by omega⟩
    have hat := (who_at W P.length hw).2 gn (by omega)
    obtain ⟨R, he⟩ := spec_l0 P W P.length (gn : Int) rfl hW hlen.2 h0 h1 hat.1 hat.2.1 (rows_same P hp) P.length 0 (-1) (by omega) (.inl (by decide))
    refine ⟨(R, true), fun _ => rfl, fun h => absurd ⟨hp, hw, h0, h1, h2⟩ h, ?_⟩
    rw [hp] at hpr
    rw [hw] at hwh
    refine Ev.bind hpr ?_
    simp only [if_true]
    refine Ev.bind hwh ?_
    have c1 : ¬ ((P.length : Int) < 2) := by omega
    have c2 : ¬ ((gn : Int) < 0) := by omega
    have c3 : ¬ ((gn : Int) ≥ (P.length : Int)) := by omega
    simp only [if_true, c1, c2, if_false, decide_eq_false c3]
    refine Ev.next ?_
    simp only [spec_HandOver.j0, Bool.false_eq_true, if_false]
    exact he
  · refine ⟨([], false), fun h => absurd h hok, fun _ => rfl, ?_⟩
    refine Ev.bind hpr ?_
    cases hp : goodPrices P with
    | false =>
      simp only [Bool.false_eq_true, if_false]
      exact stop
    | true =>
      simp only [if_true]
      refine Ev.bind hwh ?_
      cases hw : goodWho W P.length with
      | false =>
        simp only [Bool.false_eq_true, if_false]
        exact stop
      | true =>
        simp only [if_true]
        by_cases c1 : (P.length : Int) < 2
        · simp only [c1, if_true]
          exact stop
        · by_cases c2 : g < 0
          · simp only [c1, c2, if_true, if_false]
            exact stop
          · have c3 : g ≥ (P.length : Int) := Classical.byContradiction fun h => hok ⟨hp, hw, by omega, by omega, by omega⟩
            simp only [c1, c2, if_false, decide_eq_true c3]
            exact stop
def mrow (m : Int) (n : Nat) : List Int := (List.range n).map fun (j : Nat) => id (m + ((1 : Nat) : Int) * (j : Int))
def mrows : Int → List (List Int) → List (List Int)
  | _, [] => []
  | m, x :: L => mrow m x.length :: mrows (m + ((1 : Nat) : Int) * (x.length : Int)) L
def msum : List (List Int) → Nat
  | [] => 0
  | x :: L => x.length + msum L
theorem rd_mid (pre L : List (List Int)) (x : List Int) : rd_L1 (pre ++ x :: L) (pre.length : Int) = x := by
  simp [rd_L1]
theorem set_mid (pre L : List (List Int)) (x y : List Int) : (pre ++ x :: L).set ((pre.length : Int)).toNat y = pre ++ y :: L := by
  simp
theorem markSS_loop : ∀ (L pre : List (List Int)) (m : Int), (∀ x ∈ L, x.length ≤ 1048576) → pre.length + L.length ≤ 10000000 → 0 ≤ m → m + msum L ≤ 100000000000000 →
    Ev (fun k => laws_markIntSS.l0 k (pre ++ L) m (pre.length : Int)) (m + (msum L : Int), pre ++ mrows m L) := by
  intro L
  induction L with
  | nil =>
    intro pre m _ _ _ _
    refine Ev.next ⟨0, fun k _ => ?_⟩
    have c0 : ¬ ((pre.length : Int) < ((pre ++ ([] : List (List Int))).length : Int)) := by simp
    simp only [laws_markIntSS.l0, c0, if_false]
    simp [mrows, msum]
  | cons x L ih =>
    intro pre m hx hl h0 hm
    have hxl := hx x List.mem_cons_self
    simp only [List.length_cons, msum] at hl hm
    have h := ih (pre ++ [mrow m x.length]) (m + ((1 : Nat) : Int) * (x.length : Int)) (fun y hy => hx y (List.mem_cons_of_mem _ hy)) (by simp only [List.length_append, List.length_singleton]; omega) (by omega) (by omega)
    have e : wrap64 ((pre.length : Int) + 1) = (((pre ++ [mrow m x.length]).length : Nat) : Int) := by rw [List.length_append, List.length_singleton]; exact wrap_succ _ (by omega)
    have c1 : (pre.length : Int) < ((pre ++ x :: L).length : Int) := by rw [List.length_append, List.length_cons]; omega
    have c2 : (0 : Int) ≤ (pre.length : Int) := by omega
    have er : m + ((1 : Nat) : Int) * (x.length : Int) + (msum L : Int) = m + (msum (x :: L) : Int) := by simp only [msum]; omega
    rw [List.append_assoc, List.singleton_append, er, List.append_assoc, List.singleton_append] at h
    refine Ev.next ?_
    simp only [laws_markIntSS.l0, c1, c2, if_true, rd_mid]
    refine Ev.bind (markIntS_at x (by omega) m h0 (by omega)) ?_
    rw [set_mid, e]
    exact h
theorem markSS_ev (L : List (List Int)) (hx : ∀ x ∈ L, x.length ≤ 1048576) (hl : L.length ≤ 10000000) (hm : msum L ≤ 10000000000000) : Ev (fun k => laws_markIntSS.f k L 1) (1 + (msum L : Int), mrows 1 L) :=
  markSS_loop L [] 1 hx (by simpa using hl) (by omega) (by omega)
theorem heldSS_loop : ∀ (L pre : List (List Int)) (m : Int), (∀ x ∈ L, x.length ≤ 1048576) → pre.length + L.length ≤ 10000000 → 0 ≤ m → m + msum L ≤ 100000000000000 →
    Ev (fun k => laws_heldIntSS.l0 k (pre ++ mrows m L) m (pre.length : Int)) (m + (msum L : Int)) := by
  intro L
  induction L with
  | nil =>
    intro pre m _ _ _ _
    refine Ev.next ⟨0, fun k _ => ?_⟩
    have c0 : ¬ ((pre.length : Int) < ((pre ++ mrows m []).length : Int)) := by simp [mrows]
    simp only [laws_heldIntSS.l0, c0, if_false]
    simp [msum]
  | cons x L ih =>
    intro pre m hx hl h0 hm
    have hxl := hx x List.mem_cons_self
    simp only [List.length_cons, msum] at hl hm
    have h := ih (pre ++ [mrow m x.length]) (m + ((1 : Nat) : Int) * (x.length : Int)) (fun y hy => hx y (List.mem_cons_of_mem _ hy)) (by simp only [List.length_append, List.length_singleton]; omega) (by omega) (by omega)
    have e : wrap64 ((pre.length : Int) + 1) = (((pre ++ [mrow m x.length]).length : Nat) : Int) := by rw [List.length_append, List.length_singleton]; exact wrap_succ _ (by omega)
    have c1 : (pre.length : Int) < ((pre ++ mrow m x.length :: mrows (m + ((1 : Nat) : Int) * (x.length : Int)) L).length : Int) := by rw [List.length_append, List.length_cons]; omega
    have c2 : (0 : Int) ≤ (pre.length : Int) := by omega
    have c3 : ¬ (m + ((1 : Nat) : Int) * (x.length : Int) < 0) := by omega
    have er : m + ((1 : Nat) : Int) * (x.length : Int) + (msum L : Int) = m + (msum (x :: L) : Int) := by simp only [msum]; omega
    rw [List.append_assoc, List.singleton_append, er] at h
    refine Ev.next ?_
    simp only [mrows]
    simp only [laws_heldIntSS.l0, c1, c2, if_true, rd_mid]
    refine Ev.bind (heldIntS_at x.length (by omega) m h0 (by omega)) ?_
    simp only [c3, if_false]
    rw [e]
    exact h
theorem heldSS_ev (L : List (List Int)) (hx : ∀ x ∈ L, x.length ≤ 1048576) (hl : L.length ≤ 10000000) (hm : msum L ≤ 10000000000000) : Ev (fun k => laws_heldIntSS.f k (mrows 1 L) 1) (1 + (msum L : Int)) :=
  heldSS_loop L [] 1 hx (by simpa using hl) (by omega) (by omega)
def partRows (W : List Int) (g tq n i : Nat) : List (List Int) := (List.range i).map (rowOf W g tq) ++ List.replicate (n - i) []
theorem part_length (W : List Int) (g tq n i : Nat) (h : i ≤ n) : (partRows W g tq n i).length = n := by simp [partRows]; omega
theorem part_skip (W : List Int) (g tq n i : Nat) (h : i < n) (e : rowOf W g tq i = []) : partRows W g tq n i = partRows W g tq n (i + 1) := by
  unfold partRows
  rw [show n - i = (n - (i + 1)) + 1 by omega, List.replicate_succ, List.range_succ, List.map_append, List.append_assoc]
  simp [e]
theorem part_set (W : List Int) (g tq n i : Nat) (h : i < n) (v : List Int) (e : rowOf W g tq i = v) : (partRows W g tq n i).set ((i : Int)).toNat v = partRows W g tq n (i + 1) := by
  unfold partRows
  rw [show n - i = (n - (i + 1)) + 1 by omega, List.replicate_succ, List.range_succ, List.map_append, List.append_assoc, List.set_append_right _ _ (by simp)]
  simp [e]
theorem spec_rows (W : List Int) (n g tq : Nat) (hn : W.length = n) (h6 : n ≤ 6) (hg : g < n) (hgt : g ≠ tq) : ∀ (d i : Nat), i + d = n →
    Ev (fun k => spec_HandOver.l1 k W (g : Int) (tq : Int) (partRows W g tq n i) W (n : Int) (i : Int)) (rowsOf W g tq n, true) := by
  intro d
  induction d with
  | zero =>
    intro i hi
    obtain rfl : i = n := by omega
    have c0 : ¬ ((i : Int) < (i : Int)) := by omega
    refine Ev.next ⟨0, fun k _ => ?_⟩
    simp only [spec_HandOver.l1, c0, if_false]
    simp [partRows, rowsOf]
  | succ d ih =>
    intro i hi
    have he := ih (i + 1) (by omega)
    have hL := part_length W g tq n i (by omega)
    have e : wrap64 ((i : Int) + 1) = ((i + 1 : Nat) : Int) := wrap_succ i (by omega)
    have c1 : (i : Int) < (n : Int) := by omega
    have c2 : (0 : Int) ≤ (i : Int) := by omega
    have c3 : (i : Int) < (W.length : Int) := by omega
    have c4 : (i : Int) < ((partRows W g tq n i).length : Int) := by omega
    have c5 : (g : Int) < (W.length : Int) := by omega
    have c6 : (0 : Int) ≤ (g : Int) := by omega
    by_cases hig : i = g
    · have hig2 : (i : Int) = (g : Int) := by omega
      rw [part_skip W g tq n i (by omega) (by unfold rowOf; rw [if_pos hig])]
      refine Ev.step (fun k => ?_) he
      simp only [spec_HandOver.l1, c1, c2, c3, if_true, e]
      rw [if_pos hig2]
    · have hig2 : ¬ ((i : Int) = (g : Int)) := by omega
      by_cases hx : i = tq
      · have hx2 : (i : Int) = (tq : Int) := by omega
        by_cases hlt : rd W (g : Int) < rd W (i : Int)
        · rw [← part_set W g tq n i (by omega) [rd W (g : Int), rd W (i : Int)] (by unfold rowOf sort2 wAt; rw [if_neg hig, if_pos hx, if_pos hlt])] at he
          refine Ev.step (fun k => ?_) he
          simp only [spec_HandOver.l1, c1, c2, c3, c4, c5, c6, if_true, e, hig2, if_false, Option.bind_some, List.set_set]
          rw [if_pos hx2, if_pos hlt]
        · rw [← part_set W g tq n i (by omega) [rd W (i : Int), rd W (g : Int)] (by unfold rowOf sort2 wAt; rw [if_neg hig, if_pos hx, if_neg hlt])] at he
          refine Ev.step (fun k => ?_) he
          simp only [spec_HandOver.l1, c1, c2, c3, c4, c5, c6, if_true, e, hig2, if_false, Option.bind_some, List.set_set]
          rw [if_pos hx2, if_neg hlt]
      · have hx2 : ¬ ((i : Int) = (tq : Int)) := by omega
        rw [← part_set W g tq n i (by omega) [rd W (i : Int)] (by unfold rowOf wAt; rw [if_neg hig, if_neg hx])] at he
        refine Ev.step (fun k => ?_) he
        simp only [spec_HandOver.l1, c1, c2, c3, c4, if_true, e, hig2, hx2, if_false, Option.bind_some]
theorem both_l0 (P : List (List Int)) (W : List Int) (n g : Nat) (hpn : P.length = n) (hn : W.length = n) (h6 : n ≤ 6) (hg : g < n) (h2 : 2 ≤ n) (ht0 : 0 ≤ wAt W g) (htn : wAt W g < (n : Int)) (hrow : ∀ x ∈ P, x.length = n) :
    ∀ (d i : Nat) (x : Int), i + d = n → ((x = -1 ∧ ∀ j, j < i → j = g) ∨ ∃ q : Nat, x = (q : Int) ∧ q < i ∧ q ≠ g) →
    ∃ tq : Nat, tq < n ∧ g ≠ tq ∧ Ev (fun k => impl_HandOver.l0 k P W (g : Int) (wAt W g) x (n : Int) (i : Int)) (rowsOf W g tq n, true) ∧ Ev (fun k => spec_HandOver.l0 k P W (g : Int) (n : Int) x (n : Int) (i : Int)) (rowsOf W g tq n, true) := by
  intro d
  induction d with
  | zero =>
    intro i x hi hx
    rcases hx with ⟨rfl, hall⟩ | ⟨q, rfl, hq, hqg⟩
    · exfalso
      have a1 := hall 0 (by omega)
      have a2 := hall 1 (by omega)
      omega
    · have h := impl_l1 W n g q (wAt W g) rfl hn h6 (fun e => hqg e.symm) n 0 (by omega)
      have hs := spec_rows W n g q hn h6 hg (fun e => hqg e.symm) n 0 (by omega)
      have c0 : ¬ ((i : Int) < (n : Int)) := by omega
      have c1 : (0 : Int) ≤ (n : Int) := by omega
      have t0 : ((n : Int)).toNat = n := by omega
      have c2 : n ≤ 11728124029610 := Nat.le_trans h6 (by decide)
      refine ⟨q, by omega, fun e => hqg e.symm, Ev.step (fun k => ?_) h, Ev.step (fun k => ?_) hs⟩
      · simp only [impl_HandOver.l0, c0, if_false]
        rw [hn]
        rfl
      · simp only [spec_HandOver.l0, c0, c1, t0, c2, if_true, if_false]
        rw [hn]
        rfl
  | succ d ih =>
    intro i x hi hx
    have hip : i < P.length := by omega
    have e : wrap64 ((i : Int) + 1) = ((i + 1 : Nat) : Int) := wrap_succ i (by omega)
    have c1 : (i : Int) < (n : Int) := by omega
    by_cases hg2 : i = g
    · obtain ⟨tq, h3, h4, he, hs⟩ := ih (i + 1) x (by omega) (by
        rcases hx with ⟨rfl, hall⟩ | ⟨q, rfl, hq, hqg⟩
        · exact .inl ⟨rfl, fun j hj => by
            by_cases hji : j < i
            · exact hall j hji
            · omega⟩
        · exact .inr ⟨q, rfl, by omega, hqg⟩)
      have h1 : (i : Int) = (g : Int) := by omega
      refine ⟨tq, h3, h4, Ev.step (fun k => ?_) he, Ev.step (fun k => ?_) hs⟩
      · simp only [impl_HandOver.l0, c1, if_true, e]
        rw [if_pos h1]
      · simp only [spec_HandOver.l0, c1, if_true, e]
        rw [if_pos h1]
    · have h1 : ¬ ((i : Int) = (g : Int)) := by omega
      obtain ⟨t1, h3, h4, he, hs⟩ := ih (i + 1) (i : Int) (by omega) (.inr ⟨i, rfl, by omega, hg2⟩)
      rcases hx with ⟨rfl, hall⟩ | ⟨q, rfl, hq, hqg⟩
      · have c2 : (-1 : Int) < 0 := by decide
        refine ⟨t1, h3, h4, Ev.step (fun k => ?_) he, Ev.step (fun k => ?_) hs⟩
        · simp only [impl_HandOver.l0, c1, if_true, e, h1, if_false, c2]
        · simp only [spec_HandOver.l0, c1, if_true, e, h1, if_false, c2]
      · obtain ⟨t2, h5, h6', he2, hs2⟩ := ih (i + 1) (q : Int) (by omega) (.inr ⟨q, rfl, by omega, hqg⟩)
        have hqp : q < P.length := by omega
        have l1 : (P[i]).length = n := hrow _ (List.getElem_mem hip)
        have l2 : (P[q]).length = n := hrow _ (List.getElem_mem hqp)
        have c2 : ¬ ((q : Int) < 0) := by omega
        have c3 : (0 : Int) ≤ (i : Int) := by omega
        have c4 : (i : Int) < (P.length : Int) := by omega
        have c5 : wAt W g < ((P[i]).length : Int) := by omega
        have c6 : (0 : Int) ≤ (q : Int) := by omega
        have c7 : (q : Int) < (P.length : Int) := by omega
        have c8 : wAt W g < ((P[q]).length : Int) := by omega
        have c9 : (g : Int) < (W.length : Int) := by omega
        have c10 : (0 : Int) ≤ (g : Int) := by omega
        have ht0' : 0 ≤ rd W (g : Int) := ht0
        have c5' : rd W (g : Int) < ((P[i]).length : Int) := c5
        have c8' : rd W (g : Int) < ((P[q]).length : Int) := c8
        by_cases hlt : rd (P[i]) (wAt W g) < rd (P[q]) (wAt W g)
        · have hlt' : rd (P[i]) (rd W (g : Int)) < rd (P[q]) (rd W (g : Int)) := hlt
          refine ⟨t1, h3, h4, Ev.step (fun k => ?_) he, Ev.step (fun k => ?_) hs⟩
          · simp only [impl_HandOver.l0, c1, if_true, e, h1, if_false, c2, c3, c4, ht0, rdL P i hip, rdL P q hqp, c5, c6, c7, c8, hlt]
          · simp only [spec_HandOver.l0, c1, if_true, e, h1, if_false, c2, c3, c4, c10, c9, ht0', rdL P i hip, rdL P q hqp, c5', c6, c7, c8', hlt']
        · have hlt' : ¬ rd (P[i]) (rd W (g : Int)) < rd (P[q]) (rd W (g : Int)) := hlt
          refine ⟨t2, h5, h6', Ev.step (fun k => ?_) he2, Ev.step (fun k => ?_) hs2⟩
          · simp only [impl_HandOver.l0, c1, if_true, e, h1, if_false, c2, c3, c4, ht0, rdL P i hip, rdL P q hqp, c5, c6, c7, c8, hlt]
          · simp only [spec_HandOver.l0, c1, if_true, e, h1, if_false, c2, c3, c4, c10, c9, ht0', rdL P i hip, rdL P q hqp, c5', c6, c7, c8', hlt']
theorem hand_both (P : List (List Int)) (W : List Int) (g : Int) (hb : P.length ≤ 1048576) (hi : ∀ j (h : j < P.length), P[j].length ≤ 1048576) (hwl : W.length ≤ 1048576) :
    ∃ (G : List (List Int)) (b : Bool), G.length ≤ 6 ∧ (∀ x ∈ G, x.length ≤ 2) ∧ Ev (fun k => spec_HandOver.f k P W g) (G, b) ∧ Ev (fun k => impl_HandOver.f k P W g) (G, b) := by
  have stop : Ev (fun k => spec_HandOver.j0 k P W g (P.length : Int) true) ([], false) := Ev.next ⟨0, fun k _ => by simp [spec_HandOver.j0]⟩
  have istop : Ev (fun k => impl_HandOver.j0 k P W g true) ([], false) := Ev.next ⟨0, fun k _ => by simp [impl_HandOver.j0]⟩
  have hpr := spec_prices P (by omega) hi
  have hwh := spec_who W P.length (by omega) (by omega)
  have hgw := impl_who P W hb hi hwl
  cases hp : goodPrices P with
  | false =>
    rw [hp] at hpr hgw
    refine ⟨[], false, by simp, by simp, ?_, ?_⟩
    · simp only [spec_HandOver.f]
      refine Ev.bind hpr ?_
      simp only [Bool.false_eq_true, if_false]
      exact stop
    · simp only [impl_HandOver.f]
      refine Ev.bind hgw ?_
      simp only [Bool.false_and, Bool.false_eq_true, if_false]
      exact istop
  | true =>
    rw [hp] at hpr hgw
    have hl := prices_len P hp
    cases hw : goodWho W P.length with
    | false =>
      rw [hw] at hwh hgw
      refine ⟨[], false, by simp, by simp, ?_, ?_⟩
      · simp only [spec_HandOver.f]
        refine Ev.bind hpr ?_
        simp only [if_true]
        refine Ev.bind hwh ?_
        simp only [Bool.false_eq_true, if_false]
        exact stop
      · simp only [impl_HandOver.f]
        refine Ev.bind hgw ?_
        simp only [Bool.and_false, Bool.false_eq_true, if_false]
        exact istop
    | true =>
      rw [hw] at hwh hgw
      have hWl := (who_at W P.length hw).1
      have w : wrap64 ((W.length : Int) - 1) = (W.length : Int) - 1 := wrap_in (by omega) (by omega)
      by_cases hok : 2 ≤ P.length ∧ 0 ≤ g ∧ g < (P.length : Int)
      · obtain ⟨h2, h0, h1⟩ := hok
        obtain ⟨gn, rfl⟩ : ∃ gn : Nat, g = (gn : Int) := ⟨g.toNat, by omega⟩
        have hat := (who_at W P.length hw).2 gn (by omega)
        obtain ⟨tq, h3, h4, he, hs⟩ := both_l0 P W P.length gn rfl hWl hl.2 (by omega) h2 hat.1 hat.2.1 (rows_same P hp) P.length 0 (-1) (by omega) (.inl ⟨rfl, fun j hj => by omega⟩)
        refine ⟨rowsOf W gn tq P.length, true, by rw [rows_length]; omega, ?_, ?_, ?_⟩
        · intro x hx
          obtain ⟨i, hi, rfl⟩ := List.getElem_of_mem hx
          rw [rows_at]
          have := row_small W gn tq i
          omega
        · simp only [spec_HandOver.f]
          refine Ev.bind hpr ?_
          simp only [if_true]
          refine Ev.bind hwh ?_
          have c1 : ¬ ((P.length : Int) < 2) := by omega
          have c2 : ¬ ((gn : Int) < 0) := by omega
          have c3 : ¬ ((gn : Int) ≥ (P.length : Int)) := by omega
          simp only [if_true, c1, c2, if_false, decide_eq_false c3]
          refine Ev.next ?_
          simp only [spec_HandOver.j0, Bool.false_eq_true, if_false]
          exact hs
        · simp only [impl_HandOver.f]
          refine Ev.bind hgw ?_
          have c : ((0 : Int) ≤ (gn : Int) ∧ (gn : Int) ≤ (W.length : Int) - 1) := by omega
          have c1 : (((W.length : Nat) : Int) == 1) = false := by rw [beq_eq_false_iff_ne]; omega
          simp only [Bool.and_self, if_true, w, between_eq, decide_eq_true c, Option.bind_some, c1]
          refine Ev.next ?_
          have c2 : (gn : Int) < (W.length : Int) := by omega
          simp only [impl_HandOver.j0, Bool.false_eq_true, if_false, h0, c2, if_true]
          rw [hWl]
          exact he
      · refine ⟨[], false, by simp, by simp, ?_, ?_⟩
        · simp only [spec_HandOver.f]
          refine Ev.bind hpr ?_
          simp only [if_true]
          refine Ev.bind hwh ?_
          simp only [if_true]
          by_cases c1 : (P.length : Int) < 2
          · simp only [c1, if_true]
            exact stop
          · by_cases c2 : g < 0
            · simp only [c1, c2, if_true, if_false]
              exact stop
            · have c3 : g ≥ (P.length : Int) := Classical.byContradiction fun h => hok ⟨by omega, by omega, by omega⟩
              simp only [c1, c2, if_false, decide_eq_true c3]
              exact stop
        · simp only [impl_HandOver.f]
          refine Ev.bind hgw ?_
          simp only [Bool.and_self, if_true, w, between_eq, Option.bind_some]
          by_cases c : ((0 : Int) ≤ g ∧ g ≤ (W.length : Int) - 1)
          · have h1 : P.length = 1 := Classical.byContradiction fun hne => hok ⟨by omega, by omega, by omega⟩
            have c1 : (((W.length : Nat) : Int) == 1) = true := by rw [beq_iff_eq]; omega
            simp only [decide_eq_true c, if_true, c1]
            exact istop
          · simp only [decide_eq_false c, Bool.false_eq_true, if_false]
            exact istop
theorem msum_bound : ∀ (L : List (List Int)) (n m : Nat), L.length ≤ n → (∀ x ∈ L, x.length ≤ m) → msum L ≤ n * m
  | [], _, _, _, _ => by simp [msum]
  | x :: L, n, m, hl, hx => by
    obtain ⟨n, rfl⟩ : ∃ q, n = q + 1 := ⟨n - 1, by simp at hl; omega⟩
    have h := msum_bound L n m (by simp at hl; omega) (fun y hy => hx y (List.mem_cons_of_mem _ hy))
    have := hx x List.mem_cons_self
    simp only [msum]
    rw [Nat.succ_mul]
    omega
theorem FnExactHandOver : ∀ (l0 : List (List Int)) (l1 : List Int) (a2 : Int), ((∀ (zl0 : List Int), zl0 ∈ l0 → ((∀ (zzl0 : Int), zzl0 ∈ zl0 → (Lit.int .i64 zzl0).wf = true) ∧ zl0.length * 8 ≤ 140737488351232)) ∧ l0.length * 24 ≤ 140737488351232) → ((∀ (zl1 : Int), zl1 ∈ l1 → (Lit.int .i64 zl1).wf = true) ∧ l1.length * 8 ≤ 140737488351232) → (Lit.int .i64 a2).wf = true → ∃ k, laws_FnExactHandOver.f k l0 l1 a2 = some true := by
  intro p w g ⟨hin, hl⟩ ⟨_, hwl⟩ _
  by_cases hwn : (w.length : Int) > 1048576
  · exact ⟨0, by simp only [laws_FnExactHandOver.f, hwn, if_true]⟩
  obtain ⟨t, ht, K0, h0⟩ := szIntSS_ev p (by omega) (fun x hx => by have := (hin x hx).2; omega)
  rcases ht with ht | ⟨ht, hlen, hinner⟩
  · refine ⟨K0, ?_⟩
    have h0' := h0 K0 (by omega)
    simp only at h0'
    simp only [laws_FnExactHandOver.f, hwn, if_false, h0', Option.bind_some, ht, if_true]
  · have hin2 : ∀ x ∈ p, x.length ≤ 1048576 := fun x hx => by
      obtain ⟨i, hi, rfl⟩ := List.getElem_of_mem hx
      exact hinner i hi
    have hinner2 : ∀ x ∈ p, x.length ≤ 1000000 ∨ True := fun _ _ => .inr trivial
    obtain ⟨G, b, hG, hGx, ⟨K3, h3⟩, ⟨K4, h4⟩⟩ := hand_both p w g hlen hinner (by omega)
    have hGi : ∀ j (h : j < G.length), G[j].length ≤ 1048576 := fun j h => by have := hGx _ (List.getElem_mem h); omega
    have hms := msum_bound p 1048576 1048576 hlen hin2
    have hgs := msum_bound G 6 2 hG hGx
    obtain ⟨K1, h1⟩ := toIntSS_ev p hlen hinner
    obtain ⟨K2, h2⟩ := toIntS_ev w (by omega)
    obtain ⟨K5, h5⟩ := eqIntSS_ev G (by omega) hGi
    obtain ⟨K6, h6⟩ := eqIntSS_ev p hlen hinner
    obtain ⟨K7, h7⟩ := eqIntS_ev w (by omega)
    obtain ⟨K8, h8⟩ := markSS_ev p (fun x hx => by have := hin2 x hx; omega) (by omega) (by omega)
    obtain ⟨K9, h9⟩ := markIntS_at w (by omega) (1 + (msum p : Int)) (by omega) (by omega)
    obtain ⟨K10, h10⟩ := markSS_ev G (fun x hx => by have := hGx x hx; omega) (by omega) (by omega)
    obtain ⟨K11, h11⟩ := heldSS_ev G (fun x hx => by have := hGx x hx; omega) (by omega) (by omega)
    have c1 : ¬ (1 + (msum p : Int) + ((1 : Nat) : Int) * (w.length : Int) < 0) := by omega
    have c2 : ¬ (1 + (msum G : Int) < 0) := by omega
    have e2 : ∀ k, K11 ≤ k → laws_FnExactHandOver.j2 (k + 1) (mrows 1 G) (1 + (msum G : Int)) false = some true := by
      intro k hk
      simp (disch := omega) only [laws_FnExactHandOver.j2, h11, Option.bind_some, Bool.false_eq_true, if_false, c2, if_true]
    have e1 : ∀ k, K1 + K2 + K4 + K5 + K10 + K11 ≤ k → laws_FnExactHandOver.j1 (k + 2) p w g G b G false = some true := by
      intro k hk
      have e2' := e2 k (by omega)
      simp (disch := omega) only [laws_FnExactHandOver.j1, h1, h2, h4, h5, h10, h11, Option.bind_some, Bool.false_eq_true, if_false, c2, if_true, bne_self_eq_false, e2']
    have e0 : ∀ k, K1 + K2 + K4 + K5 + K6 + K7 + K8 + K9 + K10 + K11 ≤ k → laws_FnExactHandOver.j0 (k + 3) p w g G b p w G b false = some true := by
      intro k hk
      have e1' := e1 k (by omega)
      simp (disch := omega) only [laws_FnExactHandOver.j0, h1, h2, h5, h6, h7, h8, h9, Option.bind_some, Bool.false_eq_true, if_false, c1, if_true, bne_self_eq_false, e1']
    refine ⟨K0 + K1 + K2 + K3 + K4 + K5 + K6 + K7 + K8 + K9 + K10 + K11 + 3, ?_⟩
    have e0' := e0 (K0 + K1 + K2 + K3 + K4 + K5 + K6 + K7 + K8 + K9 + K10 + K11) (by omega)
    simp (disch := omega) only [laws_FnExactHandOver.f, hwn, if_false, h0, Option.bind_some, ht, h1, h2, h3, h4, h5, if_true, bne_self_eq_false, e0']

end Go.Proofs.Ytenedhhmpdjpiaa.Pure
