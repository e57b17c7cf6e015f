/- 'FnExactRunUrgent': what the program's function and the reference's answer, told over numbers and lists alone, meets the law at every input within the kinds' own bounds; no other condition. -/
import Derived.Test.YtdbcoojibbboiaaQFnExactRunUrgentx7
import Derived.Test.YtdbcoojibbboiaaPlain
namespace Go.Proofs.Ytdbcoojibbboiaa.Pure
open Go.RowKit Go.Proofs.Ytdbcoojibbboiaa.PFnExactRunUrgent Go.Proofs.Ytdbcoojibbboiaa.Plain Go.Proofs.YtdbcoojibbboiaaW.PrintWords Go.Proofs.YtdbcoojibbboiaaW.PrintLast
set_option linter.unusedVariables false
set_option linter.unusedSimpArgs false

theorem szChoreS_eq (l : List (S65)) (h : l.length ≤ 140737488351232) (n : Int) (h0 : 0 ≤ n) (h1 : n ≤ 1048576) : laws_szChoreS.f l n = some (if (l.length : Int) > n then -1 else n - l.length) := by
  unfold laws_szChoreS.f
  rw [wrap_in (by omega) (by omega)]
  split <;> split <;> first | rfl | (exfalso; omega)
def cChoreS (x : S65) : S62 := ⟨x.f0, x.f1, x.f2⟩
theorem toChoreS_ev (l : List S65) (h : l.length ≤ 1048576) : Ev (fun k => laws_toChoreS.f k l) (l.map cChoreS) := by
  have := to_loop (fun k acc i => laws_toChoreS.l0 k l acc i) cChoreS l z62 (fun k acc => by simp [laws_toChoreS.l0]) (fun i hi => ⟨0, fun k _ acc hacc => by
    have h1 : (i : Int) < (l.length : Int) := by omega
    have h2 : (0 : Int) ≤ (i : Int) := by omega
    have h3 : (i : Int) < (acc.length : Int) := by omega
    have h4 : rd_T65 l (i : Int) = l[i] := by simp [rd_T65, hi]
    simp only [laws_toChoreS.l0, laws_toChore.f, h1, h2, h3, h4, if_true, Option.bind_some, wrap_succ i (by omega), toNat_i]
    rfl⟩)
  exact Ev.congr (fun k => by
    have h5 : l.length ≤ 100000000 := by omega
    simp only [laws_toChoreS.f, toNat_i]
    rw [if_pos (by omega), if_pos (by omega)]) this
theorem toIntS_ev (l : List Int) (h : l.length ≤ 1048576) : Ev (fun k => laws_toIntS.f k l) l := by
  have := to_loop (fun k acc i => laws_toIntS.l0 k l acc i) id l 0 (fun k acc => by simp [laws_toIntS.l0]) (fun i hi => ⟨0, fun k _ acc hacc => by
    have h1 : (i : Int) < (l.length : Int) := by omega
    have h2 : (0 : Int) ≤ (i : Int) := by omega
    have h3 : (i : Int) < (acc.length : Int) := by omega
    have h4 : rd l (i : Int) = l[i] := by simp [rd, hi]
    simp only [laws_toIntS.l0, h1, h2, h3, h4, if_true, wrap_succ i (by omega), toNat_i]
    rfl⟩)
  rw [List.map_id] at this
  exact Ev.congr (fun k => by
    have h5 : l.length ≤ 100000000 := by omega
    simp only [laws_toIntS.f, toNat_i]
    rw [if_pos (by omega), if_pos (by omega)]) this
theorem eqSliceS_ev (l : List (S59)) (h : l.length < 9223372036854775807) : Ev (fun k => laws_eqSliceS.f k l l) true := by
  have := eq_loop (fun k i => laws_eqSliceS.l0 k l l i) l.length true (fun k => by simp [laws_eqSliceS.l0]) (fun i hi => ⟨0, fun k _ => by
    have h1 : (i : Int) < (l.length : Int) := by omega
    have h2 : (0 : Int) ≤ (i : Int) := by omega
    simp only [laws_eqSliceS.l0, laws_eqSlice.f, h1, h2, if_true, Option.bind_some, wrap_succ i (by omega), bne_self_eq_false, Bool.false_eq_true, if_false]⟩)
  exact Ev.congr (fun k => by simp only [laws_eqSliceS.f, if_true]) this
theorem eqIntS_ev (l : List Int) (h : l.length < 9223372036854775807) : Ev (fun k => laws_eqIntS.f k l l) true := by
  have := eq_loop (fun k i => laws_eqIntS.l0 k l l i) l.length true (fun k => by simp [laws_eqIntS.l0]) (fun i hi => ⟨0, fun k _ => by
    have h1 : (i : Int) < (l.length : Int) := by omega
    have h2 : (0 : Int) ≤ (i : Int) := by omega
    simp only [laws_eqIntS.l0, h1, h2, if_true, Option.bind_some, wrap_succ i (by omega), bne_self_eq_false, Bool.false_eq_true, if_false]⟩)
  exact Ev.congr (fun k => by simp only [laws_eqIntS.f, if_true]) this
theorem eqChoreS_ev (l : List (S62)) (h : l.length < 9223372036854775807) : Ev (fun k => laws_eqChoreS.f k l l) true := by
  have := eq_loop (fun k i => laws_eqChoreS.l0 k l l i) l.length true (fun k => by simp [laws_eqChoreS.l0]) (fun i hi => ⟨0, fun k _ => by
    have h1 : (i : Int) < (l.length : Int) := by omega
    have h2 : (0 : Int) ≤ (i : Int) := by omega
    simp only [laws_eqChoreS.l0, laws_eqChore.f, h1, h2, if_true, Option.bind_some, wrap_succ i (by omega), bne_self_eq_false, Bool.false_eq_true, if_false]⟩)
  exact Ev.congr (fun k => by simp only [laws_eqChoreS.f, if_true]) this
theorem markChoreS_at (l : List (S62)) (h : l.length ≤ 1000000000) (m0 : Int) (h0 : 0 ≤ m0) (hm : m0 ≤ 1000000000000000) : Ev (fun k => laws_markChoreS.f k l m0) (m0 + ((3 : Nat) : Int) * (l.length : Int), (List.range l.length).map fun (j : Nat) => (fun m => (⟨m, m + 1, m + 2⟩ : S62)) (m0 + ((3 : Nat) : Int) * (j : Int))) := by
  refine mark_loop (fun k ys m i => laws_markChoreS.l0 k ys m i) (fun m => (⟨m, m + 1, m + 2⟩ : S62)) 3 m0 l (fun k ys m hy => by simp [laws_markChoreS.l0, hy]) (fun i hi => ⟨0, fun k _ ys hy => ?_⟩)
  have h1 : (i : Int) < (ys.length : Int) := by omega
  have h2 : (0 : Int) ≤ (i : Int) := by omega
  have hw1 : wrap64 ((m0 + 3 * (i : Int)) + 1) = m0 + 3 * (i : Int) + 1 := (wrap_in (by omega) (by omega)).trans (by omega)
  have hw2 : wrap64 ((m0 + 3 * (i : Int) + 1) + 1) = m0 + 3 * (i : Int) + 2 := (wrap_in (by omega) (by omega)).trans (by omega)
  have hw3 : wrap64 ((m0 + 3 * (i : Int) + 2) + 1) = m0 + 3 * (i : Int) + 3 := (wrap_in (by omega) (by omega)).trans (by omega)
  simp only [Int.cast_ofNat_Int] at *
  simp only [laws_markChoreS.l0, h1, h2, if_true, wrap_succ i (by omega), toNat_i, Option.bind_some]
  have hs : ∀ (ys : List S62) (v : S62), ys.length = l.length → rd_T62 (ys.set i v) (i : Int) = v := by intro ys v hv; simp [rd_T62, List.getElem?_set, hv, hi]
  simp (disch := simp [hy]) only [hs, hw1, hw2, hw3, List.set_set]
  rw [show (m0 + 3 * (i : Int) + 3) = m0 + 3 * ((i + 1 : Nat) : Int) by omega]
theorem markChoreS_ev (l : List (S62)) (h : l.length ≤ 1000000000) : Ev (fun k => laws_markChoreS.f k l 1) (1 + ((3 : Nat) : Int) * (l.length : Int), (List.range l.length).map fun (j : Nat) => (fun m => (⟨m, m + 1, m + 2⟩ : S62)) (1 + ((3 : Nat) : Int) * (j : Int))) := markChoreS_at l h 1 (by omega) (by omega)
theorem markIntS_at (l : List Int) (h : l.length ≤ 1000000000) (m0 : Int) (h0 : 0 ≤ m0) (hm : m0 ≤ 1000000000000000) : Ev (fun k => laws_markIntS.f k l m0) (m0 + ((1 : Nat) : Int) * (l.length : Int), (List.range l.length).map fun (j : Nat) => id (m0 + ((1 : Nat) : Int) * (j : Int))) := by
  refine mark_loop (fun k ys m i => laws_markIntS.l0 k ys m i) id 1 m0 l (fun k ys m hy => by simp [laws_markIntS.l0, hy]) (fun i hi => ⟨0, fun k _ ys hy => ?_⟩)
  have h1 : (i : Int) < (ys.length : Int) := by omega
  have h2 : (0 : Int) ≤ (i : Int) := by omega
  have hw1 : wrap64 (m0 + 1 * (i : Int) + 1) = m0 + 1 * ((i + 1 : Nat) : Int) := (wrap_in (by omega) (by omega)).trans (by omega)
  simp only [Int.cast_ofNat_Int] at *
  simp only [laws_markIntS.l0, h1, h2, if_true, wrap_succ i (by omega), toNat_i, Option.bind_some, hw1]
  all_goals rfl
theorem markIntS_ev (l : List Int) (h : l.length ≤ 1000000000) : Ev (fun k => laws_markIntS.f k l 1) (1 + ((1 : Nat) : Int) * (l.length : Int), (List.range l.length).map fun (j : Nat) => id (1 + ((1 : Nat) : Int) * (j : Int))) := markIntS_at l h 1 (by omega) (by omega)
theorem heldIntS_at (n : Nat) (h : n ≤ 1000000000) (m0 : Int) (h0 : 0 ≤ m0) (hm : m0 ≤ 1000000000000000) : Ev (fun k => laws_heldIntS.f k ((List.range n).map fun (j : Nat) => id (m0 + ((1 : Nat) : Int) * (j : Int))) m0) (m0 + ((1 : Nat) : Int) * (n : Int)) := by
  refine held_loop (fun k m i => laws_heldIntS.l0 k ((List.range n).map fun (j : Nat) => id (m0 + ((1 : Nat) : Int) * (j : Int))) m i) 1 m0 n _ (fun k => by simp [laws_heldIntS.l0]) (fun i hi => ⟨0, fun k _ => ?_⟩)
  have h1 : (i : Int) < ((((List.range n).map fun (j : Nat) => id (m0 + ((1 : Nat) : Int) * (j : Int))).length : Nat) : Int) := by simp; omega
  have h2 : (0 : Int) ≤ (i : Int) := by omega
  have h3 : rd ((List.range n).map fun (j : Nat) => id (m0 + ((1 : Nat) : Int) * (j : Int))) (i : Int) = id (m0 + ((1 : Nat) : Int) * (i : Int)) := by simp [rd, hi]
  have hw1 : wrap64 (m0 + 1 * (i : Int) + 1) = m0 + 1 * ((i + 1 : Nat) : Int) := (wrap_in (by omega) (by omega)).trans (by omega)
  generalize ((List.range n).map fun (j : Nat) => id (m0 + ((1 : Nat) : Int) * (j : Int))) = L at *
  simp only [Int.cast_ofNat_Int] at *
  simp only [laws_heldIntS.l0, h1, h2, h3, if_true, wrap_succ i (by omega), bne_self_eq_false, Bool.false_eq_true, if_false, id, hw1]

theorem heldIntS_ev (n : Nat) (h : n ≤ 1000000000) : Ev (fun k => laws_heldIntS.f k ((List.range n).map fun (j : Nat) => id (1 + ((1 : Nat) : Int) * (j : Int))) 1) (1 + ((1 : Nat) : Int) * (n : Int)) := heldIntS_at n h 1 (by omega) (by omega)
theorem markSliceS_at (l : List (S59)) (h : l.length ≤ 1000000000) (m0 : Int) (h0 : 0 ≤ m0) (hm : m0 ≤ 1000000000000000) : Ev (fun k => laws_markSliceS.f k l m0) (m0 + ((3 : Nat) : Int) * (l.length : Int), (List.range l.length).map fun (j : Nat) => (fun m => (⟨m, m + 1, m + 2⟩ : S59)) (m0 + ((3 : Nat) : Int) * (j : Int))) := by
  refine mark_loop (fun k ys m i => laws_markSliceS.l0 k ys m i) (fun m => (⟨m, m + 1, m + 2⟩ : S59)) 3 m0 l (fun k ys m hy => by simp [laws_markSliceS.l0, hy]) (fun i hi => ⟨0, fun k _ ys hy => ?_⟩)
  have h1 : (i : Int) < (ys.length : Int) := by omega
  have h2 : (0 : Int) ≤ (i : Int) := by omega
  have hw1 : wrap64 ((m0 + 3 * (i : Int)) + 1) = m0 + 3 * (i : Int) + 1 := (wrap_in (by omega) (by omega)).trans (by omega)
  have hw2 : wrap64 ((m0 + 3 * (i : Int) + 1) + 1) = m0 + 3 * (i : Int) + 2 := (wrap_in (by omega) (by omega)).trans (by omega)
  have hw3 : wrap64 ((m0 + 3 * (i : Int) + 2) + 1) = m0 + 3 * (i : Int) + 3 := (wrap_in (by omega) (by omega)).trans (by omega)
  simp only [Int.cast_ofNat_Int] at *
  simp only [laws_markSliceS.l0, h1, h2, if_true, wrap_succ i (by omega), toNat_i, Option.bind_some]
  have hs : ∀ (ys : List S59) (v : S59), ys.length = l.length → rd_T59 (ys.set i v) (i : Int) = v := by intro ys v hv; simp [rd_T59, List.getElem?_set, hv, hi]
  simp (disch := simp [hy]) only [hs, hw1, hw2, hw3, List.set_set]
  rw [show (m0 + 3 * (i : Int) + 3) = m0 + 3 * ((i + 1 : Nat) : Int) by omega]
theorem markSliceS_ev (l : List (S59)) (h : l.length ≤ 1000000000) : Ev (fun k => laws_markSliceS.f k l 1) (1 + ((3 : Nat) : Int) * (l.length : Int), (List.range l.length).map fun (j : Nat) => (fun m => (⟨m, m + 1, m + 2⟩ : S59)) (1 + ((3 : Nat) : Int) * (j : Int))) := markSliceS_at l h 1 (by omega) (by omega)
theorem heldSliceS_at (n : Nat) (h : n ≤ 1000000000) (m0 : Int) (h0 : 0 ≤ m0) (hm : m0 ≤ 1000000000000000) : Ev (fun k => laws_heldSliceS.f k ((List.range n).map fun (j : Nat) => (fun m => (⟨m, m + 1, m + 2⟩ : S59)) (m0 + ((3 : Nat) : Int) * (j : Int))) m0) (m0 + ((3 : Nat) : Int) * (n : Int)) := by
  refine held_loop (fun k m i => laws_heldSliceS.l0 k ((List.range n).map fun (j : Nat) => (fun m => (⟨m, m + 1, m + 2⟩ : S59)) (m0 + ((3 : Nat) : Int) * (j : Int))) m i) 3 m0 n _ (fun k => by simp [laws_heldSliceS.l0]) (fun i hi => ⟨0, fun k _ => ?_⟩)
  have h1 : (i : Int) < ((((List.range n).map fun (j : Nat) => (fun m => (⟨m, m + 1, m + 2⟩ : S59)) (m0 + ((3 : Nat) : Int) * (j : Int))).length : Nat) : Int) := by simp; omega
  have h2 : (0 : Int) ≤ (i : Int) := by omega
  have h3 : rd_T59 ((List.range n).map fun (j : Nat) => (fun m => (⟨m, m + 1, m + 2⟩ : S59)) (m0 + ((3 : Nat) : Int) * (j : Int))) (i : Int) = (fun m => (⟨m, m + 1, m + 2⟩ : S59)) (m0 + ((3 : Nat) : Int) * (i : Int)) := by simp [rd_T59, hi]
  have hw1 : wrap64 ((m0 + 3 * (i : Int)) + 1) = m0 + 3 * (i : Int) + 1 := (wrap_in (by omega) (by omega)).trans (by omega)
  have hw2 : wrap64 ((m0 + 3 * (i : Int) + 1) + 1) = m0 + 3 * (i : Int) + 2 := (wrap_in (by omega) (by omega)).trans (by omega)
  have hw3 : wrap64 ((m0 + 3 * (i : Int) + 2) + 1) = m0 + 3 * (i : Int) + 3 := (wrap_in (by omega) (by omega)).trans (by omega)
  generalize ((List.range n).map fun (j : Nat) => (fun m => (⟨m, m + 1, m + 2⟩ : S59)) (m0 + ((3 : Nat) : Int) * (j : Int))) = L at *
  simp only [Int.cast_ofNat_Int] at *
  simp only [laws_heldSliceS.l0, h1, h2, h3, if_true, wrap_succ i (by omega), bne_self_eq_false, Bool.false_eq_true, if_false, id]
  simp only [hw1, hw2, hw3, if_true]
  rw [show (m0 + 3 * (i : Int) + 3) = m0 + 3 * ((i + 1 : Nat) : Int) by omega]
theorem heldSliceS_ev (n : Nat) (h : n ≤ 1000000000) : Ev (fun k => laws_heldSliceS.f k ((List.range n).map fun (j : Nat) => (fun m => (⟨m, m + 1, m + 2⟩ : S59)) (1 + ((3 : Nat) : Int) * (j : Int))) 1) (1 + ((3 : Nat) : Int) * (n : Int)) := heldSliceS_at n h 1 (by omega) (by omega)
theorem between_eq (a lo hi : Int) : impl_between.f a lo hi = some (decide (lo ≤ a ∧ a ≤ hi)) := by
  unfold impl_between.f
  split <;> simp <;> omega
def okChore (x : S62) : Bool := decide (1 ≤ x.f0 ∧ x.f0 ≤ 60 ∧ 1 ≤ x.f1 ∧ x.f1 ≤ x.f0 ∧ x.f1 ≤ x.f2 ∧ x.f2 ≤ x.f0)
def goodChores (l : List S62) : Bool := decide (1 ≤ l.length ∧ l.length ≤ 6) && (List.range l.length).all (fun i => okChore (rd_T62 l i))
theorem spec_chores (l : List S62) (hb : l.length ≤ 1099511627776) : Ev (fun k => spec_GoodChores.f k l) (goodChores l) := by
  have hl := all_loop (fun k i => spec_GoodChores.l0 k l (l.length : Int) i) l.length (fun i => okChore (rd_T62 l i)) true false
    (Ev.next ⟨0, fun k _ => by simp [spec_GoodChores.l0]⟩)
    (fun i hi hp => ⟨0, fun k _ => by
      have h1 : (i : Int) < (l.length : Int) := by omega
      have h2 : (0 : Int) ≤ (i : Int) := by omega
      simp only [okChore, decide_eq_true_eq] at hp
      simp only [spec_GoodChores.l0, h1, h2, if_true, wrap_succ i (by omega)]
      rw [if_neg (by omega), if_neg (by omega), if_neg (by omega), if_neg (by omega), if_neg (by omega), if_neg (by omega)]⟩)
    (fun i hi hp => ⟨0, fun k _ => by
      have h1 : (i : Int) < (l.length : Int) := by omega
      have h2 : (0 : Int) ≤ (i : Int) := by omega
      simp only [okChore, decide_eq_false_iff_not] at hp
      simp only [spec_GoodChores.l0, h1, h2, if_true]
      repeat' split
      all_goals first | rfl | (exfalso; omega)⟩)
  obtain ⟨K, hK⟩ := hl
  refine ⟨K + 1, fun k hk => ?_⟩
  obtain ⟨m, rfl⟩ : ∃ m, k = m + 1 := ⟨k - 1, by omega⟩
  have hk' := hK m (by omega)
  simp only [spec_GoodChores.f, spec_GoodChores.j0, hk', goodChores]
  generalize (List.range l.length).all (fun (i : Nat) => okChore (rd_T62 l (i : Int))) = q
  by_cases h1 : 1 ≤ l.length
  · by_cases h6 : l.length ≤ 6
    · have e1 : ¬ ((l.length : Int) < 1) := by omega
      have e2 : ¬ ((l.length : Int) > 6) := by omega
      cases q <;> simp [e1, e2, h1, h6]
    · have e1 : ¬ ((l.length : Int) < 1) := by omega
      have e2 : ((l.length : Int) > 6) := by omega
      cases q <;> simp [e1, e2, h1, h6]
  · have e1 : ((l.length : Int) < 1) := by omega
    simp [e1, h1]
theorem impl_chores (l : List S62) (hb : l.length ≤ 1099511627776) : Ev (fun k => impl_GoodChores.f k l) (goodChores l) := by
  have hl := all_loop (fun k i => impl_GoodChores.l0 k l l (l.length : Int) i) l.length (fun i => okChore (rd_T62 l i)) (decide (1 ≤ l.length ∧ l.length ≤ 6)) false
    (Ev.next ⟨0, fun k _ => by
      have h1 : ¬ (l.length : Int) < (l.length : Int) := by omega
      simp only [impl_GoodChores.l0, h1, if_false, between_eq, Option.bind_some, Option.some.injEq]
      apply decide_eq_decide.2
      omega⟩)
    (fun i hi hp => ⟨0, fun k _ => by
      have h1 : (i : Int) < (l.length : Int) := by omega
      have h2 : (0 : Int) ≤ (i : Int) := by omega
      simp only [okChore, decide_eq_true_eq] at hp
      simp only [impl_GoodChores.l0, h1, h2, if_true, wrap_succ i (by omega), between_eq, Option.bind_some, decide_eq_true_eq]
      rw [if_pos (by omega), if_pos (by omega), if_pos (by omega)]⟩)
    (fun i hi hp => ⟨0, fun k _ => by
      have h1 : (i : Int) < (l.length : Int) := by omega
      have h2 : (0 : Int) ≤ (i : Int) := by omega
      simp only [okChore, decide_eq_false_iff_not] at hp
      simp only [impl_GoodChores.l0, h1, h2, if_true, between_eq, Option.bind_some, decide_eq_true_eq]
      repeat' split
      all_goals first | rfl | (exfalso; omega)⟩)
  refine Ev.congr (f := fun k => impl_GoodChores.l0 k l l (l.length : Int) 0) (fun k => rfl) ?_
  have e : (if (List.range l.length).all (fun i => okChore (rd_T62 l i)) = true then decide (1 ≤ l.length ∧ l.length ≤ 6) else false) = goodChores l := by
    unfold goodChores
    cases (List.range l.length).all (fun i => okChore (rd_T62 l i)) <;> simp
  rw [← e]
  exact hl
/-! ### The run, tick by tick, over numbers and lists alone -/
structure RS where
  d : List Int
  s : List Int
  w : List Int
  o : List S59
def cm (l : List S62) (F d : List Int) (i : Nat) : Int := rd F (i : Int) + rd d (i : Int) * (rd_T62 l (i : Int)).f0
def pk (u : Bool) (l : List S62) (F d : List Int) (t : Int) : Nat → Int × Int
  | 0 => (-1, 0)
  | m + 1 => if cm l F d m > t then pk u l F d t m else if 0 ≤ (pk u l F d t m).1 ∧ (u = false ∨ (pk u l F d t m).2 ≤ cm l F d m + (rd_T62 l (m : Int)).f2) then pk u l F d t m else ((m : Int), cm l F d m + (rd_T62 l (m : Int)).f2)
def put (o : List S59) (t w : Int) : List S59 := if 0 < o.length ∧ (rd_T59 o ((o.length - 1 : Nat) : Int)).f2 = w ∧ (rd_T59 o ((o.length - 1 : Nat) : Int)).f1 = t then o.set (o.length - 1) ⟨(rd_T59 o ((o.length - 1 : Nat) : Int)).f0, t + 1, w⟩ else o ++ [⟨t, t + 1, w⟩]
def fin (l : List S62) (F : List Int) (t : Int) (S : RS) (j : Nat) : RS :=
  if rd S.s (j : Int) + 1 < (rd_T62 l (j : Int)).f1 then ⟨S.d, S.s.set j (rd S.s (j : Int) + 1), S.w, put S.o t (j : Int)⟩
  else ⟨S.d.set j (rd S.d (j : Int) + 1), S.s.set j 0, S.w.set j (mx (rd S.w (j : Int)) (t + 1 - cm l F S.d j)), put S.o t (j : Int)⟩
def stp (u : Bool) (l : List S62) (F : List Int) (t : Int) (S : RS) : RS := if (pk u l F S.d t l.length).1 < 0 then S else fin l F t S (pk u l F S.d t l.length).1.toNat
def run (u : Bool) (l : List S62) (F : List Int) : Nat → RS
  | 0 => ⟨List.replicate l.length 0, List.replicate l.length 0, List.replicate l.length 0, []⟩
  | t + 1 => stp u l F (t : Int) (run u l F t)
theorem rd_set (xs : List Int) (i j : Nat) (v : Int) (h : i < xs.length) : rd (xs.set i v) (j : Int) = if i = j then v else rd xs (j : Int) := by
  unfold rd
  rw [toNat_i, List.getD_eq_getElem?_getD, List.getD_eq_getElem?_getD, List.getElem?_set]
  by_cases e : i = j
  · subst e
    simp [h]
  · simp [e]
theorem rdL_set (xs : List (List S55)) (i j : Nat) (v : List S55) (h : i < xs.length) : rd_L3 (xs.set i v) (j : Int) = if i = j then v else rd_L3 xs (j : Int) := by
  unfold rd_L3
  rw [toNat_i, List.getD_eq_getElem?_getD, List.getD_eq_getElem?_getD, List.getElem?_set]
  by_cases e : i = j
  · subst e
    simp [h]
  · simp [e]
theorem rd_rep (n i : Nat) (h : i < n) : rd (List.replicate n 0) (i : Int) = 0 := by
  unfold rd
  simp [toNat_i, h]
theorem rdL_rep (n i : Nat) (h : i < n) : rd_L3 (List.replicate n []) (i : Int) = [] := by
  unfold rd_L3
  simp [toNat_i, h]
structure Okr (l : List S62) (F : List Int) : Prop where
  n6 : l.length ≤ 6
  lf : F.length = l.length
  ch : ∀ i : Nat, i < l.length → 1 ≤ (rd_T62 l (i : Int)).f0 ∧ (rd_T62 l (i : Int)).f0 ≤ 60 ∧ 1 ≤ (rd_T62 l (i : Int)).f1 ∧ (rd_T62 l (i : Int)).f1 ≤ (rd_T62 l (i : Int)).f0 ∧ (rd_T62 l (i : Int)).f1 ≤ (rd_T62 l (i : Int)).f2 ∧ (rd_T62 l (i : Int)).f2 ≤ (rd_T62 l (i : Int)).f0
  fr : ∀ i : Nat, i < l.length → 0 ≤ rd F (i : Int) ∧ rd F (i : Int) ≤ 60
structure Inv (l : List S62) (F : List Int) (t : Int) (S : RS) : Prop where
  ld : S.d.length = l.length
  ls : S.s.length = l.length
  lw : S.w.length = l.length
  lo : (S.o.length : Int) ≤ t
  dn : ∀ i : Nat, i < l.length → 0 ≤ rd S.d (i : Int) ∧ rd S.d (i : Int) ≤ t ∧ (rd S.d (i : Int) = 0 ∨ cm l F S.d i - (rd_T62 l (i : Int)).f0 < t)
  sp : ∀ i : Nat, i < l.length → 0 ≤ rd S.s (i : Int) ∧ rd S.s (i : Int) < (rd_T62 l (i : Int)).f1 ∧ (rd S.s (i : Int) = 0 ∨ cm l F S.d i < t)
theorem cm_set (l : List S62) (F d : List Int) (i j : Nat) (h : i < d.length) : cm l F (d.set i (rd d (i : Int) + 1)) j = if i = j then cm l F d j + (rd_T62 l (j : Int)).f0 else cm l F d j := by
  unfold cm
  rw [rd_set _ _ _ _ h]
  by_cases e : i = j
  · subst e
    simp only [if_true]
    rw [Int.add_mul, Int.one_mul]
    omega
  · simp only [if_neg e]
theorem put_length (o : List S59) (t w : Int) : (put o t w).length ≤ o.length + 1 ∧ 0 < (put o t w).length := by
  unfold put
  split
  · rename_i h
    rw [List.length_set]
    omega
  · simp
theorem pk_at (u : Bool) (l : List S62) (F d : List Int) (t : Int) : ∀ m, ((pk u l F d t m).1 = -1 ∧ ∀ i, i < m → t < cm l F d i) ∨
    ∃ j, j < m ∧ pk u l F d t m = ((j : Int), cm l F d j + (rd_T62 l (j : Int)).f2) ∧ cm l F d j ≤ t ∧ (u = false → ∀ i, i < j → t < cm l F d i) := by
  intro m
  induction m with
  | zero => exact .inl ⟨rfl, fun i hi => absurd hi (Nat.not_lt_zero _)⟩
  | succ m ih =>
    rcases ih with ⟨h1, h2⟩ | ⟨j, hj, he, hc, hf⟩
    · by_cases c : cm l F d m > t
      · refine .inl ⟨by simp only [pk, c, if_true, h1], fun i hi => ?_⟩
        by_cases e : i = m
        · subst e
          omega
        · exact h2 i (by omega)
      · refine .inr ⟨m, by omega, ?_, by omega, fun _ => h2⟩
        have c1 : ¬ (0 ≤ (pk u l F d t m).1 ∧ (u = false ∨ (pk u l F d t m).2 ≤ cm l F d m + (rd_T62 l (m : Int)).f2)) := by omega
        simp only [pk, c, if_false, c1]
    · by_cases c : cm l F d m > t
      · exact .inr ⟨j, by omega, by simp only [pk, c, if_true, he], hc, hf⟩
      · by_cases c1 : 0 ≤ (pk u l F d t m).1 ∧ (u = false ∨ (pk u l F d t m).2 ≤ cm l F d m + (rd_T62 l (m : Int)).f2)
        · refine .inr ⟨j, by omega, ?_, hc, hf⟩
          simp only [pk, c, if_false]
          rw [if_pos c1, he]
        · refine .inr ⟨m, by omega, ?_, by omega, fun hu => ?_⟩
          · simp only [pk, c, if_false]
            rw [if_neg c1]
          · exact absurd ⟨by rw [he]; exact Int.natCast_nonneg j, .inl hu⟩ c1
theorem cm_range {l : List S62} {F : List Int} {t : Int} {S : RS} (hO : Okr l F) (hI : Inv l F t S) (ht : 0 ≤ t) (i : Nat) (hi : i < l.length) : 0 ≤ rd S.d (i : Int) * (rd_T62 l (i : Int)).f0 ∧ rd S.d (i : Int) * (rd_T62 l (i : Int)).f0 ≤ t + 60 ∧ 0 ≤ cm l F S.d i ∧ cm l F S.d i ≤ t + 60 := by
  obtain ⟨p1, p2, _⟩ := hO.ch i hi
  obtain ⟨f1, f2⟩ := hO.fr i hi
  obtain ⟨d1, d2, d3⟩ := hI.dn i hi
  have h0 : 0 ≤ rd S.d (i : Int) * (rd_T62 l (i : Int)).f0 := Int.mul_nonneg d1 (by omega)
  unfold cm at d3 ⊢
  rcases d3 with d3 | d3
  · rw [d3, Int.zero_mul]
    omega
  · omega
theorem Inv_fin {l : List S62} {F : List Int} {t : Int} {S : RS} (hO : Okr l F) (hI : Inv l F t S) (ht : 0 ≤ t) (j : Nat) (hj : j < l.length) (hc : cm l F S.d j ≤ t) : Inv l F (t + 1) (fin l F t S j) := by
  have hl := put_length S.o t (j : Int)
  have hlo := hI.lo
  have hd := hI.ld
  have hs := hI.ls
  unfold fin
  split
  · rename_i hn
    refine ⟨hI.ld, by rw [List.length_set]; exact hI.ls, hI.lw, by simp only; omega, fun i hi => ?_, fun i hi => ?_⟩
    · obtain ⟨d1, d2, d3⟩ := hI.dn i hi
      dsimp only
      exact ⟨d1, by omega, by omega⟩
    · obtain ⟨s1, s2, s3⟩ := hI.sp i hi
      simp only
      rw [rd_set _ _ _ _ (by omega)]
      by_cases e : j = i
      · subst e
        simp only [if_true]
        exact ⟨by omega, by omega, by first | omega | simp⟩
      · simp only [if_neg e]
        exact ⟨by omega, by omega, by first | omega | simp⟩
  · rename_i hn
    refine ⟨by rw [List.length_set]; exact hI.ld, by rw [List.length_set]; exact hI.ls, by rw [List.length_set]; exact hI.lw, by simp only; omega, fun i hi => ?_, fun i hi => ?_⟩
    · obtain ⟨d1, d2, d3⟩ := hI.dn i hi
      simp only
      rw [cm_set _ _ _ _ _ (by omega), rd_set _ _ _ _ (by omega)]
      by_cases e : j = i
      · subst e
        simp only [if_true]
        exact ⟨by omega, by omega, by first | omega | simp⟩
      · simp only [if_neg e]
        exact ⟨by omega, by omega, by first | omega | simp⟩
    · obtain ⟨s1, s2, s3⟩ := hI.sp i hi
      have hp := hO.ch i hi
      simp only
      rw [cm_set _ _ _ _ _ (by omega), rd_set _ _ _ _ (by omega)]
      by_cases e : j = i
      · subst e
        simp only [if_true]
        exact ⟨by omega, by omega, by first | omega | simp⟩
      · simp only [if_neg e]
        exact ⟨by omega, by omega, by first | omega | simp⟩
theorem Inv_stp {u : Bool} {l : List S62} {F : List Int} {t : Int} {S : RS} (hO : Okr l F) (hI : Inv l F t S) (ht : 0 ≤ t) : Inv l F (t + 1) (stp u l F t S) := by
  unfold stp
  rcases pk_at u l F S.d t l.length with ⟨h1, h2⟩ | ⟨j, hj, he, hc, hf⟩
  · rw [if_pos (by omega)]
    have hlo := hI.lo
    exact ⟨hI.ld, hI.ls, hI.lw, by omega, fun i hi => by have := hI.dn i hi; omega, fun i hi => by have := hI.sp i hi; omega⟩
  · rw [he, if_neg (by simp only; omega)]
    simp only [toNat_i]
    exact Inv_fin hO hI ht j hj hc
theorem Inv_run {u : Bool} {l : List S62} {F : List Int} (hO : Okr l F) : ∀ t : Nat, Inv l F (t : Int) (run u l F t) := by
  intro t
  induction t with
  | zero =>
    refine ⟨by simp [run], by simp [run], by simp [run], by simp [run], fun i hi => ?_, fun i hi => ?_⟩
    · simp only [run]
      rw [rd_rep _ _ hi]
      exact ⟨by omega, by omega, .inl rfl⟩
    · have hp := hO.ch i hi
      simp only [run]
      rw [rd_rep _ _ hi]
      exact ⟨by omega, by omega, .inl rfl⟩
  | succ t ih =>
    have := Inv_stp (u := u) hO ih (by omega)
    rw [show ((t + 1 : Nat) : Int) = (t : Int) + 1 by omega]
    exact this
/-! ### The reference's run -/
theorem cm_wrap {l : List S62} {F : List Int} {t : Int} {S : RS} (hO : Okr l F) (hI : Inv l F t S) (ht : 0 ≤ t) (hT : t ≤ 2000) (i : Nat) (hi : i < l.length) : wrap64 (rd F (i : Int) + wrap64 (rd S.d (i : Int) * (rd_T62 l (i : Int)).f0)) = cm l F S.d i := by
  obtain ⟨c1, c2, c3, c4⟩ := cm_range hO hI ht i hi
  rw [wrap_in (n := rd S.d (i : Int) * (rd_T62 l (i : Int)).f0) (by omega) (by omega)]
  unfold cm at *
  exact wrap_in (by omega) (by omega)
theorem spec_pick {u : Bool} {l : List S62} {F : List Int} {t T : Int} {S : RS} (hO : Okr l F) (hI : Inv l F t S) (ht : 0 ≤ t) (hT : t ≤ 2000) (res : List S59 × List Int × Bool)
    (h : Ev (fun k => spec_l25Run.l2 k l F T u S.d S.s S.w S.o t (pk u l F S.d t l.length).1 (pk u l F S.d t l.length).2 l (l.length : Int) (l.length : Int)) res) :
    Ev (fun k => spec_l25Run.l2 k l F T u S.d S.s S.w S.o t (-1) 0 l (l.length : Int) 0) res := by
  have := run_loop2 (fun k i (s : Int × Int) => spec_l25Run.l2 k l F T u S.d S.s S.w S.o t s.1 s.2 l (l.length : Int) i) l.length (fun m => pk u l F S.d t m) res h
    (fun m hm r he => by
      have hn := hO.n6
      have hcm := cm_wrap hO hI ht hT m hm
      obtain ⟨_, _, c3, c4⟩ := cm_range hO hI ht m hm
      have hch := hO.ch m hm
      have e1 : (m : Int) < (l.length : Int) := by omega
      have e2 : (0 : Int) ≤ (m : Int) := by omega
      have e3 : (m : Int) < (F.length : Int) := by rw [hO.lf]; omega
      have e4 : (m : Int) < (S.d.length : Int) := by rw [hI.ld]; omega
      have e5 : wrap64 ((m : Int) + 1) = ((m + 1 : Nat) : Int) := wrap_succ m (by omega)
      have e6 : wrap64 (cm l F S.d m + (rd_T62 l (m : Int)).f2) = cm l F S.d m + (rd_T62 l (m : Int)).f2 := wrap_in (by omega) (by omega)
      refine Ev.back 2 0 (fun k _ => ?_) he
      by_cases c : cm l F S.d m > t
      · have hp : pk u l F S.d t (m + 1) = pk u l F S.d t m := by simp only [pk]; rw [if_pos c]
        simp only [spec_l25Run.l2, spec_l25Run.j4, e1, e2, e3, e4, if_true, hcm, c, e5, hp]
      · by_cases c1 : 0 ≤ (pk u l F S.d t m).1
        · have c1' : (pk u l F S.d t m).1 ≥ 0 := c1
          cases u with
          | false =>
            have hp : pk false l F S.d t (m + 1) = pk false l F S.d t m := by simp only [pk]; rw [if_neg c, if_pos ⟨c1, .inl trivial⟩]
            simp only [spec_l25Run.l2, spec_l25Run.j4, e1, e2, e3, e4, if_true, hcm, c, if_false, c1', Bool.false_eq_true, e5, hp]
          | true =>
            by_cases c2 : (pk true l F S.d t m).2 ≤ cm l F S.d m + (rd_T62 l (m : Int)).f2
            · have hp : pk true l F S.d t (m + 1) = pk true l F S.d t m := by simp only [pk]; rw [if_neg c, if_pos ⟨c1, .inr c2⟩]
              have c2' : (cm l F S.d m + (rd_T62 l (m : Int)).f2 ≥ (pk true l F S.d t m).2) := c2
              simp only [spec_l25Run.l2, spec_l25Run.j4, e1, e2, e3, e4, if_true, hcm, c, if_false, c1', e6, c2', decide_true, e5, hp]
            · have hp : pk true l F S.d t (m + 1) = ((m : Int), cm l F S.d m + (rd_T62 l (m : Int)).f2) := by
                simp only [pk]
                rw [if_neg c, if_neg (fun hh => c2 (hh.2.resolve_left (by simp)))]
              have c2' : ¬ (cm l F S.d m + (rd_T62 l (m : Int)).f2 ≥ (pk true l F S.d t m).2) := c2
              simp only [spec_l25Run.l2, spec_l25Run.j4, e1, e2, e3, e4, if_true, hcm, c, if_false, c1', e6, c2', decide_false, Bool.false_eq_true, e5, hp]
        · have c1' : ¬ (pk u l F S.d t m).1 ≥ 0 := c1
          have hp : pk u l F S.d t (m + 1) = ((m : Int), cm l F S.d m + (rd_T62 l (m : Int)).f2) := by
            simp only [pk]
            rw [if_neg c, if_neg (fun hh => c1 hh.1)]
          simp only [spec_l25Run.l2, spec_l25Run.j4, e1, e2, e3, e4, if_true, hcm, c, if_false, c1', e6, Bool.false_eq_true, e5, hp]) 0 (Nat.zero_le _)
  exact this
theorem spec_put {u : Bool} {l : List S62} {F d s w : List Int} {o : List S59} {t T z : Int} (ht : 0 ≤ t) (hT : t ≤ 2000) (ho : (o.length : Int) ≤ t) (j : Nat) (res : List S59 × List Int × Bool)
    (h : Ev (fun k => spec_l25Run.j6 k l F T u d s w (put o t (j : Int)) t (j : Int)) res) :
    Ev (fun k => spec_l25Run.l2 k l F T u d s w o t (j : Int) z l (l.length : Int) (l.length : Int)) res := by
  have e1 : ¬ ((l.length : Int) < (l.length : Int)) := by omega
  have e2 : ¬ ((j : Int) < 0) := by omega
  have e3 : wrap64 (t + 1) = t + 1 := wrap_in (by omega) (by omega)
  have e4 : o.length < 5864062014805 := by omega
  refine Ev.back 2 0 (fun k _ => ?_) h
  by_cases c : 0 < o.length
  · have c' : (o.length : Int) > 0 := by omega
    have e5 : wrap64 ((o.length : Int) - 1) = ((o.length - 1 : Nat) : Int) := wrap_pred _ (by omega) c
    have e6 : (0 : Int) ≤ ((o.length - 1 : Nat) : Int) := by omega
    have e7 : ((o.length - 1 : Nat) : Int) < (o.length : Int) := by omega
    by_cases c1 : (rd_T59 o ((o.length - 1 : Nat) : Int)).f2 = (j : Int)
    · by_cases c2 : (rd_T59 o ((o.length - 1 : Nat) : Int)).f1 = t
      · have hp : put o t (j : Int) = o.set (o.length - 1) ⟨(rd_T59 o ((o.length - 1 : Nat) : Int)).f0, t + 1, (j : Int)⟩ := by unfold put; rw [if_pos ⟨c, c1, c2⟩]
        simp only [spec_l25Run.l2, spec_l25Run.j5, e1, e2, if_false, c', if_true, e5, e6, e7, c1, c2, beq_self_eq_true, toNat_i, e3, hp]
      · have hp : put o t (j : Int) = o ++ [⟨t, t + 1, (j : Int)⟩] := by unfold put; rw [if_neg (fun hh => c2 hh.2.2)]
        have c2' : ((rd_T59 o ((o.length - 1 : Nat) : Int)).f1 == t) = false := beq_eq_false_iff_ne.mpr c2
        simp only [spec_l25Run.l2, spec_l25Run.j5, e1, e2, if_false, c', if_true, e5, e6, e7, c1, c2', Bool.false_eq_true, e3, e4, hp]
    · have hp : put o t (j : Int) = o ++ [⟨t, t + 1, (j : Int)⟩] := by unfold put; rw [if_neg (fun hh => c1 hh.2.1)]
      simp only [spec_l25Run.l2, spec_l25Run.j5, e1, e2, if_false, c', if_true, e5, e6, e7, c1, Bool.false_eq_true, e3, e4, hp]
  · have hp : put o t (j : Int) = o ++ [⟨t, t + 1, (j : Int)⟩] := by unfold put; rw [if_neg (fun hh => c hh.1)]
    have c' : ¬ (o.length : Int) > 0 := by omega
    simp only [spec_l25Run.l2, spec_l25Run.j5, e1, e2, if_false, c', Bool.false_eq_true, e3, e4, if_true, hp]
theorem mx_self (w : List Int) (j : Nat) (v : Int) (hj : j < w.length) (h : ¬ v > rd w (j : Int)) : w.set j (mx (rd w (j : Int)) v) = w := by
  have e : mx (rd w (j : Int)) v = w[j] := by
    unfold mx
    rw [if_neg (by omega)]
    exact rd_get w j hj
  rw [e]
  exact List.set_getElem_self hj
theorem spec_tick {u : Bool} {l : List S62} {F : List Int} {t T : Int} {S : RS} (hO : Okr l F) (hI : Inv l F t S) (ht : 0 ≤ t) (htT : t < T) (hT : T ≤ 2000) (res : List S59 × List Int × Bool)
    (h : Ev (fun k => spec_l25Run.l1 k l F T u (stp u l F t S).d (stp u l F t S).s (stp u l F t S).w (stp u l F t S).o (t + 1)) res) :
    Ev (fun k => spec_l25Run.l1 k l F T u S.d S.s S.w S.o t) res := by
  have e0 : wrap64 (t + 1) = t + 1 := wrap_in (by omega) (by omega)
  have hp := spec_pick (u := u) (T := T) hO hI ht (by omega) res
  refine Ev.back 1 0 (fun k _ => by simp only [spec_l25Run.l1, htT, if_true]) (hp ?_)
  clear hp
  have e1 : ¬ ((l.length : Int) < (l.length : Int)) := by omega
  unfold stp at h
  rcases pk_at u l F S.d t l.length with ⟨h1, h2⟩ | ⟨j, hj, he, hc, hf⟩
  · rw [if_pos (by omega)] at h
    refine Ev.back 1 0 (fun k _ => ?_) h
    have e2 : (-1 : Int) < 0 := by omega
    simp only [spec_l25Run.l2, e1, if_false, h1, e2, if_true, e0]
  · rw [he, if_neg (by simp only; omega)] at h
    rw [he]
    simp only [toNat_i] at h
    have hlo := hI.lo
    refine spec_put ht (by omega) hlo j res ?_
    have hl := hI.ld
    have hl2 := hI.ls
    have hl3 := hI.lw
    have hlf := hO.lf
    have hch := hO.ch j hj
    have hcm := cm_wrap hO hI ht (by omega) j hj
    obtain ⟨_, _, c3, c4⟩ := cm_range hO hI ht j hj
    obtain ⟨d1, d2, d3⟩ := hI.dn j hj
    obtain ⟨s1, s2, s3⟩ := hI.sp j hj
    have b1 : (0 : Int) ≤ (j : Int) := by omega
    have b2 : (j : Int) < (S.s.length : Int) := by omega
    have b3 : (j : Int) < (l.length : Int) := by omega
    have b4 : (j : Int) < (F.length : Int) := by omega
    have b5 : (j : Int) < (S.d.length : Int) := by omega
    have b6 : (j : Int) < (S.w.length : Int) := by omega
    have b7 : wrap64 (rd S.s (j : Int) + 1) = rd S.s (j : Int) + 1 := wrap_in (by omega) (by omega)
    have b8 : rd (S.s.set j (rd S.s (j : Int) + 1)) (j : Int) = rd S.s (j : Int) + 1 := by rw [rd_set _ _ _ _ (by omega), if_pos rfl]
    have b9 : wrap64 (t + 1 - cm l F S.d j) = t + 1 - cm l F S.d j := wrap_in (by omega) (by omega)
    have b10 : wrap64 (rd S.d (j : Int) + 1) = rd S.d (j : Int) + 1 := wrap_in (by omega) (by omega)
    refine Ev.back 1 0 (fun k _ => ?_) h
    unfold fin
    by_cases c : rd S.s (j : Int) + 1 < (rd_T62 l (j : Int)).f1
    · simp only [spec_l25Run.j6, b1, b2, b3, if_true, toNat_i, b7, Option.bind_some, b8, c, e0]
    · by_cases c2 : t + 1 - cm l F S.d j > rd S.w (j : Int)
      · have hm : mx (rd S.w (j : Int)) (t + 1 - cm l F S.d j) = t + 1 - cm l F S.d j := by unfold mx; rw [if_pos (by omega)]
        simp only [spec_l25Run.j6, b1, b2, b3, b4, b5, b6, if_true, toNat_i, b7, Option.bind_some, b8, c, if_false, e0, hcm, b9, b10, c2, List.set_set, hm]
      · have hm := mx_self S.w j (t + 1 - cm l F S.d j) (by omega) c2
        simp only [spec_l25Run.j6, b1, b2, b3, b4, b5, b6, if_true, toNat_i, b7, Option.bind_some, b8, c, if_false, e0, hcm, b9, b10, c2, List.set_set, hm]
theorem spec_run {u : Bool} {l : List S62} {F : List Int} (hO : Okr l F) (T : Nat) (hT : T ≤ 2000) : ∀ (e t : Nat), t + e = T → Ev (fun k => spec_l25Run.l1 k l F (T : Int) u (run u l F t).d (run u l F t).s (run u l F t).w (run u l F t).o (t : Int)) ((run u l F T).o, (run u l F T).w, true) := by
  intro e
  induction e with
  | zero =>
    intro t ht
    obtain rfl : t = T := by omega
    refine Ev.at 1 0 (fun k _ => ?_)
    have e1 : ¬ ((t : Int) < (t : Int)) := by omega
    simp only [spec_l25Run.l1, e1, if_false]
  | succ e ih =>
    intro t ht
    have he := ih (t + 1) (by omega)
    refine spec_tick hO (Inv_run hO t) (by omega) (by omega) (by omega) _ ?_
    rw [show (t : Int) + 1 = ((t + 1 : Nat) : Int) by omega]
    exact he
def U : Bool := true
theorem soon_eq (l : List S62) (m j : Nat) (h : j < m) (x y : S55) : soonB l (m : Int) x (j : Int) y = (U && decide (wrap64 (x.f0 + (rd_T62 l (m : Int)).f2) < wrap64 (y.f0 + (rd_T62 l (j : Int)).f2))) := by
  unfold soonB U
  rw [Bool.true_and]
  have e : decide ((m : Int) < (j : Int)) = false := decide_eq_false (by omega)
  by_cases c : wrap64 (x.f0 + (rd_T62 l (m : Int)).f2) < wrap64 (y.f0 + (rd_T62 l (j : Int)).f2)
  · rw [if_pos c, decide_eq_true c]
  · rw [if_neg c, decide_eq_false c]
    by_cases c2 : wrap64 (x.f0 + (rd_T62 l (m : Int)).f2) = wrap64 (y.f0 + (rd_T62 l (j : Int)).f2)
    · rw [if_pos c2, e]
    · rw [if_neg c2]
theorem hU : U = true := rfl
/-! ### The queues -/
def Que (f P N t : Int) (q : List S55) (d s : Int) : Prop :=
  (∀ j : Nat, j < q.length → rd_T55 q (j : Int) = ⟨f + (d + (j : Int)) * P, if j = 0 then N - s else N⟩) ∧ t ≤ f + (d + (q.length : Int)) * P ∧ (0 < d + (q.length : Int) → f + (d + (q.length : Int)) * P - P < t) ∧ (q.length = 0 → s = 0)
theorem que_arrive {f P N t d s : Int} {q : List S55} (hP : 1 ≤ P) (hd : 0 ≤ d) (hf : 0 ≤ f) (ht : 0 ≤ t) (h : Que f P N t q d s) :
    (f ≤ t ∧ Int.tmod (t - f) P = 0 → Que f P N (t + 1) (q ++ [⟨t, N⟩]) d s) ∧ (¬ (f ≤ t ∧ Int.tmod (t - f) P = 0) → Que f P N (t + 1) q d s) := by
  obtain ⟨h1, h2, h3, h4⟩ := h
  have hX0 : 0 ≤ (d + (q.length : Int)) * P := Int.mul_nonneg (by omega) (by omega)
  constructor
  · rintro ⟨c1, c2⟩
    obtain ⟨m, hm⟩ := Int.dvd_of_tmod_eq_zero c2
    have hmM : m = d + (q.length : Int) := by
      rcases Int.lt_trichotomy m (d + (q.length : Int)) with c | c | c
      · exfalso
        have := Int.mul_le_mul_of_nonneg_left (show m + 1 ≤ d + (q.length : Int) by omega) (show 0 ≤ P by omega)
        rw [Int.mul_add, Int.mul_one, Int.mul_comm P (d + (q.length : Int))] at this
        by_cases c0 : 0 < d + (q.length : Int)
        · have := h3 c0
          omega
        · have e0 : d + (q.length : Int) = 0 := by omega
          rw [e0, Int.zero_mul] at this
          omega
      · exact c
      · exfalso
        have := Int.mul_le_mul_of_nonneg_left (show d + (q.length : Int) + 1 ≤ m by omega) (show 0 ≤ P by omega)
        rw [Int.mul_add, Int.mul_one, Int.mul_comm P (d + (q.length : Int))] at this
        omega
    rw [hmM, Int.mul_comm] at hm
    refine ⟨fun j hj => ?_, ?_, fun _ => ?_, fun h0 => by simp at h0⟩
    · rw [List.length_append, List.length_singleton] at hj
      by_cases c : j < q.length
      · rw [← h1 j c]
        unfold rd_T55
        simp only [toNat_i, List.getD_eq_getElem?_getD, List.getElem?_append_left c]
      · obtain rfl : j = q.length := by omega
        unfold rd_T55
        simp only [toNat_i, List.getD_eq_getElem?_getD, List.getElem?_append_right (Nat.le_refl _), Nat.sub_self, List.getElem?_cons_zero, Option.getD_some]
        by_cases c0 : q.length = 0
        · rw [if_pos c0, h4 c0]
          congr 1 <;> omega
        · rw [if_neg c0]
          congr 1
          omega
    · rw [List.length_append, List.length_singleton, show d + ((q.length + 1 : Nat) : Int) = (d + (q.length : Int)) + 1 by omega, Int.add_mul, Int.one_mul]
      omega
    · rw [List.length_append, List.length_singleton, show d + ((q.length + 1 : Nat) : Int) = (d + (q.length : Int)) + 1 by omega, Int.add_mul, Int.one_mul]
      omega
  · intro c
    refine ⟨h1, ?_, fun h0 => ?_, h4⟩
    · by_cases e : t = f + (d + (q.length : Int)) * P
      · exfalso
        refine c ⟨by omega, ?_⟩
        rw [show t - f = (d + (q.length : Int)) * P by omega]
        exact Int.mul_tmod_left _ _
      · omega
    · have := h3 h0
      omega
theorem que_head {f P N t d s : Int} {q : List S55} (hP : 1 ≤ P) (hd : 0 ≤ d) (h : Que f P N (t + 1) q d s) : (0 < q.length ↔ f + d * P ≤ t) ∧ (0 < q.length → rd_T55 q 0 = ⟨f + d * P, N - s⟩) := by
  obtain ⟨h1, h2, h3, h4⟩ := h
  have e : (d + (q.length : Int)) * P = d * P + (q.length : Int) * P := Int.add_mul _ _ _
  refine ⟨⟨fun c => ?_, fun c => ?_⟩, fun c => ?_⟩
  · have := Int.mul_le_mul_of_nonneg_right (show (1 : Int) ≤ (q.length : Int) by omega) (show 0 ≤ P by omega)
    rw [Int.one_mul] at this
    have := h3 (by omega)
    omega
  · rcases Nat.eq_zero_or_pos q.length with c0 | c0
    · exfalso
      rw [c0] at h2
      simp only [Int.natCast_zero, Int.add_zero] at h2
      omega
    · exact c0
  · have := h1 0 c
    simp only [Int.natCast_zero, Int.add_zero, if_true] at this
    exact this
theorem que_len {f P N t d s : Int} {q : List S55} (hP : 1 ≤ P) (hd : 0 ≤ d) (hf : 0 ≤ f) (ht : 0 ≤ t) (h : Que f P N t q d s) : (q.length : Int) ≤ t := by
  obtain ⟨h1, h2, h3, h4⟩ := h
  by_cases c0 : 0 < d + (q.length : Int)
  · have h5 := h3 c0
    have := Int.mul_le_mul_of_nonneg_left hP (show 0 ≤ d + (q.length : Int) - 1 by omega)
    have e : (d + (q.length : Int) - 1) * P = (d + (q.length : Int)) * P - P := by rw [Int.sub_mul, Int.one_mul]
    rw [Int.mul_one, e] at this
    omega
  · omega
theorem que_done {f P N t d s : Int} {q : List S55} (h : Que f P N t q d s) (h0 : 0 < q.length) : Que f P N t (q.drop 1) (d + 1) 0 := by
  obtain ⟨h1, h2, h3, h4⟩ := h
  have e : d + 1 + ((q.length - 1 : Nat) : Int) = d + (q.length : Int) := by omega
  refine ⟨fun j hj => ?_, ?_, fun c => ?_, fun _ => rfl⟩
  · rw [List.length_drop] at hj
    have := h1 (j + 1) (by omega)
    have e2 : rd_T55 (q.drop 1) (j : Int) = rd_T55 q ((j + 1 : Nat) : Int) := by
      unfold rd_T55
      simp only [toNat_i, List.getD_eq_getElem?_getD, List.getElem?_drop]
      rw [Nat.add_comm]
    rw [e2, this, if_neg (by omega), show d + ((j + 1 : Nat) : Int) = d + 1 + (j : Int) by omega]
    split <;> simp
  · rw [List.length_drop, e]
    exact h2
  · rw [List.length_drop, e] at c ⊢
    exact h3 c
theorem que_less {f P N t d s : Int} {q : List S55} (h : Que f P N t q d s) (h0 : 0 < q.length) : Que f P N t (q.set 0 ⟨f + d * P, N - s - 1⟩) d (s + 1) := by
  obtain ⟨h1, h2, h3, h4⟩ := h
  refine ⟨fun j hj => ?_, by rw [List.length_set]; exact h2, by rw [List.length_set]; exact h3, fun c => by rw [List.length_set] at c; omega⟩
  rw [List.length_set] at hj
  rcases Nat.eq_zero_or_pos j with c | c
  · subst c
    unfold rd_T55
    simp [List.getElem?_set, h0]
    omega
  · rw [if_neg (by omega)]
    have := h1 j hj
    rw [if_neg (by omega)] at this
    rw [← this]
    unfold rd_T55
    simp only [toNat_i, List.getD_eq_getElem?_getD]
    rw [List.getElem?_set_ne (by omega)]
/-- The queues, where the first m chores' arrivals at t are counted. -/
def JI (l : List S62) (F : List Int) (t : Int) (m : Nat) (Js : List (List S55)) (d s : List Int) : Prop :=
  Js.length = l.length ∧ ∀ i : Nat, i < l.length → Que (rd F (i : Int)) (rd_T62 l (i : Int)).f0 (rd_T62 l (i : Int)).f1 (if i < m then t + 1 else t) (rd_L3 Js (i : Int)) (rd d (i : Int)) (rd s (i : Int))
theorem JI_all {l : List S62} {F : List Int} {t : Int} {Js : List (List S55)} {d s : List Int} (h : JI l F t l.length Js d s) : JI l F (t + 1) 0 Js d s :=
  ⟨h.1, fun i hi => by have := h.2 i hi; rw [if_pos hi] at this; rw [if_neg (by omega)]; exact this⟩
theorem impl_pick {l : List S62} {F : List Int} {t T : Int} {S : RS} (hO : Okr l F) (hI : Inv l F t S) (ht : 0 ≤ t) (hT : t ≤ 2000) (res : List S59 × List Int × Bool)
    (h : ∀ Js, JI l F t l.length Js S.d S.s → Ev (fun k => impl_play.l2 k l F Js S.w S.o t (pk U l F S.d t l.length).1 T t l (l.length : Int) (l.length : Int)) res) :
    ∀ (e m : Nat), m + e = l.length → ∀ Js, JI l F t m Js S.d S.s → Ev (fun k => impl_play.l2 k l F Js S.w S.o t (pk U l F S.d t m).1 T t l (l.length : Int) (m : Int)) res := by
  intro e
  induction e with
  | zero =>
    intro m hm Js hJ
    obtain rfl : m = l.length := by omega
    exact h Js hJ
  | succ e ih =>
    intro m hm Js hJ
    have hn := hO.n6
    obtain ⟨_, _, c3, c4⟩ := cm_range hO hI ht m (by omega)
    have hch := hO.ch m (by omega)
    have hfr := hO.fr m (by omega)
    obtain ⟨d1, d2, d3⟩ := hI.dn m (by omega)
    obtain ⟨hJl, hJq⟩ := hJ
    have hqm := hJq m (by omega)
    rw [if_neg (by omega)] at hqm
    have hql := que_len (by omega) d1 hfr.1 ht hqm
    obtain ⟨ha1, ha2⟩ := que_arrive (by omega) d1 hfr.1 ht hqm
    have e1 : (m : Int) < (l.length : Int) := by omega
    have e2 : (0 : Int) ≤ (m : Int) := by omega
    have e3 : (m : Int) < (F.length : Int) := by rw [hO.lf]; omega
    have e4 : (m : Int) < (Js.length : Int) := by omega
    have hm9 : m < 9223372036854775807 := by omega
    have e6 : (rd_L3 Js (m : Int)).length < 8796093022208 := by omega
    have e7 : ¬ (rd_T62 l (m : Int)).f0 = 0 := by omega
    -- behind the arrival
    have hB : ∀ Js1, JI l F t (m + 1) Js1 S.d S.s → Ev (fun k => impl_play.j5 k l F Js1 S.w S.o t (pk U l F S.d t m).1 (m : Int) T t l (l.length : Int) (m : Int)) res := by
      intro Js1 hJ1
      have he := ih (m + 1) (by omega) Js1 hJ1
      obtain ⟨hJ1l, hJ1q⟩ := hJ1
      have hq1 := hJ1q m (by omega)
      rw [if_pos (by omega)] at hq1
      obtain ⟨hh1, hh2⟩ := que_head (by omega) d1 hq1
      have b1 : (m : Int) < (Js1.length : Int) := by omega
      refine Ev.back 2 0 (fun k _ => ?_) he
      by_cases c : 0 < (rd_L3 Js1 (m : Int)).length
      · have hcm : cm l F S.d m ≤ t := hh1.mp c
        have hcm' : ¬ cm l F S.d m > t := by omega
        have hhd := hh2 c
        have c' : ((rd_L3 Js1 (m : Int)).length : Int) > 0 := by omega
        have c'' : 0 < ((rd_L3 Js1 (m : Int)).length : Int) := by omega
        rcases pk_at U l F S.d t m with ⟨h1, h2⟩ | ⟨j, hj, hpj, hcj, hfj⟩
        · have hp : pk U l F S.d t (m + 1) = ((m : Int), cm l F S.d m + (rd_T62 l (m : Int)).f2) := by
            simp only [pk]
            rw [if_neg hcm', if_neg (by omega)]
          have h1' : (-1 : Int) < 0 := by omega
          simp only [impl_play.j5, impl_play.j6, e2, b1, if_true, c', h1, h1', wrap_succ m hm9, hp]
        · have hqj := hJ1q j (by omega)
          rw [if_pos (by omega)] at hqj
          have hchj := hO.ch j (by omega)
          obtain ⟨hj1, hj2⟩ := que_head (by omega) (hI.dn j (by omega)).1 hqj
          have cj : 0 < (rd_L3 Js1 (j : Int)).length := hj1.mpr hcj
          have hhj := hj2 cj
          have b2 : ¬ ((j : Int) < 0) := by omega
          have b3 : (0 : Int) ≤ (j : Int) := by omega
          have b4 : (j : Int) < (Js1.length : Int) := by omega
          have b5 : 0 < ((rd_L3 Js1 (j : Int)).length : Int) := by omega
          have b6 : (j : Int) < (l.length : Int) := by omega
          have hs := soon_eq l m j hj (rd_T55 (rd_L3 Js1 (m : Int)) 0) (rd_T55 (rd_L3 Js1 (j : Int)) 0)
          obtain ⟨_, _, c5, c6⟩ := cm_range hO hI ht j (by omega)
          have w1 : wrap64 (rd F (m : Int) + rd S.d (m : Int) * (rd_T62 l (m : Int)).f0 + (rd_T62 l (m : Int)).f2) = cm l F S.d m + (rd_T62 l (m : Int)).f2 := by unfold cm at *; exact wrap_in (by omega) (by omega)
          have w2 : wrap64 (rd F (j : Int) + rd S.d (j : Int) * (rd_T62 l (j : Int)).f0 + (rd_T62 l (j : Int)).f2) = cm l F S.d j + (rd_T62 l (j : Int)).f2 := by unfold cm at *; exact wrap_in (by omega) (by omega)
          by_cases cs : soonB l (m : Int) (rd_T55 (rd_L3 Js1 (m : Int)) 0) (j : Int) (rd_T55 (rd_L3 Js1 (j : Int)) 0) = true
          · have cs' := cs
            rw [hs, hhd, hhj, Bool.and_eq_true, decide_eq_true_eq] at cs'
            simp only at cs'
            rw [w1, w2] at cs'
            clear w1 w2
            have hp : pk U l F S.d t (m + 1) = ((m : Int), cm l F S.d m + (rd_T62 l (m : Int)).f2) := by
              simp only [pk]
              rw [if_neg hcm', if_neg ?_]
              rintro ⟨_, hx | hx⟩
              · rw [hx] at cs'
                exact absurd cs'.1 (by simp)
              · rw [hpj] at hx
                simp only at hx
                omega
            simp only [impl_play.j5, impl_play.j6, e2, b1, if_true, c', c'', hpj, b2, if_false, b3, b4, b5, b6, cs, wrap_succ m hm9, hp]
          · rw [Bool.not_eq_true] at cs
            have cs' := cs
            rw [hs, hhd, hhj] at cs'
            simp only at cs'
            rw [w1, w2] at cs'
            clear w1 w2
            have hp : pk U l F S.d t (m + 1) = pk U l F S.d t m := by
              simp only [pk]
              rw [if_neg hcm', if_pos ?_]
              refine ⟨by rw [hpj]; exact b3, ?_⟩
              rw [hpj]
              simp only
              cases hU : U with
              | false => exact .inl rfl
              | true =>
                rw [hU, Bool.true_and, decide_eq_false_iff_not] at cs'
                exact .inr (by omega)
            rw [hp]
            simp only [impl_play.j5, impl_play.j6, e2, b1, if_true, c', c'', hpj, b2, if_false, b3, b4, b5, b6, cs, Bool.false_eq_true, wrap_succ m hm9]
      · have hcm : ¬ cm l F S.d m ≤ t := fun hh => c (hh1.mpr hh)
        have hp : pk U l F S.d t (m + 1) = pk U l F S.d t m := by
          simp only [pk]
          rw [if_pos (by omega)]
        have c' : ¬ ((rd_L3 Js1 (m : Int)).length : Int) > 0 := by omega
        simp only [impl_play.j5, impl_play.j6, e2, b1, if_true, c', if_false, Bool.false_eq_true, wrap_succ m hm9, hp]
    by_cases ca : rd F (m : Int) ≤ t ∧ Int.tmod (t - rd F (m : Int)) (rd_T62 l (m : Int)).f0 = 0
    · refine Ev.back 2 0 (fun k _ => ?_) (hB (Js.set m (rd_L3 Js (m : Int) ++ [⟨t, (rd_T62 l (m : Int)).f1⟩])) ⟨by rw [List.length_set]; exact hJl, fun i hi => ?_⟩)
      · have ca1 : t ≥ rd F (m : Int) := ca.1
        have ca2 : (Int.tmod (t - rd F (m : Int)) (rd_T62 l (m : Int)).f0 == 0) = true := beq_iff_eq.mpr ca.2
        have w0 : wrap64 (t - rd F (m : Int)) = t - rd F (m : Int) := wrap_in (by omega) (by omega)
        simp only [impl_play.l2, impl_play.j4, e1, e2, e3, e4, e6, if_true, ca1, e7, if_false, w0, ca2, toNat_i]
      · rw [rdL_set _ _ _ _ (by omega)]
        by_cases ei : m = i
        · subst ei
          rw [if_pos (by omega), if_pos rfl]
          exact ha1 ca
        · have := hJq i hi
          rw [if_neg ei]
          by_cases c : i < m
          · rw [if_pos c] at this
            rw [if_pos (by omega)]
            exact this
          · rw [if_neg c] at this
            rw [if_neg (by omega)]
            exact this
    · refine Ev.back 2 0 (fun k _ => ?_) (hB Js ⟨hJl, fun i hi => ?_⟩)
      · by_cases ca1 : rd F (m : Int) ≤ t
        · have ca1' : t ≥ rd F (m : Int) := ca1
          have w0 : wrap64 (t - rd F (m : Int)) = t - rd F (m : Int) := wrap_in (by omega) (by omega)
          have ca2 : (Int.tmod (t - rd F (m : Int)) (rd_T62 l (m : Int)).f0 == 0) = false := beq_eq_false_iff_ne.mpr (fun hh => ca ⟨ca1, hh⟩)
          simp only [impl_play.l2, impl_play.j4, e1, e2, e3, if_true, ca1', e7, if_false, w0, ca2, Bool.false_eq_true]
        · have ca1' : ¬ t ≥ rd F (m : Int) := ca1
          simp only [impl_play.l2, impl_play.j4, e1, e2, e3, if_true, ca1', if_false, Bool.false_eq_true]
      · by_cases ei : m = i
        · subst ei
          rw [if_pos (by omega)]
          exact ha2 ca
        · have := hJq i hi
          by_cases c : i < m
          · rw [if_pos c] at this
            rw [if_pos (by omega)]
            exact this
          · rw [if_neg c] at this
            rw [if_neg (by omega)]
            exact this
theorem impl_put {l : List S62} {F w : List Int} {Js : List (List S55)} {o : List S59} {t T : Int} (ht : 0 ≤ t) (hT : t ≤ 2000) (ho : (o.length : Int) ≤ t) (j : Nat) (res : List S59 × List Int × Bool)
    (h : Ev (fun k => impl_play.j8 k l F Js w (put o t (j : Int)) t (j : Int) T t) res) :
    Ev (fun k => impl_play.l2 k l F Js w o t (j : Int) T t l (l.length : Int) (l.length : Int)) res := by
  have e1 : ¬ ((l.length : Int) < (l.length : Int)) := by omega
  have e2 : ¬ ((j : Int) < 0) := by omega
  have e3 : wrap64 (t + 1) = t + 1 := wrap_in (by omega) (by omega)
  have e4 : o.length < 5864062014805 := by omega
  refine Ev.back 2 0 (fun k _ => ?_) h
  by_cases c : 0 < o.length
  · have c' : (o.length : Int) > 0 := by omega
    have e5 : wrap64 ((o.length : Int) - 1) = ((o.length - 1 : Nat) : Int) := wrap_pred _ (by omega) c
    have e6 : (0 : Int) ≤ ((o.length - 1 : Nat) : Int) := by omega
    have e7 : ((o.length - 1 : Nat) : Int) < (o.length : Int) := by omega
    by_cases c1 : (rd_T59 o ((o.length - 1 : Nat) : Int)).f2 = (j : Int)
    · by_cases c2 : (rd_T59 o ((o.length - 1 : Nat) : Int)).f1 = t
      · have hp : put o t (j : Int) = o.set (o.length - 1) ⟨(rd_T59 o ((o.length - 1 : Nat) : Int)).f0, t + 1, (j : Int)⟩ := by unfold put; rw [if_pos ⟨c, c1, c2⟩]
        simp only [impl_play.l2, impl_play.j7, e1, e2, if_false, c', if_true, e5, e6, e7, c1, c2, beq_self_eq_true, toNat_i, e3, hp]
      · have hp : put o t (j : Int) = o ++ [⟨t, t + 1, (j : Int)⟩] := by unfold put; rw [if_neg (fun hh => c2 hh.2.2)]
        have c2' : ((rd_T59 o ((o.length - 1 : Nat) : Int)).f1 == t) = false := beq_eq_false_iff_ne.mpr c2
        simp only [impl_play.l2, impl_play.j7, e1, e2, if_false, c', if_true, e5, e6, e7, c1, c2', Bool.false_eq_true, e3, e4, hp]
    · have hp : put o t (j : Int) = o ++ [⟨t, t + 1, (j : Int)⟩] := by unfold put; rw [if_neg (fun hh => c1 hh.2.1)]
      simp only [impl_play.l2, impl_play.j7, e1, e2, if_false, c', if_true, e5, e6, e7, c1, Bool.false_eq_true, e3, e4, hp]
  · have hp : put o t (j : Int) = o ++ [⟨t, t + 1, (j : Int)⟩] := by unfold put; rw [if_neg (fun hh => c hh.1)]
    have c' : ¬ (o.length : Int) > 0 := by omega
    simp only [impl_play.l2, impl_play.j7, e1, e2, if_false, c', Bool.false_eq_true, e3, e4, if_true, hp]
theorem impl_tick {l : List S62} {F : List Int} {t T : Int} {S : RS} {Js : List (List S55)} (hO : Okr l F) (hI : Inv l F t S) (ht : 0 ≤ t) (htT : t < T) (hT : T ≤ 2000) (hJ : JI l F t 0 Js S.d S.s) (res : List S59 × List Int × Bool)
    (h : ∀ Js', JI l F (t + 1) 0 Js' (stp U l F t S).d (stp U l F t S).s → Ev (fun k => impl_play.l1 k l F Js' (stp U l F t S).w (stp U l F t S).o T (t + 1)) res) :
    Ev (fun k => impl_play.l1 k l F Js S.w S.o T t) res := by
  have e0 : wrap64 (t + 1) = t + 1 := wrap_in (by omega) (by omega)
  refine Ev.back 1 0 (fun k _ => by simp only [impl_play.l1, htT, if_true]; rfl) (impl_pick (T := T) hO hI ht (by omega) res (fun Js1 hJ1 => ?_) l.length 0 (by omega) Js hJ)
  have e1 : ¬ ((l.length : Int) < (l.length : Int)) := by omega
  unfold stp at h
  rcases pk_at U l F S.d t l.length with ⟨h1, h2⟩ | ⟨j, hj, he, hc, hf⟩
  · rw [if_pos (by omega)] at h
    refine Ev.back 1 0 (fun k _ => ?_) (h Js1 (JI_all hJ1))
    have e2 : (-1 : Int) < 0 := by omega
    simp only [impl_play.l2, e1, if_false, h1, e2, if_true, e0]
  · rw [he, if_neg (by simp only; omega)] at h
    rw [he]
    simp only [toNat_i] at h
    have hlo := hI.lo
    refine impl_put ht (by omega) hlo j res ?_
    have hl := hI.ld
    have hl2 := hI.ls
    have hl3 := hI.lw
    have hch := hO.ch j hj
    obtain ⟨hJl, hJq⟩ := hJ1
    have hq := hJq j hj
    rw [if_pos hj] at hq
    obtain ⟨hh1, hh2⟩ := que_head (by omega) (hI.dn j hj).1 hq
    have cq : 0 < (rd_L3 Js1 (j : Int)).length := hh1.mpr hc
    have hhd := hh2 cq
    obtain ⟨_, _, c3, c4⟩ := cm_range hO hI ht j hj
    obtain ⟨d1, d2, d3⟩ := hI.dn j hj
    obtain ⟨s1, s2, s3⟩ := hI.sp j hj
    have b1 : (0 : Int) ≤ (j : Int) := by omega
    have b2 : (j : Int) < (Js1.length : Int) := by omega
    have b3 : 0 < ((rd_L3 Js1 (j : Int)).length : Int) := by omega
    have b4 : (j : Int) < (S.w.length : Int) := by omega
    have b5 : wrap64 ((rd_T62 l (j : Int)).f1 - rd S.s (j : Int) - 1) = (rd_T62 l (j : Int)).f1 - rd S.s (j : Int) - 1 := wrap_in (by omega) (by omega)
    have b6 : wrap64 (t + 1 - (rd F (j : Int) + rd S.d (j : Int) * (rd_T62 l (j : Int)).f0)) = t + 1 - cm l F S.d j := by unfold cm at *; exact wrap_in (by omega) (by omega)
    unfold fin at h
    by_cases c : rd S.s (j : Int) + 1 < (rd_T62 l (j : Int)).f1
    · rw [if_pos c] at h
      have c' : ¬ ((rd_T62 l (j : Int)).f1 - rd S.s (j : Int) - 1 = 0) := by omega
      refine Ev.back 1 0 (fun k _ => ?_) (h (Js1.set j ((rd_L3 Js1 (j : Int)).set 0 ⟨rd F (j : Int) + rd S.d (j : Int) * (rd_T62 l (j : Int)).f0, (rd_T62 l (j : Int)).f1 - rd S.s (j : Int) - 1⟩)) (JI_all ⟨by rw [List.length_set]; exact hJl, fun i hi => ?_⟩))
      · simp only [impl_play.j8, b1, b2, b3, if_true, hhd, b5, c', if_false, toNat_i, e0]
      · have := hJq i hi
        simp only
        rw [rdL_set _ _ _ _ (by omega), rd_set _ _ _ _ (by omega)]
        by_cases ei : j = i
        · subst ei
          simp only [if_true]
          rw [if_pos hi] at this ⊢
          exact que_less this cq
        · rw [if_neg ei, if_neg ei]
          exact this
    · rw [if_neg c] at h
      have c' : (rd_T62 l (j : Int)).f1 - rd S.s (j : Int) - 1 = 0 := by omega
      refine Ev.back 1 0 (fun k _ => ?_) (h (Js1.set j ((rd_L3 Js1 (j : Int)).drop 1)) (JI_all ⟨by rw [List.length_set]; exact hJl, fun i hi => ?_⟩))
      · have b7 : wrap64 0 = 0 := wrap_in (by omega) (by omega)
        simp only [impl_play.j8, b1, b2, b3, b4, if_true, hhd, b5, c', b7, toNat_i, e0, b6]
      · have := hJq i hi
        simp only
        rw [rdL_set _ _ _ _ (by omega), rd_set _ _ _ _ (by omega), rd_set _ _ _ _ (by omega)]
        by_cases ei : j = i
        · subst ei
          simp only [if_true]
          rw [if_pos hi] at this ⊢
          exact que_done this cq
        · rw [if_neg ei, if_neg ei, if_neg ei]
          exact this
theorem impl_run {l : List S62} {F : List Int} (hO : Okr l F) (T : Nat) (hT : T ≤ 2000) : ∀ (e t : Nat), t + e = T → ∀ Js, JI l F (t : Int) 0 Js (run U l F t).d (run U l F t).s → Ev (fun k => impl_play.l1 k l F Js (run U l F t).w (run U l F t).o (T : Int) (t : Int)) ((run U l F T).o, (run U l F T).w, true) := by
  intro e
  induction e with
  | zero =>
    intro t ht Js hJ
    obtain rfl : t = T := by omega
    refine Ev.at 1 0 (fun k _ => ?_)
    have e1 : ¬ ((t : Int) < (t : Int)) := by omega
    simp only [impl_play.l1, e1, if_false]
  | succ e ih =>
    intro t ht Js hJ
    refine impl_tick hO (Inv_run hO t) (by omega) (by omega) (by omega) hJ _ (fun Js' hJ' => ?_)
    have he := ih (t + 1) (by omega) Js' (by rw [show ((t + 1 : Nat) : Int) = (t : Int) + 1 by omega]; exact hJ')
    rw [show (t : Int) + 1 = ((t + 1 : Nat) : Int) by omega]
    exact he
theorem JI_start {l : List S62} {F : List Int} (hO : Okr l F) : JI l F 0 0 (List.replicate l.length []) (run U l F 0).d (run U l F 0).s := by
  refine ⟨List.length_replicate, fun i hi => ?_⟩
  have hf := hO.fr i hi
  rw [rdL_rep _ _ hi]
  simp only [run]
  rw [rd_rep _ _ hi, if_neg (by omega)]
  refine ⟨fun j hj => absurd hj (by simp), ?_, fun h => ?_, fun _ => rfl⟩
  · simp
    exact hf.1
  · simp at h
/-- As 'all_loop2'; the end is asked for only where all hold. -/
theorem all_if {ρ : Type} (F : Nat → Int → Option ρ) (n : Nat) (p : Nat → Bool) (yes no : ρ) (hend : (∀ i : Nat, i < n → p i = true) → Ev (fun k => F k (n : Int)) yes)
    (hyes : ∀ i : Nat, i < n → p i = true → ∀ r, Ev (fun k => F k ((i + 1 : Nat) : Int)) r → Ev (fun k => F k (i : Int)) r) (hno : ∀ i : Nat, i < n → p i = false → Ev (fun k => F k (i : Int)) no) :
    Ev (fun k => F k 0) (if (List.range n).all p = true then yes else no) := by
  have key : ∀ (d i : Nat), i + d = n → (∀ j : Nat, j < i → p j = true) → Ev (fun k => F k (i : Int)) (if (List.range n).all p = true then yes else no) := by
    intro d
    induction d with
    | zero =>
      intro i hi hp
      obtain rfl : i = n := by omega
      rw [if_pos (range_all.mpr hp)]
      exact hend hp
    | succ d ih =>
      intro i hi hp
      cases c : p i with
      | true =>
        refine hyes i (by omega) c _ (ih (i + 1) (by omega) (fun j hj => ?_))
        by_cases e : j = i
        · rw [e]
          exact c
        · exact hp j (by omega)
      | false =>
        rw [if_neg (fun hh => by have := range_all.mp hh i (by omega); rw [c] at this; exact absurd this (by simp))]
        exact hno i (by omega) c
  exact key n 0 (by omega) (fun j hj => absurd hj (Nat.not_lt_zero _))
def okF (F : List Int) (i : Nat) : Bool := decide (0 ≤ rd F (i : Int) ∧ rd F (i : Int) ≤ 60)
def answer (L : List S62) (F : List Int) (n : Int) : List S59 × List Int × Bool := if (List.range F.length).all (okF F) = true then ((run U L F n.toNat).o, (run U L F n.toNat).w, true) else ([], [], false)
theorem okr_of {L : List S62} {F : List Int} (hg : goodChores L = true) (hl : F.length = L.length) (hf : ∀ i : Nat, i < F.length → okF F i = true) : Okr L F := by
  unfold goodChores at hg
  rw [Bool.and_eq_true, range_all, decide_eq_true_eq] at hg
  refine ⟨hg.1.2, hl, fun i hi => ?_, fun i hi => ?_⟩
  · have := hg.2 i hi
    simpa only [okChore, decide_eq_true_eq] using this
  · have := hf i (by omega)
    simpa only [okF, decide_eq_true_eq] using this
theorem spec_answer (L : List S62) (F : List Int) (n : Int) (hg : goodChores L = true) (hl : F.length = L.length) (h0 : 0 ≤ n) (h1 : n ≤ 2000) : Ev (fun k => spec_l25Run.l0 k L F n U F (F.length : Int) 0) (answer L F n) := by
  have hn6 : L.length ≤ 6 := by
    unfold goodChores at hg
    rw [Bool.and_eq_true, decide_eq_true_eq] at hg
    exact hg.1.2
  refine all_if (fun k i => spec_l25Run.l0 k L F n U F (F.length : Int) i) F.length (okF F) _ _ (fun hall => ?_) (fun i hi hp r hr => ?_) (fun i hi hp => ?_)
  · have hO := okr_of hg hl hall
    have hr := spec_run (u := U) hO n.toNat (by omega) n.toNat 0 (by omega)
    rw [show ((n.toNat : Nat) : Int) = n by omega] at hr
    have e1 : ¬ ((F.length : Int) < (F.length : Int)) := by omega
    have e2 : (0 : Int) ≤ (L.length : Int) := by omega
    have e3 : L.length ≤ 35184372088832 := by omega
    refine Ev.back 1 0 (fun k _ => ?_) hr
    simp only [spec_l25Run.l0, e1, if_false, e2, if_true, toNat_i, e3]
    rfl
  · simp only [okF, decide_eq_true_eq] at hp
    have e1 : (i : Int) < (F.length : Int) := by omega
    have e2 : (0 : Int) ≤ (i : Int) := by omega
    have e3 : ¬ (rd F (i : Int) < 0) := by omega
    have e4 : ¬ (rd F (i : Int) > 60) := by omega
    refine Ev.back 1 0 (fun k _ => ?_) hr
    simp only [spec_l25Run.l0, e1, e2, e3, e4, if_true, if_false, wrap_succ i (by omega)]
  · simp only [okF, decide_eq_false_iff_not] at hp
    have e1 : (i : Int) < (F.length : Int) := by omega
    have e2 : (0 : Int) ≤ (i : Int) := by omega
    refine Ev.at 1 0 (fun k _ => ?_)
    by_cases e3 : rd F (i : Int) < 0
    · simp only [spec_l25Run.l0, e1, e2, e3, if_true]
    · have e4 : rd F (i : Int) > 60 := by omega
      simp only [spec_l25Run.l0, e1, e2, e3, e4, if_true, if_false]
theorem impl_answer (L : List S62) (F : List Int) (n : Int) (hg : goodChores L = true) (hl : F.length = L.length) (h0 : 0 ≤ n) (h1 : n ≤ 2000) : Ev (fun k => impl_play.l0 k L F n F (F.length : Int) 0) (answer L F n) := by
  have hn6 : L.length ≤ 6 := by
    unfold goodChores at hg
    rw [Bool.and_eq_true, decide_eq_true_eq] at hg
    exact hg.1.2
  refine all_if (fun k i => impl_play.l0 k L F n F (F.length : Int) i) F.length (okF F) _ _ (fun hall => ?_) (fun i hi hp r hr => ?_) (fun i hi hp => ?_)
  · have hO := okr_of hg hl hall
    have hr := impl_run hO n.toNat (by omega) n.toNat 0 (by omega) (List.replicate L.length []) (JI_start hO)
    rw [show ((n.toNat : Nat) : Int) = n by omega] at hr
    have e1 : ¬ ((F.length : Int) < (F.length : Int)) := by omega
    have e2 : (0 : Int) ≤ (L.length : Int) := by omega
    have e3 : L.length ≤ 35184372088832 := by omega
    have e4 : L.length ≤ 11728124029610 := by omega
    refine Ev.back 1 0 (fun k _ => ?_) hr
    simp only [impl_play.l0, e1, if_false, e2, if_true, toNat_i, e3, e4]
    rfl
  · have hp' := hp
    simp only [okF] at hp'
    have e1 : (i : Int) < (F.length : Int) := by omega
    have e2 : (0 : Int) ≤ (i : Int) := by omega
    refine Ev.back 1 0 (fun k _ => ?_) hr
    simp only [impl_play.l0, e1, e2, if_true, between_eq, Option.bind_some, hp', wrap_succ i (by omega)]
  · have hp' := hp
    simp only [okF] at hp'
    have e1 : (i : Int) < (F.length : Int) := by omega
    have e2 : (0 : Int) ≤ (i : Int) := by omega
    refine Ev.at 1 0 (fun k _ => ?_)
    simp only [impl_play.l0, e1, e2, if_true, between_eq, Option.bind_some, hp', Bool.false_eq_true, if_false]
theorem answer_length (L : List S62) (F : List Int) (n : Int) (hg : goodChores L = true) (hl : F.length = L.length) (h0 : 0 ≤ n) (h1 : n ≤ 2000) : (answer L F n).1.length ≤ 2000 ∧ (answer L F n).2.1.length ≤ 6 := by
  unfold answer
  split
  · rename_i h
    have hO := okr_of hg hl (range_all.mp h)
    have hI := Inv_run (u := U) hO n.toNat
    have h2 := hI.lo
    have h3 := hI.lw
    have h4 := hO.n6
    simp only
    omega
  · simp
theorem play_both (L : List S62) (F : List Int) (n : Int) (hL : L.length ≤ 1048576) (hF : F.length ≤ 1048576) : ∃ (G : List S59) (H : List Int) (b : Bool), G.length ≤ 2000 ∧ H.length ≤ 6 ∧
    Ev (fun k => spec_RunUrgent.f k L F n) (G, H, b) ∧ Ev (fun k => impl_RunUrgent.f k L F n) (G, H, b) ∧ (b = true → goodChores L = true ∧ F.length = L.length ∧ 0 ≤ n ∧ n ≤ 2000 ∧ (∀ i : Nat, i < F.length → okF F i = true) ∧ G = (run U L F n.toNat).o ∧ H = (run U L F n.toNat).w) := by
  obtain ⟨K2, h2⟩ := spec_chores L (by omega)
  obtain ⟨K3, h3⟩ := impl_chores L (by omega)
  by_cases hg : goodChores L = true
  · by_cases hl : F.length = L.length
    · have hl' : (F.length : Int) = (L.length : Int) := by omega
      by_cases hn : 0 ≤ n ∧ n ≤ 2000
      · obtain ⟨K4, h4⟩ := spec_answer L F n hg hl hn.1 hn.2
        obtain ⟨K5, h5⟩ := impl_answer L F n hg hl hn.1 hn.2
        have hal := answer_length L F n hg hl hn.1 hn.2
        refine ⟨(answer L F n).1, (answer L F n).2.1, (answer L F n).2.2, hal.1, hal.2, ⟨K2 + K4 + 1, fun k hk => ?_⟩, ⟨K3 + K5 + 1, fun k hk => ?_⟩, fun hb => ?_⟩
        · obtain ⟨m, rfl⟩ : ∃ m, k = m + 1 := ⟨k - 1, by omega⟩
          have h2' := h2 (m + 1) (by omega)
          have h4' := h4 m (by omega)
          simp only [hg] at h2'
          simp only [hU] at h4'
          have e1 : ¬ n < 0 := by omega
          have e2 : ¬ n > 2000 := by omega
          simp only [spec_RunUrgent.f, spec_l25Run.f, spec_l25Run.j0, h2', Option.bind_some, if_true, hl', e1, if_false, e2, decide_false, Bool.false_eq_true]
          rw [← hl', h4']
          rfl
        · obtain ⟨m, rfl⟩ : ∃ m, k = m + 1 := ⟨k - 1, by omega⟩
          have h3' := h3 (m + 1) (by omega)
          have h5' := h5 m (by omega)
          simp only [hg] at h3'
          simp only at h5'
          have e1 : decide (0 ≤ n ∧ n ≤ 2000) = true := decide_eq_true hn
          simp only [impl_RunUrgent.f, impl_play.f, impl_play.j0, h3', Option.bind_some, if_true, hl', between_eq, e1, Bool.not_true, Bool.false_eq_true, if_false]
          rw [← hl', h5']
          rfl
        · unfold answer at hb ⊢
          by_cases ha : (List.range F.length).all (okF F) = true
          · rw [if_pos ha]
            exact ⟨hg, hl, hn.1, hn.2, range_all.mp ha, rfl, rfl⟩
          · rw [if_neg ha] at hb
            exact absurd hb (by simp)
      · refine ⟨[], [], false, by simp, by simp, ⟨K2 + 1, fun k hk => ?_⟩, ⟨K3 + 1, fun k hk => ?_⟩, fun hb => absurd hb (by simp)⟩
        · obtain ⟨m, rfl⟩ : ∃ m, k = m + 1 := ⟨k - 1, by omega⟩
          have h2' := h2 (m + 1) (by omega)
          simp only [hg] at h2'
          by_cases e1 : n < 0
          · simp only [spec_RunUrgent.f, spec_l25Run.f, spec_l25Run.j0, h2', Option.bind_some, if_true, hl', e1]
          · have e2 : n > 2000 := by omega
            simp only [spec_RunUrgent.f, spec_l25Run.f, spec_l25Run.j0, h2', Option.bind_some, if_true, hl', e1, if_false, e2, decide_true]
        · obtain ⟨m, rfl⟩ : ∃ m, k = m + 1 := ⟨k - 1, by omega⟩
          have h3' := h3 (m + 1) (by omega)
          simp only [hg] at h3'
          have e1 : decide (0 ≤ n ∧ n ≤ 2000) = false := decide_eq_false hn
          simp only [impl_RunUrgent.f, impl_play.f, impl_play.j0, h3', Option.bind_some, if_true, hl', between_eq, e1, Bool.not_false]
    · have hl' : ¬ (F.length : Int) = (L.length : Int) := by omega
      refine ⟨[], [], false, by simp, by simp, ⟨K2 + 1, fun k hk => ?_⟩, ⟨K3 + 1, fun k hk => ?_⟩, fun hb => absurd hb (by simp)⟩
      · obtain ⟨m, rfl⟩ : ∃ m, k = m + 1 := ⟨k - 1, by omega⟩
        have h2' := h2 (m + 1) (by omega)
        simp only [hg] at h2'
        simp only [spec_RunUrgent.f, spec_l25Run.f, spec_l25Run.j0, h2', Option.bind_some, if_true, hl', if_false]
      · obtain ⟨m, rfl⟩ : ∃ m, k = m + 1 := ⟨k - 1, by omega⟩
        have h3' := h3 (m + 1) (by omega)
        simp only [hg] at h3'
        simp only [impl_RunUrgent.f, impl_play.f, impl_play.j0, h3', Option.bind_some, if_true, hl', if_false]
  · rw [Bool.not_eq_true] at hg
    refine ⟨[], [], false, by simp, by simp, ⟨K2 + 1, fun k hk => ?_⟩, ⟨K3 + 1, fun k hk => ?_⟩, fun hb => absurd hb (by simp)⟩
    · obtain ⟨m, rfl⟩ : ∃ m, k = m + 1 := ⟨k - 1, by omega⟩
      have h2' := h2 (m + 1) (by omega)
      simp only [hg] at h2'
      simp only [spec_RunUrgent.f, spec_l25Run.f, spec_l25Run.j0, h2', Option.bind_some, Bool.false_eq_true, if_false, if_true]
    · obtain ⟨m, rfl⟩ : ∃ m, k = m + 1 := ⟨k - 1, by omega⟩
      have h3' := h3 (m + 1) (by omega)
      simp only [hg] at h3'
      simp only [impl_RunUrgent.f, impl_play.f, impl_play.j0, h3', Option.bind_some, Bool.false_eq_true, if_false, if_true]
theorem FnExactRunUrgent : ∀ (l0 : List (S65)) (l1 : List Int) (a2 : Int), ((∀ (zl0 : S65), zl0 ∈ l0 → ((Lit.int .i64 zl0.f0).wf = true ∧ (Lit.int .i64 zl0.f1).wf = true ∧ (Lit.int .i64 zl0.f2).wf = true)) ∧ l0.length * 24 ≤ 140737488351232) → ((∀ (zl1 : Int), zl1 ∈ l1 → (Lit.int .i64 zl1).wf = true) ∧ l1.length * 8 ≤ 140737488351232) → (Lit.int .i64 a2).wf = true → ∃ k, laws_FnExactRunUrgent.f k l0 l1 a2 = some true := by
  intro l F n ⟨_, hl⟩ ⟨_, hF⟩ _
  have hs := szChoreS_eq l (by omega) 1048576 (by omega) (by omega)
  by_cases hf : (F.length : Int) > 1048576
  · exact ⟨0, by simp [laws_FnExactRunUrgent.f, hf]⟩
  · by_cases hn : (l.length : Int) > 1048576
    · exact ⟨0, by simp [laws_FnExactRunUrgent.f, hf, hs, hn]⟩
    · have hn' : ¬ ((1048576 : Int) - l.length < 0) := by omega
      have hlm : (l.map cChoreS).length = l.length := List.length_map ..
      obtain ⟨K1, h1⟩ := toChoreS_ev l (by omega)
      generalize l.map cChoreS = L at *
      obtain ⟨K2, h2⟩ := toIntS_ev F (by omega)
      obtain ⟨G, H, b, hG, hH, ⟨K3, h3⟩, ⟨K4, h4⟩, _⟩ := play_both L F n (by omega) (by omega)
      obtain ⟨K5, h5⟩ := eqSliceS_ev G (by omega)
      obtain ⟨K6, h6⟩ := eqIntS_ev H (by omega)
      obtain ⟨K7, h7⟩ := eqChoreS_ev L (by omega)
      obtain ⟨K8, h8⟩ := eqIntS_ev F (by omega)
      obtain ⟨K9, h9⟩ := markChoreS_ev L (by omega)
      have hneg : (0 : Int) ≤ 1 + ((3 : Nat) : Int) * (L.length : Int) := by omega
      obtain ⟨K10, h10⟩ := markIntS_at F (by omega) (1 + ((3 : Nat) : Int) * (L.length : Int)) hneg (by omega)
      obtain ⟨K11, h11⟩ := markSliceS_ev G (by omega)
      have hneg1 : (0 : Int) ≤ 1 + ((3 : Nat) : Int) * (G.length : Int) := by omega
      have hm1 : 1 + ((3 : Nat) : Int) * (G.length : Int) ≤ 1000000000000000 := by omega
      obtain ⟨K12, h12⟩ := markIntS_at H (by omega) _ hneg1 hm1
      obtain ⟨K13, h13⟩ := heldSliceS_ev G.length (by omega)
      obtain ⟨K14, h14⟩ := heldIntS_at H.length (by omega) _ hneg1 hm1
      have g1 : ¬ (1 + ((3 : Nat) : Int) * (L.length : Int) + ((1 : Nat) : Int) * (F.length : Int) < 0) := by omega
      have g2 : ¬ (1 + ((3 : Nat) : Int) * (G.length : Int) < 0) := by omega
      have g3 : ¬ (1 + ((3 : Nat) : Int) * (G.length : Int) + ((1 : Nat) : Int) * (H.length : Int) < 0) := by omega
      generalize hX : 1 + ((3 : Nat) : Int) * (G.length : Int) = X at *
      generalize ((List.range G.length).map fun (j : Nat) => (fun m => (⟨m, m + 1, m + 2⟩ : S59)) (1 + ((3 : Nat) : Int) * (j : Int))) = M at *
      generalize ((List.range H.length).map fun (j : Nat) => id (X + ((1 : Nat) : Int) * (j : Int))) = M2 at *
      generalize ((List.range L.length).map fun (j : Nat) => (fun m => (⟨m, m + 1, m + 2⟩ : S62)) (1 + ((3 : Nat) : Int) * (j : Int))) = M3 at *
      generalize 1 + ((3 : Nat) : Int) * (L.length : Int) = Z at *
      generalize ((List.range F.length).map fun (j : Nat) => id (Z + ((1 : Nat) : Int) * (j : Int))) = M4 at *
      generalize X + ((1 : Nat) : Int) * (H.length : Int) = Y at *
      have e2 : ∀ k, K13 + K14 ≤ k → laws_FnExactRunUrgent.j2 (k + 1) M M2 Y false = some true := by
        intro k hk
        have h13' := h13 k (by omega)
        have h14' := h14 k (by omega)
        simp only at h13' h14'
        simp only [laws_FnExactRunUrgent.j2, Bool.false_eq_true, if_false, h13', h14', Option.bind_some, g2, g3, if_true]
      have e1 : ∀ k, K1 + K2 + K4 + K5 + K6 + K11 + K12 + K13 + K14 ≤ k → laws_FnExactRunUrgent.j1 (k + 2) l F n G H b G H false = some true := by
        intro k hk
        have h1' := h1 (k + 1) (by omega)
        have h2' := h2 (k + 1) (by omega)
        have h4' := h4 (k + 1) (by omega)
        have h5' := h5 (k + 1) (by omega)
        have h6' := h6 (k + 1) (by omega)
        have h11' := h11 (k + 1) (by omega)
        have h12' := h12 (k + 1) (by omega)
        have h13' := h13 (k + 1) (by omega)
        have h14' := h14 (k + 1) (by omega)
        have e2' := e2 k (by omega)
        simp only at h1' h2' h4' h5' h6' h11' h12' h13' h14'
        simp only [laws_FnExactRunUrgent.j1, Bool.false_eq_true, if_false, h11', h12', h13', h14', h1', h2', h4', h5', h6', Option.bind_some, g2, g3, if_true, bne_self_eq_false, e2']
      have e0 : ∀ k, K1 + K2 + K4 + K5 + K6 + K7 + K8 + K9 + K10 + K11 + K12 + K13 + K14 ≤ k → laws_FnExactRunUrgent.j0 (k + 3) l F n G H b L F G H b false = some true := by
        intro k hk
        have h1' := h1 (k + 2) (by omega)
        have h2' := h2 (k + 2) (by omega)
        have h5' := h5 (k + 2) (by omega)
        have h6' := h6 (k + 2) (by omega)
        have h7' := h7 (k + 2) (by omega)
        have h8' := h8 (k + 2) (by omega)
        have h9' := h9 (k + 2) (by omega)
        have h10' := h10 (k + 2) (by omega)
        have e1' := e1 k (by omega)
        simp only at h1' h2' h5' h6' h7' h8' h9' h10'
        simp only [laws_FnExactRunUrgent.j0, Bool.false_eq_true, if_false, h1', h2', h5', h6', h7', h8', h9', h10', Option.bind_some, g1, if_true, bne_self_eq_false, e1']
      refine ⟨K1 + K2 + K3 + K4 + K5 + K6 + K7 + K8 + K9 + K10 + K11 + K12 + K13 + K14 + 3, ?_⟩
      have h1' := h1 (K1 + K2 + K3 + K4 + K5 + K6 + K7 + K8 + K9 + K10 + K11 + K12 + K13 + K14 + 3) (by omega)
      have h2' := h2 (K1 + K2 + K3 + K4 + K5 + K6 + K7 + K8 + K9 + K10 + K11 + K12 + K13 + K14 + 3) (by omega)
      have h3' := h3 (K1 + K2 + K3 + K4 + K5 + K6 + K7 + K8 + K9 + K10 + K11 + K12 + K13 + K14 + 3) (by omega)
      have h4' := h4 (K1 + K2 + K3 + K4 + K5 + K6 + K7 + K8 + K9 + K10 + K11 + K12 + K13 + K14 + 3) (by omega)
      have h5' := h5 (K1 + K2 + K3 + K4 + K5 + K6 + K7 + K8 + K9 + K10 + K11 + K12 + K13 + K14 + 3) (by omega)
      have h6' := h6 (K1 + K2 + K3 + K4 + K5 + K6 + K7 + K8 + K9 + K10 + K11 + K12 + K13 + K14 + 3) (by omega)
      have e0' := e0 (K1 + K2 + K3 + K4 + K5 + K6 + K7 + K8 + K9 + K10 + K11 + K12 + K13 + K14) (by omega)
      simp only at h1' h2' h3' h4' h5' h6'
      simp only [laws_FnExactRunUrgent.f, hf, hs, hn, hn', Option.bind_some, if_false, h1', h2', h3', h4', h5', h6', if_true, bne_self_eq_false, e0']

end Go.Proofs.Ytdbcoojibbboiaa.Pure
