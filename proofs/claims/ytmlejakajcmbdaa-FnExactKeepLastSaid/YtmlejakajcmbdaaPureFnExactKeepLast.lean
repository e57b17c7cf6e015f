/- 'FnExactKeepLast': for every input the program's queue is the reference's, argument untouched, result its own. No condition. -/
import Derived.Test.YtmlejakajcmbdaaQFnExactKeepLastx2
import Derived.Test.YtmlejakajcmbdaaPlain
namespace Go.Proofs.Ytmlejakajcmbdaa.Pure
open Go.RowKit Go.Proofs.Ytmlejakajcmbdaa.PFnExactKeepLast Go.Proofs.Ytmlejakajcmbdaa.Plain Go.Proofs.YtmlejakajcmbdaaW.PrintWords Go.Proofs.YtmlejakajcmbdaaW.PrintLast
set_option linter.unusedVariables false
set_option linter.unusedSimpArgs false

theorem toIntS_ev (l : List Int) (h : l.length ≤ 1048576) : Ev (fun k => laws_toIntS.f k l) l := by
  have := to_loop (fun k acc i => laws_toIntS.l0 k l acc i) id l 0 (fun k acc => by simp [laws_toIntS.l0]) (fun i hi => ⟨0, fun k _ acc hacc => by
    have h1 : (i : Int) < (l.length : Int) := by omega
    have h2 : (0 : Int) ≤ (i : Int) := by omega
    have h3 : (i : Int) < (acc.length : Int) := by omega
    have h4 : rd l (i : Int) = l[i] := by simp [rd, hi]
    simp only [laws_toIntS.l0, h1, h2, h3, h4, if_true, wrap_succ i (by omega), toNat_i]
    rfl⟩)
  rw [List.map_id] at this
  exact Ev.congr (fun k => by
    have h5 : l.length ≤ 100000000 := by omega
    simp only [laws_toIntS.f, toNat_i]
    rw [if_pos (by omega), if_pos (by omega)]) this
theorem eqIntS_ev (l : List Int) (h : l.length < 9223372036854775807) : Ev (fun k => laws_eqIntS.f k l l) true := by
  have := eq_loop (fun k i => laws_eqIntS.l0 k l l i) l.length true (fun k => by simp [laws_eqIntS.l0]) (fun i hi => ⟨0, fun k _ => by
    have h1 : (i : Int) < (l.length : Int) := by omega
    have h2 : (0 : Int) ≤ (i : Int) := by omega
    simp only [laws_eqIntS.l0, h1, h2, if_true, Option.bind_some, wrap_succ i (by omega), bne_self_eq_false, Bool.false_eq_true, if_false]⟩)
  exact Ev.congr (fun k => by simp only [laws_eqIntS.f, if_true]) this
theorem markIntS_at (l : List Int) (h : l.length ≤ 1000000000) (m0 : Int) (h0 : 0 ≤ m0) (hm : m0 ≤ 1000000000000000) : Ev (fun k => laws_markIntS.f k l m0) (m0 + ((1 : Nat) : Int) * (l.length : Int), (List.range l.length).map fun (j : Nat) => id (m0 + ((1 : Nat) : Int) * (j : Int))) := by
  refine mark_loop (fun k ys m i => laws_markIntS.l0 k ys m i) id 1 m0 l (fun k ys m hy => by simp [laws_markIntS.l0, hy]) (fun i hi => ⟨0, fun k _ ys hy => ?_⟩)
  have h1 : (i : Int) < (ys.length : Int) := by omega
  have h2 : (0 : Int) ≤ (i : Int) := by omega
  have hw1 : wrap64 (m0 + 1 * (i : Int) + 1) = m0 + 1 * ((i + 1 : Nat) : Int) := (wrap_in (by omega) (by omega)).trans (by omega)
  simp only [Int.cast_ofNat_Int] at *
  simp only [laws_markIntS.l0, h1, h2, if_true, wrap_succ i (by omega), toNat_i, Option.bind_some, hw1]
  all_goals rfl
theorem markIntS_ev (l : List Int) (h : l.length ≤ 1000000000) : Ev (fun k => laws_markIntS.f k l 1) (1 + ((1 : Nat) : Int) * (l.length : Int), (List.range l.length).map fun (j : Nat) => id (1 + ((1 : Nat) : Int) * (j : Int))) := markIntS_at l h 1 (by omega) (by omega)
theorem heldIntS_at (n : Nat) (h : n ≤ 1000000000) (m0 : Int) (h0 : 0 ≤ m0) (hm : m0 ≤ 1000000000000000) : Ev (fun k => laws_heldIntS.f k ((List.range n).map fun (j : Nat) => id (m0 + ((1 : Nat) : Int) * (j : Int))) m0) (m0 + ((1 : Nat) : Int) * (n : Int)) := by
  refine held_loop (fun k m i => laws_heldIntS.l0 k ((List.range n).map fun (j : Nat) => id (m0 + ((1 : Nat) : Int) * (j : Int))) m i) 1 m0 n _ (fun k => by simp [laws_heldIntS.l0]) (fun i hi => ⟨0, fun k _ => ?_⟩)
  have h1 : (i : Int) < ((((List.range n).map fun (j : Nat) => id (m0 + ((1 : Nat) : Int) * (j : Int))).length : Nat) : Int) := by simp; omega
  have h2 : (0 : Int) ≤ (i : Int) := by omega
  have h3 : rd ((List.range n).map fun (j : Nat) => id (m0 + ((1 : Nat) : Int) * (j : Int))) (i : Int) = id (m0 + ((1 : Nat) : Int) * (i : Int)) := by simp [rd, hi]
  have hw1 : wrap64 (m0 + 1 * (i : Int) + 1) = m0 + 1 * ((i + 1 : Nat) : Int) := (wrap_in (by omega) (by omega)).trans (by omega)
  generalize ((List.range n).map fun (j : Nat) => id (m0 + ((1 : Nat) : Int) * (j : Int))) = L at *
  simp only [Int.cast_ofNat_Int] at *
  simp only [laws_heldIntS.l0, h1, h2, h3, if_true, wrap_succ i (by omega), bne_self_eq_false, Bool.false_eq_true, if_false, id, hw1]

theorem heldIntS_ev (n : Nat) (h : n ≤ 1000000000) : Ev (fun k => laws_heldIntS.f k ((List.range n).map fun (j : Nat) => id (1 + ((1 : Nat) : Int) * (j : Int))) 1) (1 + ((1 : Nat) : Int) * (n : Int)) := heldIntS_at n h 1 (by omega) (by omega)
theorem between_eq (a lo hi : Int) : impl_between.f a lo hi = some (decide (lo ≤ a ∧ a ≤ hi)) := by
  unfold impl_between.f
  split <;> simp <;> omega
def keepRes (q : List Int) (depth w : Int) : List Int × Bool :=
  if 1 ≤ depth ∧ depth ≤ 10 ∧ (q.length : Int) ≤ depth then (if (q.length : Int) + 1 > depth then (q ++ [w]).drop 1 else q ++ [w], true) else ([], false)
theorem impl_keep (q : List Int) (depth w : Int) (hq : q.length ≤ 1048576) : Ev (fun k => impl_KeepLast.f k q depth w) (keepRes q depth w) := by
  refine Ev.at 1 0 (fun k _ => ?_)
  have l1 : q.length < 17592186044416 := by omega
  have l2 : ([] : List Int).length + q.length < 17592186044416 := by simp; omega
  have l3 : (1 : Int) ≤ ((q ++ [w]).length : Int) := by simp; omega
  by_cases h : 1 ≤ depth ∧ depth ≤ 10 ∧ (q.length : Int) ≤ depth
  · have e1 : decide ((1 : Int) ≤ depth ∧ depth ≤ 10) = true := by rw [decide_eq_true_eq]; omega
    have e2 : decide ((q.length : Int) > depth) = false := by rw [decide_eq_false_iff_not]; omega
    simp only [impl_KeepLast.f, between_eq, Option.bind_some, e1, e2, if_true, impl_KeepLast.j0, Bool.false_eq_true, if_false, slices_Clone_int_int.f, l2, List.nil_append, l1, l3, keepRes, h, and_self]
    by_cases hd : (q.length : Int) + 1 > depth
    · have c1 : ((q ++ [w]).length : Int) > depth := by simp; omega
      simp only [c1, hd, if_true, decide_true]
      rfl
    · have c1 : ¬ ((q ++ [w]).length : Int) > depth := by simp; omega
      simp only [c1, hd, if_false, decide_true, if_true]
  · simp only [keepRes, h, if_false]
    simp only [impl_KeepLast.f, between_eq, Option.bind_some]
    cases e1 : decide ((1 : Int) ≤ depth ∧ depth ≤ 10) with
    | false => simp [impl_KeepLast.j0]
    | true =>
      rw [decide_eq_true_eq] at e1
      have e2 : decide ((q.length : Int) > depth) = true := by rw [decide_eq_true_eq]; omega
      simp only [e2, if_true, impl_KeepLast.j0]
theorem spec_keep (q : List Int) (depth w : Int) (hq : q.length ≤ 1048576) : Ev (fun k => spec_KeepLast.f k q depth w) (keepRes q depth w) := by
  refine Ev.at 1 0 (fun k _ => ?_)
  have l1 : q.length < 17592186044416 := by omega
  have l2 : ([] : List Int).length + q.length < 17592186044416 := by simp; omega
  have l3 : (1 : Int) ≤ ((q ++ [w]).length : Int) := by simp; omega
  have l4 : ([] : List Int).length + ((q ++ [w]).drop 1).length < 17592186044416 := by simp; omega
  by_cases h : 1 ≤ depth ∧ depth ≤ 10 ∧ (q.length : Int) ≤ depth
  · have e2 : decide ((q.length : Int) > depth) = false := by rw [decide_eq_false_iff_not]; omega
    have n1 : ¬ depth < 1 := by omega
    have n2 : ¬ depth > 10 := by omega
    simp only [spec_KeepLast.f, n1, n2, if_false, e2, spec_KeepLast.j0, Bool.false_eq_true, Option.bind_some, l2, if_true, List.nil_append, l1, l3, l4, keepRes, h, and_self]
    by_cases hd : (q.length : Int) + 1 > depth
    · have c1 : ((q ++ [w]).length : Int) > depth := by simp; omega
      simp only [c1, hd, if_true]
    · have c1 : ¬ ((q ++ [w]).length : Int) > depth := by simp; omega
      simp only [c1, hd, if_false, decide_true, if_true]
  · simp only [keepRes, h, if_false]
    simp only [spec_KeepLast.f]
    split
    · simp [spec_KeepLast.j0]
    · split
      · simp [spec_KeepLast.j0]
      · have e2 : decide ((q.length : Int) > depth) = true := by rw [decide_eq_true_eq]; omega
        simp only [e2, spec_KeepLast.j0, if_true]
theorem keepRes_len (q : List Int) (d w : Int) (h : q.length ≤ 1048576) : (keepRes q d w).1.length ≤ 1048577 := by
  unfold keepRes
  repeat' split
  all_goals simp
  all_goals omega
theorem FnExactKeepLast : laws_FnExactKeepLast.Pure := by
  intro l d w
  intros
  by_cases hw : (l.length : Int) > 1048576
  · exact ⟨0, by simp only [laws_FnExactKeepLast.f, hw, if_true]⟩
  obtain ⟨K0, h0⟩ := toIntS_ev l (by omega)
  obtain ⟨K1, h1⟩ := eqIntS_ev l (by omega)
  obtain ⟨K2, h2⟩ := spec_keep l d w (by omega)
  obtain ⟨K3, h3⟩ := impl_keep l d w (by omega)
  have hG := keepRes_len l d w (by omega)
  generalize keepRes l d w = R at *
  obtain ⟨G, b⟩ := R
  simp only at hG
  obtain ⟨K4, h4⟩ := eqIntS_ev G (by omega)
  obtain ⟨K5, h5⟩ := markIntS_ev l (by omega)
  obtain ⟨K6, h6⟩ := markIntS_ev G (by omega)
  obtain ⟨K7, h7⟩ := heldIntS_ev G.length (by omega)
  have hneg : ¬ ((1 : Int) + ((1 : Nat) : Int) * (l.length : Int) < 0) := by omega
  have hneg2 : ¬ ((1 : Int) + ((1 : Nat) : Int) * (G.length : Int) < 0) := by omega
  generalize ((List.range G.length).map fun (j : Nat) => id (1 + ((1 : Nat) : Int) * (j : Int))) = M at *
  have e2 : ∀ k, K7 ≤ k → laws_FnExactKeepLast.j2 (k + 1) M (1 + ((1 : Nat) : Int) * (G.length : Int)) false = some true := by
    intro k hk
    have h7' := h7 k hk
    simp only at h7'
    simp only [laws_FnExactKeepLast.j2, Bool.false_eq_true, if_false, h7', Option.bind_some, hneg2, if_true]
  have e1 : ∀ k, K0 + K3 + K4 + K6 + K7 ≤ k → laws_FnExactKeepLast.j1 (k + 2) l d w G b G false = some true := by
    intro k hk
    have h0' := h0 (k + 1) (by omega)
    have h3' := h3 (k + 1) (by omega)
    have h4' := h4 (k + 1) (by omega)
    have h6' := h6 (k + 1) (by omega)
    have h7' := h7 (k + 1) (by omega)
    have e2' := e2 k (by omega)
    simp only at h0' h3' h4' h6' h7'
    simp only [laws_FnExactKeepLast.j1, Bool.false_eq_true, if_false, h0', h3', h4', h6', h7', Option.bind_some, hneg2, if_true, bne_self_eq_false, e2']
  have e0 : ∀ k, K0 + K1 + K3 + K4 + K5 + K6 + K7 ≤ k → laws_FnExactKeepLast.j0 (k + 3) l d w G b l G b false = some true := by
    intro k hk
    have h0' := h0 (k + 2) (by omega)
    have h1' := h1 (k + 2) (by omega)
    have h4' := h4 (k + 2) (by omega)
    have h5' := h5 (k + 2) (by omega)
    have e1' := e1 k (by omega)
    simp only at h0' h1' h4' h5'
    simp only [laws_FnExactKeepLast.j0, Bool.false_eq_true, if_false, h0', h1', h4', h5', Option.bind_some, hneg, if_true, bne_self_eq_false, e1']
  refine ⟨K0 + K1 + K2 + K3 + K4 + K5 + K6 + K7 + 3, ?_⟩
  have h0' := h0 (K0 + K1 + K2 + K3 + K4 + K5 + K6 + K7 + 3) (by omega)
  have h2' := h2 (K0 + K1 + K2 + K3 + K4 + K5 + K6 + K7 + 3) (by omega)
  have h3' := h3 (K0 + K1 + K2 + K3 + K4 + K5 + K6 + K7 + 3) (by omega)
  have h4' := h4 (K0 + K1 + K2 + K3 + K4 + K5 + K6 + K7 + 3) (by omega)
  have e0' := e0 (K0 + K1 + K2 + K3 + K4 + K5 + K6 + K7) (by omega)
  simp only at h0' h2' h3' h4'
  simp only [laws_FnExactKeepLast.f, hw, if_false, h0', h2', h3', h4', Option.bind_some, if_true, bne_self_eq_false, Bool.false_eq_true, e0']

end Go.Proofs.Ytmlejakajcmbdaa.Pure
