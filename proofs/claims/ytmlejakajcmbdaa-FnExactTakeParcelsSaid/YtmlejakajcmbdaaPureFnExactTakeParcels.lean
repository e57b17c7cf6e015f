/- 'FnExactTakeParcels': what the program's function and the reference's answer, told over numbers and lists alone, meets the law at every input within the kinds' own bounds; no other condition. -/
import Derived.Test.YtmlejakajcmbdaaQFnExactTakeParcelsx3
import Derived.Test.YtmlejakajcmbdaaPlain
namespace Go.Proofs.Ytmlejakajcmbdaa.Pure
open Go.RowKit Go.Proofs.Ytmlejakajcmbdaa.PFnExactTakeParcels Go.Proofs.Ytmlejakajcmbdaa.Plain Go.Proofs.YtmlejakajcmbdaaW.PrintWords Go.Proofs.YtmlejakajcmbdaaW.PrintLast
set_option linter.unusedVariables false
set_option linter.unusedSimpArgs false

theorem szParcelS_eq (l : List (S86)) (h : l.length ≤ 140737488351232) (n : Int) (h0 : 0 ≤ n) (h1 : n ≤ 1048576) : laws_szParcelS.f l n = some (if (l.length : Int) > n then -1 else n - l.length) := by
  unfold laws_szParcelS.f
  rw [wrap_in (by omega) (by omega)]
  split <;> split <;> first | rfl | (exfalso; omega)
theorem toIntS_ev (l : List Int) (h : l.length ≤ 1048576) : Ev (fun k => laws_toIntS.f k l) l := by
  have := to_loop (fun k acc i => laws_toIntS.l0 k l acc i) id l 0 (fun k acc => by simp [laws_toIntS.l0]) (fun i hi => ⟨0, fun k _ acc hacc => by
    have h1 : (i : Int) < (l.length : Int) := by omega
    have h2 : (0 : Int) ≤ (i : Int) := by omega
    have h3 : (i : Int) < (acc.length : Int) := by omega
    have h4 : rd l (i : Int) = l[i] := by simp [rd, hi]
    simp only [laws_toIntS.l0, h1, h2, h3, h4, if_true, wrap_succ i (by omega), toNat_i]
    rfl⟩)
  rw [List.map_id] at this
  exact Ev.congr (fun k => by
    have h5 : l.length ≤ 100000000 := by omega
    simp only [laws_toIntS.f, toNat_i]
    rw [if_pos (by omega), if_pos (by omega)]) this
def cParcelS (x : S86) : S54 := ⟨x.f0, x.f1⟩
theorem toParcelS_ev (l : List S86) (h : l.length ≤ 1048576) : Ev (fun k => laws_toParcelS.f k l) (l.map cParcelS) := by
  have := to_loop (fun k acc i => laws_toParcelS.l0 k l acc i) cParcelS l z54 (fun k acc => by simp [laws_toParcelS.l0]) (fun i hi => ⟨0, fun k _ acc hacc => by
    have h1 : (i : Int) < (l.length : Int) := by omega
    have h2 : (0 : Int) ≤ (i : Int) := by omega
    have h3 : (i : Int) < (acc.length : Int) := by omega
    have h4 : rd_T86 l (i : Int) = l[i] := by simp [rd_T86, hi]
    simp only [laws_toParcelS.l0, laws_toParcel.f, h1, h2, h3, h4, if_true, Option.bind_some, wrap_succ i (by omega), toNat_i]
    rfl⟩)
  exact Ev.congr (fun k => by
    have h5 : l.length ≤ 100000000 := by omega
    simp only [laws_toParcelS.f, toNat_i]
    rw [if_pos (by omega), if_pos (by omega)]) this
theorem eqIntS_ev (l : List Int) (h : l.length < 9223372036854775807) : Ev (fun k => laws_eqIntS.f k l l) true := by
  have := eq_loop (fun k i => laws_eqIntS.l0 k l l i) l.length true (fun k => by simp [laws_eqIntS.l0]) (fun i hi => ⟨0, fun k _ => by
    have h1 : (i : Int) < (l.length : Int) := by omega
    have h2 : (0 : Int) ≤ (i : Int) := by omega
    simp only [laws_eqIntS.l0, h1, h2, if_true, Option.bind_some, wrap_succ i (by omega), bne_self_eq_false, Bool.false_eq_true, if_false]⟩)
  exact Ev.congr (fun k => by simp only [laws_eqIntS.f, if_true]) this
theorem eqParcelS_ev (l : List (S54)) (h : l.length < 9223372036854775807) : Ev (fun k => laws_eqParcelS.f k l l) true := by
  have := eq_loop (fun k i => laws_eqParcelS.l0 k l l i) l.length true (fun k => by simp [laws_eqParcelS.l0]) (fun i hi => ⟨0, fun k _ => by
    have h1 : (i : Int) < (l.length : Int) := by omega
    have h2 : (0 : Int) ≤ (i : Int) := by omega
    simp only [laws_eqParcelS.l0, laws_eqParcel.f, h1, h2, if_true, Option.bind_some, wrap_succ i (by omega), bne_self_eq_false, Bool.false_eq_true, if_false]⟩)
  exact Ev.congr (fun k => by simp only [laws_eqParcelS.f, if_true]) this
theorem markIntS_at (l : List Int) (h : l.length ≤ 1000000000) (m0 : Int) (h0 : 0 ≤ m0) (hm : m0 ≤ 1000000000000000) : Ev (fun k => laws_markIntS.f k l m0) (m0 + ((1 : Nat) : Int) * (l.length : Int), (List.range l.length).map fun (j : Nat) => id (m0 + ((1 : Nat) : Int) * (j : Int))) := by
  refine mark_loop (fun k ys m i => laws_markIntS.l0 k ys m i) id 1 m0 l (fun k ys m hy => by simp [laws_markIntS.l0, hy]) (fun i hi => ⟨0, fun k _ ys hy => ?_⟩)
  have h1 : (i : Int) < (ys.length : Int) := by omega
  have h2 : (0 : Int) ≤ (i : Int) := by omega
  have hw1 : wrap64 (m0 + 1 * (i : Int) + 1) = m0 + 1 * ((i + 1 : Nat) : Int) := (wrap_in (by omega) (by omega)).trans (by omega)
  simp only [Int.cast_ofNat_Int] at *
  simp only [laws_markIntS.l0, h1, h2, if_true, wrap_succ i (by omega), toNat_i, Option.bind_some, hw1]
  all_goals rfl
theorem markIntS_ev (l : List Int) (h : l.length ≤ 1000000000) : Ev (fun k => laws_markIntS.f k l 1) (1 + ((1 : Nat) : Int) * (l.length : Int), (List.range l.length).map fun (j : Nat) => id (1 + ((1 : Nat) : Int) * (j : Int))) := markIntS_at l h 1 (by omega) (by omega)
theorem heldIntS_at (n : Nat) (h : n ≤ 1000000000) (m0 : Int) (h0 : 0 ≤ m0) (hm : m0 ≤ 1000000000000000) : Ev (fun k => laws_heldIntS.f k ((List.range n).map fun (j : Nat) => id (m0 + ((1 : Nat) : Int) * (j : Int))) m0) (m0 + ((1 : Nat) : Int) * (n : Int)) := by
  refine held_loop (fun k m i => laws_heldIntS.l0 k ((List.range n).map fun (j : Nat) => id (m0 + ((1 : Nat) : Int) * (j : Int))) m i) 1 m0 n _ (fun k => by simp [laws_heldIntS.l0]) (fun i hi => ⟨0, fun k _ => ?_⟩)
  have h1 : (i : Int) < ((((List.range n).map fun (j : Nat) => id (m0 + ((1 : Nat) : Int) * (j : Int))).length : Nat) : Int) := by simp; omega
  have h2 : (0 : Int) ≤ (i : Int) := by omega
  have h3 : rd ((List.range n).map fun (j : Nat) => id (m0 + ((1 : Nat) : Int) * (j : Int))) (i : Int) = id (m0 + ((1 : Nat) : Int) * (i : Int)) := by simp [rd, hi]
  have hw1 : wrap64 (m0 + 1 * (i : Int) + 1) = m0 + 1 * ((i + 1 : Nat) : Int) := (wrap_in (by omega) (by omega)).trans (by omega)
  generalize ((List.range n).map fun (j : Nat) => id (m0 + ((1 : Nat) : Int) * (j : Int))) = L at *
  simp only [Int.cast_ofNat_Int] at *
  simp only [laws_heldIntS.l0, h1, h2, h3, if_true, wrap_succ i (by omega), bne_self_eq_false, Bool.false_eq_true, if_false, id, hw1]

theorem heldIntS_ev (n : Nat) (h : n ≤ 1000000000) : Ev (fun k => laws_heldIntS.f k ((List.range n).map fun (j : Nat) => id (1 + ((1 : Nat) : Int) * (j : Int))) 1) (1 + ((1 : Nat) : Int) * (n : Int)) := heldIntS_at n h 1 (by omega) (by omega)
theorem markParcelS_at (l : List (S54)) (h : l.length ≤ 1000000000) (m0 : Int) (h0 : 0 ≤ m0) (hm : m0 ≤ 1000000000000000) : Ev (fun k => laws_markParcelS.f k l m0) (m0 + ((2 : Nat) : Int) * (l.length : Int), (List.range l.length).map fun (j : Nat) => (fun m => (⟨m, m + 1⟩ : S54)) (m0 + ((2 : Nat) : Int) * (j : Int))) := by
  refine mark_loop (fun k ys m i => laws_markParcelS.l0 k ys m i) (fun m => (⟨m, m + 1⟩ : S54)) 2 m0 l (fun k ys m hy => by simp [laws_markParcelS.l0, hy]) (fun i hi => ⟨0, fun k _ ys hy => ?_⟩)
  have h1 : (i : Int) < (ys.length : Int) := by omega
  have h2 : (0 : Int) ≤ (i : Int) := by omega
  have hw1 : wrap64 ((m0 + 2 * (i : Int)) + 1) = m0 + 2 * (i : Int) + 1 := (wrap_in (by omega) (by omega)).trans (by omega)
  have hw2 : wrap64 ((m0 + 2 * (i : Int) + 1) + 1) = m0 + 2 * (i : Int) + 2 := (wrap_in (by omega) (by omega)).trans (by omega)
  simp only [Int.cast_ofNat_Int] at *
  simp only [laws_markParcelS.l0, h1, h2, if_true, wrap_succ i (by omega), toNat_i, Option.bind_some]
  have hs : ∀ (ys : List S54) (v : S54), ys.length = l.length → rd_T54 (ys.set i v) (i : Int) = v := by intro ys v hv; simp [rd_T54, List.getElem?_set, hv, hi]
  simp (disch := simp [hy]) only [hs, hw1, hw2, List.set_set]
  rw [show (m0 + 2 * (i : Int) + 2) = m0 + 2 * ((i + 1 : Nat) : Int) by omega]
theorem markParcelS_ev (l : List (S54)) (h : l.length ≤ 1000000000) : Ev (fun k => laws_markParcelS.f k l 1) (1 + ((2 : Nat) : Int) * (l.length : Int), (List.range l.length).map fun (j : Nat) => (fun m => (⟨m, m + 1⟩ : S54)) (1 + ((2 : Nat) : Int) * (j : Int))) := markParcelS_at l h 1 (by omega) (by omega)
theorem take_same : ∀ (k : Nat) (g : List Int) (l : List S54) (n i : Int), impl_TakeParcels.l0 k g l n i = spec_TakeParcels.l0 k g l n i
  | 0, _, _, _, _ => rfl
  | k + 1, g, l, n, i => by simp only [impl_TakeParcels.l0, spec_TakeParcels.l0, take_same k]
theorem take_ends (g : List Int) (l : List S54) (hg : g.length ≤ 30) (hb : l.length ≤ 1048576) : ∃ r : List Int × Int, r.1.length ≤ 30 ∧ Ev (fun k => spec_TakeParcels.l0 k g l (l.length : Int) 0) r := by
  obtain ⟨r, hp, h⟩ := one_while (fun k (s : List Int × Int) => spec_TakeParcels.l0 k s.1 l (l.length : Int) s.2) (fun d s => ∃ i : Nat, s.2 = (i : Int) ∧ i + d = l.length ∧ s.1.length ≤ 30) (fun r => r.1.length ≤ 30)
    (by
      rintro d ⟨s, j⟩ ⟨i, hj, hd, hs⟩
      obtain rfl : j = (i : Int) := hj
      simp only at hs
      by_cases hi : i < l.length
      · right
        have h1 : (i : Int) < (l.length : Int) := by omega
        have h2 : (0 : Int) ≤ (i : Int) := by omega
        have h3 : s.length < 17592186044416 := by omega
        by_cases hc : (rd_T54 l (i : Int)).f0 = (s.length : Int) ∧ (s.length : Int) < 30
        · refine ⟨d - 1, (s ++ [(rd_T54 l (i : Int)).f1], ((i + 1 : Nat) : Int)), by omega, ⟨i + 1, rfl, by omega, by simp only [List.length_append, List.length_singleton]; omega⟩, fun r hr => Ev.back 1 0 (fun k _ => ?_) hr⟩
          simp only [spec_TakeParcels.l0, h1, h2, if_true, hc.1, hc.2, h3, wrap_succ i (by omega)]
        · refine ⟨d - 1, (s, ((i + 1 : Nat) : Int)), by omega, ⟨i + 1, rfl, by omega, hs⟩, fun r hr => Ev.back 1 0 (fun k _ => ?_) hr⟩
          simp only [spec_TakeParcels.l0, h1, h2, if_true, wrap_succ i (by omega)]
          repeat' split
          all_goals first | rfl | (exfalso; exact hc ⟨‹_›, ‹_›⟩)
      · left
        have h1 : ¬ (i : Int) < (l.length : Int) := by omega
        exact ⟨(s, (s.length : Int)), hs, Ev.at 1 0 (fun k _ => by simp only [spec_TakeParcels.l0, h1, if_false])⟩) l.length (g, 0) ⟨0, rfl, by omega, hg⟩
  exact ⟨r, hp, h⟩
theorem FnExactTakeParcels : ∀ (l0 : List Int) (l1 : List (S86)), ((∀ (zl0 : Int), zl0 ∈ l0 → (Lit.int .i64 zl0).wf = true) ∧ l0.length * 8 ≤ 140737488351232) → ((∀ (zl1 : S86), zl1 ∈ l1 → ((Lit.int .i64 zl1.f0).wf = true ∧ (Lit.int .i64 zl1.f1).wf = true)) ∧ l1.length * 16 ≤ 140737488351232) → ∃ k, laws_FnExactTakeParcels.f k l0 l1 = some true := by
  intro g l ⟨_, hgl⟩ ⟨_, hl⟩
  by_cases hgn : (g.length : Int) > 1048576
  · exact ⟨0, by simp only [laws_FnExactTakeParcels.f, hgn, if_true]⟩
  have hs := szParcelS_eq l (by omega) 1048576 (by omega) (by omega)
  by_cases hn : (l.length : Int) > 1048576
  · exact ⟨0, by simp [laws_FnExactTakeParcels.f, hgn, hs, hn]⟩
  · have hn' : ¬ ((1048576 : Int) - l.length < 0) := by omega
    have hlm : (l.map cParcelS).length = l.length := List.length_map ..
    obtain ⟨K0, h0⟩ := toIntS_ev g (by omega)
    obtain ⟨K1, h1⟩ := toParcelS_ev l (by omega)
    generalize l.map cParcelS = L at *
    obtain ⟨K3, h3⟩ := eqIntS_ev g (by omega)
    obtain ⟨K4, h4⟩ := eqParcelS_ev L (by omega)
    have both : ∃ r : List Int × Int, r.1.length ≤ 30 ∧ ∃ K, ∀ k, K ≤ k → spec_TakeParcels.f k g L = some r ∧ impl_TakeParcels.f k g L = some r := by
      by_cases hg : (g.length : Int) > 30
      · exact ⟨([], 0), by simp, 0, fun k _ => by simp only [spec_TakeParcels.f, impl_TakeParcels.f, hg, if_true, and_self]⟩
      · obtain ⟨r, hr, K5, h5⟩ := take_ends g L (by omega) (by omega)
        refine ⟨r, hr, K5, fun k hk => ?_⟩
        have h5' := h5 k hk
        have h6' : impl_TakeParcels.l0 k g L (L.length : Int) 0 = some r := (take_same _ _ _ _ _).trans h5'
        have l2 : ([] : List Int).length + g.length < 17592186044416 := by simp; omega
        simp only at h5'
        simp only [spec_TakeParcels.f, impl_TakeParcels.f, hg, if_false, Option.bind_some, l2, if_true, List.nil_append, slices_Clone_int_int.f, h5', h6', and_self]
    obtain ⟨⟨G, b⟩, hG, K5, h5⟩ := both
    simp only at hG
    obtain ⟨K6, h6⟩ := eqIntS_ev G (by omega)
    obtain ⟨K7, h7⟩ := markIntS_ev g (by omega)
    obtain ⟨K10, h10⟩ := markParcelS_at L (by omega) (1 + ((1 : Nat) : Int) * (g.length : Int)) (by omega) (by omega)
    obtain ⟨K8, h8⟩ := markIntS_ev G (by omega)
    obtain ⟨K9, h9⟩ := heldIntS_ev G.length (by omega)
    have h5a : ∀ k, K5 ≤ k → spec_TakeParcels.f k g L = some (G, b) := fun k hk => (h5 k hk).1
    have h5b : ∀ k, K5 ≤ k → impl_TakeParcels.f k g L = some (G, b) := fun k hk => (h5 k hk).2
    have hneg : ¬ ((1 : Int) + ((1 : Nat) : Int) * (g.length : Int) + ((2 : Nat) : Int) * (L.length : Int) < 0) := by omega
    have hneg2 : ¬ ((1 : Int) + ((1 : Nat) : Int) * (G.length : Int) < 0) := by omega
    generalize ((List.range G.length).map fun (j : Nat) => id (1 + ((1 : Nat) : Int) * (j : Int))) = M at *
    have e2 : ∀ k, K9 ≤ k → laws_FnExactTakeParcels.j2 (k + 1) M (1 + ((1 : Nat) : Int) * (G.length : Int)) false = some true := by
      intro k hk
      have h9' := h9 k hk
      simp only at h9'
      simp only [laws_FnExactTakeParcels.j2, Bool.false_eq_true, if_false, h9', Option.bind_some, hneg2, if_true]
    have e1 : ∀ k, K0 + K1 + K5 + K6 + K8 + K9 ≤ k → laws_FnExactTakeParcels.j1 (k + 2) g l G b G false = some true := by
      intro k hk
      have h8' := h8 (k + 1) (by omega)
      have h9' := h9 (k + 1) (by omega)
      have h0' := h0 (k + 1) (by omega)
      have h1' := h1 (k + 1) (by omega)
      have h5' := h5b (k + 1) (by omega)
      have h6' := h6 (k + 1) (by omega)
      have e2' := e2 k (by omega)
      simp only at h8' h9' h0' h1' h6'
      simp only [laws_FnExactTakeParcels.j1, Bool.false_eq_true, if_false, h8', h9', h0', h1', h5', h6', Option.bind_some, hneg2, if_true, bne_self_eq_false, e2']
    have e0 : ∀ k, K0 + K1 + K3 + K4 + K5 + K6 + K7 + K8 + K9 + K10 ≤ k → laws_FnExactTakeParcels.j0 (k + 3) g l G b g L G b false = some true := by
      intro k hk
      have h0' := h0 (k + 2) (by omega)
      have h1' := h1 (k + 2) (by omega)
      have h3' := h3 (k + 2) (by omega)
      have h4' := h4 (k + 2) (by omega)
      have h6' := h6 (k + 2) (by omega)
      have h7' := h7 (k + 2) (by omega)
      have h10' := h10 (k + 2) (by omega)
      have e1' := e1 k (by omega)
      simp only at h0' h1' h3' h4' h6' h7' h10'
      simp only [laws_FnExactTakeParcels.j0, Bool.false_eq_true, if_false, h0', h1', h3', h4', h6', h7', h10', Option.bind_some, hneg, if_true, bne_self_eq_false, e1']
    refine ⟨K0 + K1 + K3 + K4 + K5 + K6 + K7 + K8 + K9 + K10 + 3, ?_⟩
    have h0' := h0 (K0 + K1 + K3 + K4 + K5 + K6 + K7 + K8 + K9 + K10 + 3) (by omega)
    have h1' := h1 (K0 + K1 + K3 + K4 + K5 + K6 + K7 + K8 + K9 + K10 + 3) (by omega)
    have h5c := h5a (K0 + K1 + K3 + K4 + K5 + K6 + K7 + K8 + K9 + K10 + 3) (by omega)
    have h5d := h5b (K0 + K1 + K3 + K4 + K5 + K6 + K7 + K8 + K9 + K10 + 3) (by omega)
    have h6' := h6 (K0 + K1 + K3 + K4 + K5 + K6 + K7 + K8 + K9 + K10 + 3) (by omega)
    have e0' := e0 (K0 + K1 + K3 + K4 + K5 + K6 + K7 + K8 + K9 + K10) (by omega)
    simp only at h0' h1' h6'
    simp only [laws_FnExactTakeParcels.f, hgn, hs, hn, if_false, Option.bind_some, hn', h0', h1', h5c, h5d, h6', if_true, bne_self_eq_false, e0']

end Go.Proofs.Ytmlejakajcmbdaa.Pure
