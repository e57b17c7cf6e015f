/- 'FnExactMergeStamped': what the program's function and the reference's answer, told over numbers and lists alone, meets the law at every input within the kinds' own bounds; no other condition. -/
import Derived.Test.YtmlejakajcmbdaaQFnExactMergeStampedx7
import Derived.Test.YtmlejakajcmbdaaPlain
namespace Go.Proofs.Ytmlejakajcmbdaa.Pure
open Go.RowKit Go.Proofs.Ytmlejakajcmbdaa.PFnExactMergeStamped Go.Proofs.Ytmlejakajcmbdaa.Plain Go.Proofs.YtmlejakajcmbdaaW.PrintWords Go.Proofs.YtmlejakajcmbdaaW.PrintLast
set_option linter.unusedVariables false
set_option linter.unusedSimpArgs false

theorem szStampedS_eq (l : List (S93)) (h : l.length ≤ 140737488351232) (n : Int) (h0 : 0 ≤ n) (h1 : n ≤ 1048576) : laws_szStampedS.f l n = some (if (l.length : Int) > n then -1 else n - l.length) := by
  unfold laws_szStampedS.f
  rw [wrap_in (by omega) (by omega)]
  split <;> split <;> first | rfl | (exfalso; omega)
def cStampedS (x : S93) : S48 := ⟨x.f0, x.f1, x.f2⟩
theorem toStampedS_ev (l : List S93) (h : l.length ≤ 1048576) : Ev (fun k => laws_toStampedS.f k l) (l.map cStampedS) := by
  have := to_loop (fun k acc i => laws_toStampedS.l0 k l acc i) cStampedS l z48 (fun k acc => by simp [laws_toStampedS.l0]) (fun i hi => ⟨0, fun k _ acc hacc => by
    have h1 : (i : Int) < (l.length : Int) := by omega
    have h2 : (0 : Int) ≤ (i : Int) := by omega
    have h3 : (i : Int) < (acc.length : Int) := by omega
    have h4 : rd_T93 l (i : Int) = l[i] := by simp [rd_T93, hi]
    simp only [laws_toStampedS.l0, laws_toStamped.f, h1, h2, h3, h4, if_true, Option.bind_some, wrap_succ i (by omega), toNat_i]
    rfl⟩)
  exact Ev.congr (fun k => by
    have h5 : l.length ≤ 100000000 := by omega
    simp only [laws_toStampedS.f, toNat_i]
    rw [if_pos (by omega), if_pos (by omega)]) this
theorem eqStampedS_ev (l : List (S48)) (h : l.length < 9223372036854775807) : Ev (fun k => laws_eqStampedS.f k l l) true := by
  have := eq_loop (fun k i => laws_eqStampedS.l0 k l l i) l.length true (fun k => by simp [laws_eqStampedS.l0]) (fun i hi => ⟨0, fun k _ => by
    have h1 : (i : Int) < (l.length : Int) := by omega
    have h2 : (0 : Int) ≤ (i : Int) := by omega
    simp only [laws_eqStampedS.l0, laws_eqStamped.f, h1, h2, if_true, Option.bind_some, wrap_succ i (by omega), bne_self_eq_false, Bool.false_eq_true, if_false]⟩)
  exact Ev.congr (fun k => by simp only [laws_eqStampedS.f, if_true]) this
theorem markStampedS_at (l : List (S48)) (h : l.length ≤ 1000000000) (m0 : Int) (h0 : 0 ≤ m0) (hm : m0 ≤ 1000000000000000) : Ev (fun k => laws_markStampedS.f k l m0) (m0 + ((3 : Nat) : Int) * (l.length : Int), (List.range l.length).map fun (j : Nat) => (fun m => (⟨m, m + 1, m + 2⟩ : S48)) (m0 + ((3 : Nat) : Int) * (j : Int))) := by
  refine mark_loop (fun k ys m i => laws_markStampedS.l0 k ys m i) (fun m => (⟨m, m + 1, m + 2⟩ : S48)) 3 m0 l (fun k ys m hy => by simp [laws_markStampedS.l0, hy]) (fun i hi => ⟨0, fun k _ ys hy => ?_⟩)
  have h1 : (i : Int) < (ys.length : Int) := by omega
  have h2 : (0 : Int) ≤ (i : Int) := by omega
  have hw1 : wrap64 ((m0 + 3 * (i : Int)) + 1) = m0 + 3 * (i : Int) + 1 := (wrap_in (by omega) (by omega)).trans (by omega)
  have hw2 : wrap64 ((m0 + 3 * (i : Int) + 1) + 1) = m0 + 3 * (i : Int) + 2 := (wrap_in (by omega) (by omega)).trans (by omega)
  have hw3 : wrap64 ((m0 + 3 * (i : Int) + 2) + 1) = m0 + 3 * (i : Int) + 3 := (wrap_in (by omega) (by omega)).trans (by omega)
  simp only [Int.cast_ofNat_Int] at *
  simp only [laws_markStampedS.l0, h1, h2, if_true, wrap_succ i (by omega), toNat_i, Option.bind_some]
  have hs : ∀ (ys : List S48) (v : S48), ys.length = l.length → rd_T48 (ys.set i v) (i : Int) = v := by intro ys v hv; simp [rd_T48, List.getElem?_set, hv, hi]
  simp (disch := simp [hy]) only [hs, hw1, hw2, hw3, List.set_set]
  rw [show (m0 + 3 * (i : Int) + 3) = m0 + 3 * ((i + 1 : Nat) : Int) by omega]
theorem markStampedS_ev (l : List (S48)) (h : l.length ≤ 1000000000) : Ev (fun k => laws_markStampedS.f k l 1) (1 + ((3 : Nat) : Int) * (l.length : Int), (List.range l.length).map fun (j : Nat) => (fun m => (⟨m, m + 1, m + 2⟩ : S48)) (1 + ((3 : Nat) : Int) * (j : Int))) := markStampedS_at l h 1 (by omega) (by omega)
theorem heldStampedS_at (n : Nat) (h : n ≤ 1000000000) (m0 : Int) (h0 : 0 ≤ m0) (hm : m0 ≤ 1000000000000000) : Ev (fun k => laws_heldStampedS.f k ((List.range n).map fun (j : Nat) => (fun m => (⟨m, m + 1, m + 2⟩ : S48)) (m0 + ((3 : Nat) : Int) * (j : Int))) m0) (m0 + ((3 : Nat) : Int) * (n : Int)) := by
  refine held_loop (fun k m i => laws_heldStampedS.l0 k ((List.range n).map fun (j : Nat) => (fun m => (⟨m, m + 1, m + 2⟩ : S48)) (m0 + ((3 : Nat) : Int) * (j : Int))) m i) 3 m0 n _ (fun k => by simp [laws_heldStampedS.l0]) (fun i hi => ⟨0, fun k _ => ?_⟩)
  have h1 : (i : Int) < ((((List.range n).map fun (j : Nat) => (fun m => (⟨m, m + 1, m + 2⟩ : S48)) (m0 + ((3 : Nat) : Int) * (j : Int))).length : Nat) : Int) := by simp; omega
  have h2 : (0 : Int) ≤ (i : Int) := by omega
  have h3 : rd_T48 ((List.range n).map fun (j : Nat) => (fun m => (⟨m, m + 1, m + 2⟩ : S48)) (m0 + ((3 : Nat) : Int) * (j : Int))) (i : Int) = (fun m => (⟨m, m + 1, m + 2⟩ : S48)) (m0 + ((3 : Nat) : Int) * (i : Int)) := by simp [rd_T48, hi]
  have hw1 : wrap64 ((m0 + 3 * (i : Int)) + 1) = m0 + 3 * (i : Int) + 1 := (wrap_in (by omega) (by omega)).trans (by omega)
  have hw2 : wrap64 ((m0 + 3 * (i : Int) + 1) + 1) = m0 + 3 * (i : Int) + 2 := (wrap_in (by omega) (by omega)).trans (by omega)
  have hw3 : wrap64 ((m0 + 3 * (i : Int) + 2) + 1) = m0 + 3 * (i : Int) + 3 := (wrap_in (by omega) (by omega)).trans (by omega)
  generalize ((List.range n).map fun (j : Nat) => (fun m => (⟨m, m + 1, m + 2⟩ : S48)) (m0 + ((3 : Nat) : Int) * (j : Int))) = L at *
  simp only [Int.cast_ofNat_Int] at *
  simp only [laws_heldStampedS.l0, h1, h2, h3, if_true, wrap_succ i (by omega), bne_self_eq_false, Bool.false_eq_true, if_false, id]
  simp only [hw1, hw2, hw3, if_true]
  rw [show (m0 + 3 * (i : Int) + 3) = m0 + 3 * ((i + 1 : Nat) : Int) by omega]
theorem heldStampedS_ev (n : Nat) (h : n ≤ 1000000000) : Ev (fun k => laws_heldStampedS.f k ((List.range n).map fun (j : Nat) => (fun m => (⟨m, m + 1, m + 2⟩ : S48)) (1 + ((3 : Nat) : Int) * (j : Int))) 1) (1 + ((3 : Nat) : Int) * (n : Int)) := heldStampedS_at n h 1 (by omega) (by omega)
def bf (x y : S48) : Bool := decide (x.f0 < y.f0 ∨ (x.f0 = y.f0 ∧ x.f1 < y.f1))
theorem impl_bf (x y : S48) : impl_before.f x.f0 x.f1 x.f2 y.f0 y.f1 y.f2 = some (bf x y) := by
  unfold impl_before.f bf
  repeat' split
  all_goals (simp only [Option.some.injEq]; first | (rw [eq_comm, decide_eq_true_eq]; omega) | (rw [eq_comm, decide_eq_false_iff_not]; omega) | (apply decide_eq_decide.2; omega))
theorem spec_bf (x y : S48) : spec_l24Before.f x.f0 x.f1 x.f2 y.f0 y.f1 y.f2 = some (bf x y) := by
  unfold spec_l24Before.f bf
  repeat' split
  all_goals (simp only [Option.some.injEq]; first | (rw [eq_comm, decide_eq_true_eq]; omega) | (rw [eq_comm, decide_eq_false_iff_not]; omega) | (apply decide_eq_decide.2; omega))
/-- What is merged. -/
def mg : Nat → List S48 → List S48 → List S48 → List S48 × Bool
  | 0, _, _, acc => (acc, true)
  | _ + 1, [], [], acc => (acc, true)
  | d + 1, x :: a, [], acc => mg d a [] (acc ++ [x])
  | d + 1, [], y :: b, acc => mg d [] b (acc ++ [y])
  | d + 1, x :: a, y :: b, acc => if bf x y = true then mg d a (y :: b) (acc ++ [x]) else if bf y x = true then mg d (x :: a) b (acc ++ [y]) else if x.f2 = y.f2 then mg d a b (acc ++ [x]) else ([], false)
theorem mg_len : ∀ (d : Nat) (a b acc : List S48), (mg d a b acc).1.length ≤ acc.length + a.length + b.length
  | 0, a, b, acc => by simp only [mg]; omega
  | d + 1, [], [], acc => by simp [mg]
  | d + 1, x :: a, [], acc => by
    have := mg_len d a [] (acc ++ [x])
    simp only [mg, List.length_append, List.length_cons, List.length_nil] at *
    omega
  | d + 1, [], y :: b, acc => by
    have := mg_len d [] b (acc ++ [y])
    simp only [mg, List.length_append, List.length_cons, List.length_nil] at *
    omega
  | d + 1, x :: a, y :: b, acc => by
    have h1 := mg_len d a (y :: b) (acc ++ [x])
    have h2 := mg_len d (x :: a) b (acc ++ [y])
    have h3 := mg_len d a b (acc ++ [x])
    simp only [mg, List.length_append, List.length_cons, List.length_nil] at *
    repeat' split
    all_goals first | omega | simp
theorem bf_tie {x y : S48} (h1 : bf x y = false) (h2 : bf y x = false) : x.f0 = y.f0 ∧ x.f1 = y.f1 := by
  simp only [bf, decide_eq_false_iff_not] at h1 h2
  omega
theorem impl_mg : ∀ (d : Nat) (a b acc : List S48), a.length + b.length ≤ d → acc.length + a.length + b.length ≤ 1000000 → Ev (fun k => impl_MergeStamped.l2 k a b acc) (mg d a b acc)
  | 0, a, b, acc, h, _ => by
    obtain rfl : a = [] := List.length_eq_zero_iff.1 (by omega)
    obtain rfl : b = [] := List.length_eq_zero_iff.1 (by omega)
    exact Ev.at 2 0 (fun k _ => by simp [impl_MergeStamped.l2, impl_MergeStamped.j3, mg])
  | d + 1, [], [], acc, h, _ => Ev.at 2 0 (fun k _ => by simp [impl_MergeStamped.l2, impl_MergeStamped.j3, mg])
  | d + 1, x :: a, [], acc, h, hb => by
    have ih := impl_mg d a [] (acc ++ [x]) (by simp at h ⊢; omega) (by simp at hb ⊢; omega)
    simp only [List.length_cons, List.length_nil] at h hb
    have l1 : acc.length < 5864062014805 := by omega
    refine Ev.back 3 0 (fun k _ => ?_) ih
    have c1 : (((x :: a).length : Nat) : Int) > 0 := by simp <;> omega
    have c2 : (0 : Int) < (((x :: a).length : Nat) : Int) := by simp <;> omega
    have c3 : (1 : Int) ≤ (((x :: a).length : Nat) : Int) := by simp <;> omega
    simp only [impl_MergeStamped.l2, c1, if_true, impl_MergeStamped.j3, impl_MergeStamped.j4, c2, c3, l1, List.length_nil, Int.ofNat_zero, Int.natCast_zero]
    rfl
  | d + 1, [], y :: b, acc, h, hb => by
    have ih := impl_mg d [] b (acc ++ [y]) (by simp at h ⊢; omega) (by simp at hb ⊢; omega)
    simp only [List.length_cons, List.length_nil] at h hb
    have l1 : acc.length < 5864062014805 := by omega
    refine Ev.back 4 0 (fun k _ => ?_) ih
    have c0 : ¬ ((([] : List S48).length : Nat) : Int) > 0 := by simp
    have c0' : ((([] : List S48).length : Nat) : Int) = 0 := by simp
    have c1 : decide ((((y :: b).length : Nat) : Int) > 0) = true := by simp <;> omega
    have c2 : (0 : Int) < (((y :: b).length : Nat) : Int) := by simp <;> omega
    have c3 : (1 : Int) ≤ (((y :: b).length : Nat) : Int) := by simp <;> omega
    have c4 : ¬ (((y :: b).length : Nat) : Int) = 0 := by simp <;> omega
    simp only [impl_MergeStamped.l2, c0, if_false, c1, impl_MergeStamped.j3, if_true, c4, impl_MergeStamped.j4, Bool.false_eq_true, c0', impl_MergeStamped.j5, c2, c3, l1]
    rfl
  | d + 1, x :: a, y :: b, acc, h, hb => by
    have i1 := impl_mg d a (y :: b) (acc ++ [x]) (by simp at h ⊢; omega) (by simp at hb ⊢; omega)
    have i2 := impl_mg d (x :: a) b (acc ++ [y]) (by simp at h ⊢; omega) (by simp at hb ⊢; omega)
    have i3 := impl_mg d a b (acc ++ [x]) (by simp at h ⊢; omega) (by simp at hb ⊢; omega)
    simp only [List.length_cons] at h hb
    have l1 : acc.length < 5864062014805 := by omega
    have c1 : (((x :: a).length : Nat) : Int) > 0 := by simp <;> omega
    have c2 : (0 : Int) < (((x :: a).length : Nat) : Int) := by simp <;> omega
    have c3 : (1 : Int) ≤ (((x :: a).length : Nat) : Int) := by simp <;> omega
    have c3' : ¬ (((x :: a).length : Nat) : Int) = 0 := by simp <;> omega
    have c4 : ¬ (((y :: b).length : Nat) : Int) = 0 := by simp <;> omega
    have c5 : (0 : Int) < (((y :: b).length : Nat) : Int) := by simp <;> omega
    have c6 : (1 : Int) ≤ (((y :: b).length : Nat) : Int) := by simp <;> omega
    have r1 : rd_T48 (x :: a) 0 = x := rfl
    have r2 : rd_T48 (y :: b) 0 = y := rfl
    have start : ∀ k, impl_MergeStamped.l2 (k + 2) (x :: a) (y :: b) acc = impl_MergeStamped.j4 k (x :: a) (y :: b) acc (bf x y) := by
      intro k
      simp only [impl_MergeStamped.l2, c1, if_true, impl_MergeStamped.j3, c4, if_false, c2, c5, r1, r2, impl_bf, Option.bind_some]
    have hd : mg (d + 1) (x :: a) (y :: b) acc = if bf x y = true then mg d a (y :: b) (acc ++ [x]) else if bf y x = true then mg d (x :: a) b (acc ++ [y]) else if x.f2 = y.f2 then mg d a b (acc ++ [x]) else ([], false) := rfl
    rw [hd]
    cases hxy : bf x y with
    | true =>
      simp only [if_true]
      refine Ev.back 3 0 (fun k _ => ?_) i1
      rw [start, hxy]
      simp only [impl_MergeStamped.j4, if_true, c2, c3, l1, r1]
      rfl
    | false =>
      simp only [Bool.false_eq_true, if_false]
      have mid : ∀ k, impl_MergeStamped.l2 (k + 3) (x :: a) (y :: b) acc = impl_MergeStamped.j5 k (x :: a) (y :: b) acc (bf y x) := by
        intro k
        rw [start, hxy]
        simp only [impl_MergeStamped.j4, Bool.false_eq_true, if_false, c3', c2, c5, if_true, r1, r2, impl_bf, Option.bind_some]
      cases hyx : bf y x with
      | true =>
        simp only [if_true]
        refine Ev.back 4 0 (fun k _ => ?_) i2
        rw [mid, hyx]
        simp only [impl_MergeStamped.j5, if_true, c5, c6, l1, r2]
        rfl
      | false =>
        simp only [Bool.false_eq_true, if_false]
        have ht := bf_tie hxy hyx
        by_cases hw : x.f2 = y.f2
        · rw [if_pos hw]
          refine Ev.back 4 0 (fun k _ => ?_) i3
          rw [mid, hyx]
          have hne : (!((x.f0) == (y.f0)) || (!((x.f1) == (y.f1)) || (!((x.f2) == (y.f2))))) = false := by simp [ht.1, ht.2, hw]
          simp only [impl_MergeStamped.j5, Bool.false_eq_true, if_false, c2, c5, if_true, r1, r2, hne, l1, c3, c6]
          rfl
        · rw [if_neg hw]
          refine Ev.at 4 0 (fun k _ => ?_)
          rw [mid, hyx]
          have hne : (!((x.f0) == (y.f0)) || (!((x.f1) == (y.f1)) || (!((x.f2) == (y.f2))))) = true := by simp [hw]
          simp only [impl_MergeStamped.j5, Bool.false_eq_true, if_false, c2, c5, if_true, r1, r2, hne]
theorem spec_mg (a b : List S48) (ha : a.length ≤ 1000) (hb : b.length ≤ 1000) : ∀ (d i j : Nat) (acc : List S48), i ≤ a.length → j ≤ b.length → (a.length - i) + (b.length - j) ≤ d → acc.length ≤ i + j →
    Ev (fun k => spec_MergeStamped.l0 k a b acc (i : Int) (j : Int)) (mg d (a.drop i) (b.drop j) acc) := by
  intro d
  induction d with
  | zero =>
    intro i j acc hi hj h hacc
    obtain rfl : i = a.length := by omega
    obtain rfl : j = b.length := by omega
    refine Ev.at 2 0 (fun k _ => ?_)
    have e1 : ¬ ((a.length : Int) < (a.length : Int)) := by omega
    have e2 : decide ((b.length : Int) < (b.length : Int)) = false := by simp
    simp only [spec_MergeStamped.l0, e1, if_false, e2, spec_MergeStamped.j2, Bool.false_eq_true, mg]
  | succ d ih =>
    intro i j acc hi hj h hacc
    have l1 : acc.length < 5864062014805 := by omega
    have p1 : (0 : Int) ≤ (i : Int) := by omega
    have p2 : (0 : Int) ≤ (j : Int) := by omega
    cases hA : a.drop i with
    | nil =>
      have hA' := drop_nil hA
      obtain rfl : i = a.length := by omega
      have e1 : ¬ ((a.length : Int) < (a.length : Int)) := by omega
      cases hB : b.drop j with
      | nil =>
        have hB' := drop_nil hB
        obtain rfl : j = b.length := by omega
        refine Ev.at 2 0 (fun k _ => ?_)
        have e2 : decide ((b.length : Int) < (b.length : Int)) = false := by simp
        simp only [spec_MergeStamped.l0, e1, if_false, e2, spec_MergeStamped.j2, Bool.false_eq_true, mg]
      | cons y b' =>
        obtain ⟨hj1, hj2, hj3⟩ := drop_cons hB
        have e2 : decide ((j : Int) < (b.length : Int)) = true := by rw [decide_eq_true_eq]; omega
        have e3 : ¬ ((j : Int) = (b.length : Int)) := by omega
        have e4 : (j : Int) < (b.length : Int) := by omega
        have r2 : rd_T48 b (j : Int) = y := by simp [rd_T48, hj2]
        have := ih a.length (j + 1) (acc ++ [y]) (by omega) (by omega) (by omega) (by simp <;> omega)
        rw [hA, hj3] at this
        refine Ev.back 4 0 (fun k _ => ?_) this
        simp only [spec_MergeStamped.l0, e1, if_false, decide_true, spec_MergeStamped.j2, if_true, e3, spec_MergeStamped.j3, Bool.false_eq_true, spec_MergeStamped.j4, p2, e4, l1, r2, wrap_succ j (by omega)]
    | cons x a' =>
      obtain ⟨hi1, hi2, hi3⟩ := drop_cons hA
      have e1 : (i : Int) < (a.length : Int) := by omega
      have e1' : ¬ ((i : Int) = (a.length : Int)) := by omega
      have r1 : rd_T48 a (i : Int) = x := by simp [rd_T48, hi2]
      cases hB : b.drop j with
      | nil =>
        have hB' := drop_nil hB
        obtain rfl : j = b.length := by omega
        have := ih (i + 1) b.length (acc ++ [x]) (by omega) (by omega) (by omega) (by simp <;> omega)
        rw [hi3, hB] at this
        refine Ev.back 3 0 (fun k _ => ?_) this
        simp only [spec_MergeStamped.l0, e1, if_true, spec_MergeStamped.j2, spec_MergeStamped.j3, p1, l1, r1, wrap_succ i (by omega)]
      | cons y b' =>
        obtain ⟨hj1, hj2, hj3⟩ := drop_cons hB
        have e3 : ¬ ((j : Int) = (b.length : Int)) := by omega
        have e4 : (j : Int) < (b.length : Int) := by omega
        have r2 : rd_T48 b (j : Int) = y := by simp [rd_T48, hj2]
        have i1 := ih (i + 1) j (acc ++ [x]) (by omega) (by omega) (by omega) (by simp <;> omega)
        have i2 := ih i (j + 1) (acc ++ [y]) (by omega) (by omega) (by omega) (by simp <;> omega)
        have i3 := ih (i + 1) (j + 1) (acc ++ [x]) (by omega) (by omega) (by omega) (by simp <;> omega)
        rw [hi3, hB] at i1
        rw [hA, hj3] at i2
        rw [hi3, hj3] at i3
        have hd : mg (d + 1) (x :: a') (y :: b') acc = if bf x y = true then mg d a' (y :: b') (acc ++ [x]) else if bf y x = true then mg d (x :: a') b' (acc ++ [y]) else if x.f2 = y.f2 then mg d a' b' (acc ++ [x]) else ([], false) := rfl
        rw [hd]
        have start : ∀ k, spec_MergeStamped.l0 (k + 2) a b acc (i : Int) (j : Int) = spec_MergeStamped.j3 k a b acc (i : Int) (j : Int) (bf x y) := by
          intro k
          simp only [spec_MergeStamped.l0, e1, if_true, spec_MergeStamped.j2, e3, if_false, p1, p2, e4, r1, r2, spec_bf, Option.bind_some]
        cases hxy : bf x y with
        | true =>
          simp only [if_true]
          refine Ev.back 3 0 (fun k _ => ?_) i1
          rw [start, hxy]
          simp only [spec_MergeStamped.j3, if_true, p1, e1, l1, r1, wrap_succ i (by omega)]
        | false =>
          simp only [Bool.false_eq_true, if_false]
          have mid : ∀ k, spec_MergeStamped.l0 (k + 3) a b acc (i : Int) (j : Int) = spec_MergeStamped.j4 k a b acc (i : Int) (j : Int) (bf y x) := by
            intro k
            rw [start, hxy]
            simp only [spec_MergeStamped.j3, Bool.false_eq_true, if_false, e1', p1, p2, e1, e4, if_true, r1, r2, spec_bf, Option.bind_some]
          cases hyx : bf y x with
          | true =>
            simp only [if_true]
            refine Ev.back 4 0 (fun k _ => ?_) i2
            rw [mid, hyx]
            simp only [spec_MergeStamped.j4, if_true, p2, e4, l1, r2, wrap_succ j (by omega)]
          | false =>
            simp only [Bool.false_eq_true, if_false]
            by_cases hw : x.f2 = y.f2
            · rw [if_pos hw]
              refine Ev.back 4 0 (fun k _ => ?_) i3
              rw [mid, hyx]
              simp only [spec_MergeStamped.j4, Bool.false_eq_true, if_false, p1, p2, e1, e4, if_true, r1, r2, hw, l1, wrap_succ i (by omega), wrap_succ j (by omega)]
              rw [← hw]
            · rw [if_neg hw]
              refine Ev.at 4 0 (fun k _ => ?_)
              rw [mid, hyx]
              simp only [spec_MergeStamped.j4, Bool.false_eq_true, if_false, p1, p2, e1, e4, if_true, r1, r2, hw]
def okS (l : List S48) : Bool := decide (l.length ≤ 40) && (List.range' 1 (l.length - 1)).all (fun i => bf (rd_T48 l ((i - 1 : Nat) : Int)) (rd_T48 l (i : Int)))
theorem spec_okS (l : List S48) (hb : l.length ≤ 1099511627776) : Ev (fun k => spec_l24Stamped.f k l) (okS l) := by
  by_cases h40 : l.length ≤ 40
  · have c0 : ¬ ((l.length : Int) > 40) := by omega
    have hl : Ev (fun k => spec_l24Stamped.l0 k l 1) (if (List.range' 1 (l.length - 1)).all (fun i => bf (rd_T48 l ((i - 1 : Nat) : Int)) (rd_T48 l (i : Int))) = true then true else false) := by
      by_cases hz : l.length = 0
      · refine Ev.at 1 0 (fun k _ => ?_)
        have c1 : ¬ ((1 : Int) < (l.length : Int)) := by omega
        simp [spec_l24Stamped.l0, hz]
      · -- the words from the second on
        have hstep : ∀ i : Nat, 1 ≤ i → i < l.length → ∀ k, spec_l24Stamped.l0 (k + 1) l (i : Int) = if bf (rd_T48 l ((i - 1 : Nat) : Int)) (rd_T48 l (i : Int)) = true then spec_l24Stamped.l0 k l ((i + 1 : Nat) : Int) else some false := by
          intro i h1 hi k
          have c1 : (i : Int) < (l.length : Int) := by omega
          have c2 : (0 : Int) ≤ ((i - 1 : Nat) : Int) := by omega
          have c3 : ((i - 1 : Nat) : Int) < (l.length : Int) := by omega
          have c4 : (0 : Int) ≤ (i : Int) := by omega
          simp only [spec_l24Stamped.l0, c1, if_true, wrap_pred i (by omega) (by omega), c2, c3, c4, spec_bf, Option.bind_some, wrap_succ i (by omega)]
        have key : ∀ (d i : Nat), 1 ≤ i → i + d = l.length → Ev (fun k => spec_l24Stamped.l0 k l (i : Int)) (if (List.range' i d).all (fun i => bf (rd_T48 l ((i - 1 : Nat) : Int)) (rd_T48 l (i : Int))) = true then true else false) := by
          intro d
          induction d with
          | zero =>
            intro i h1 hi
            refine Ev.at 1 0 (fun k _ => ?_)
            have c1 : ¬ ((i : Int) < (l.length : Int)) := by omega
            simp [spec_l24Stamped.l0, c1]
          | succ d ih =>
            intro i h1 hi
            rw [List.range'_succ, List.all_cons]
            cases hp : bf (rd_T48 l ((i - 1 : Nat) : Int)) (rd_T48 l (i : Int)) with
            | true =>
              simp only [Bool.true_and]
              exact Ev.back 1 0 (fun k _ => by rw [hstep i h1 (by omega) k, if_pos hp]) (ih (i + 1) (by omega) (by omega))
            | false =>
              simp only [Bool.false_and, Bool.false_eq_true, if_false]
              exact Ev.at 1 0 (fun k _ => by rw [hstep i h1 (by omega) k, hp]; rfl)
        exact key (l.length - 1) 1 (by omega) (by omega)
    obtain ⟨K, hK⟩ := hl
    refine ⟨K, fun k hk => ?_⟩
    have hK' := hK k hk
    simp only at hK'
    simp only [spec_l24Stamped.f, c0, if_false, hK', okS, decide_eq_true h40, Bool.true_and]
    cases (List.range' 1 (l.length - 1)).all (fun (i : Nat) => bf (rd_T48 l ((i - 1 : Nat) : Int)) (rd_T48 l (i : Int))) <;> rfl
  · have c0 : ((l.length : Int) > 40) := by omega
    exact ⟨0, fun k _ => by simp only [spec_l24Stamped.f, c0, if_true, okS, decide_eq_false h40, Bool.false_and]⟩
theorem impl_okS (a b : List S48) (y : List (List S48)) (l : List S48) (z : Nat) (hz : z < y.length) (hzb : y.length = 2) (hy : rd_L2 y (z : Int) = l) (hb : l.length ≤ 1099511627776) (r : List S48 × Bool)
    (hr : okS l = true → Ev (fun k => impl_MergeStamped.l0 k a b y (y.length : Int) ((z + 1 : Nat) : Int)) r) :
    Ev (fun k => impl_MergeStamped.l0 k a b y (y.length : Int) (z : Int)) (if okS l = true then r else ([], false)) := by
  have d1 : (z : Int) < (y.length : Int) := by omega
  have d2 : (0 : Int) ≤ (z : Int) := by omega
  by_cases h40 : l.length ≤ 40
  · have c0 : ¬ ((l.length : Int) > 40) := by omega
    have hstep : ∀ i : Nat, 1 ≤ i → i < l.length → ∀ k, impl_MergeStamped.l1 (k + 1) a b l (i : Int) y (y.length : Int) (z : Int) = if bf (rd_T48 l ((i - 1 : Nat) : Int)) (rd_T48 l (i : Int)) = true then impl_MergeStamped.l1 k a b l ((i + 1 : Nat) : Int) y (y.length : Int) (z : Int) else some ([], false) := by
      intro i h1 hi k
      have c1 : (i : Int) < (l.length : Int) := by omega
      have c2 : (0 : Int) ≤ ((i - 1 : Nat) : Int) := by omega
      have c3 : ((i - 1 : Nat) : Int) < (l.length : Int) := by omega
      have c4 : (0 : Int) ≤ (i : Int) := by omega
      simp only [impl_MergeStamped.l1, c1, if_true, wrap_pred i (by omega) (by omega), c2, c3, c4, impl_bf, Option.bind_some, wrap_succ i (by omega)]
    have key : ∀ (d i : Nat), 1 ≤ i → (i + d = l.length ∨ (d = 0 ∧ l.length ≤ i)) → ((List.range' i d).all (fun i => bf (rd_T48 l ((i - 1 : Nat) : Int)) (rd_T48 l (i : Int))) = true → Ev (fun k => impl_MergeStamped.l0 k a b y (y.length : Int) ((z + 1 : Nat) : Int)) r) →
        Ev (fun k => impl_MergeStamped.l1 k a b l (i : Int) y (y.length : Int) (z : Int)) (if (List.range' i d).all (fun i => bf (rd_T48 l ((i - 1 : Nat) : Int)) (rd_T48 l (i : Int))) = true then r else ([], false)) := by
      intro d
      induction d with
      | zero =>
        intro i h1 hi hr
        have := hr (by simp)
        have c1 : ¬ ((i : Int) < (l.length : Int)) := by omega
        simp only [List.range'_zero, List.all_nil, if_true]
        exact Ev.back 1 0 (fun k _ => by simp only [impl_MergeStamped.l1, c1, if_false, wrap_succ z (by omega)]) this
      | succ d ih =>
        intro i h1 hi hr
        rw [List.range'_succ, List.all_cons] at hr ⊢
        cases hp : bf (rd_T48 l ((i - 1 : Nat) : Int)) (rd_T48 l (i : Int)) with
        | true =>
          simp only [hp, Bool.true_and] at hr
          simp only [Bool.true_and]
          exact Ev.back 1 0 (fun k _ => by rw [hstep i h1 (by omega) k, if_pos hp]) (ih (i + 1) (by omega) (by omega) hr)
        | false =>
          simp only [Bool.false_and, Bool.false_eq_true, if_false]
          exact Ev.at 1 0 (fun k _ => by rw [hstep i h1 (by omega) k, hp]; rfl)
    have hk := key (l.length - 1) 1 (by omega) (by omega) (fun h => hr (by simp only [okS, decide_eq_true h40, Bool.true_and]; exact h))
    have e : (if okS l = true then r else ([], false)) = (if (List.range' 1 (l.length - 1)).all (fun (i : Nat) => bf (rd_T48 l ((i - 1 : Nat) : Int)) (rd_T48 l (i : Int))) = true then r else ([], false)) := by simp only [okS, decide_eq_true h40, Bool.true_and]
    rw [e]
    refine Ev.back 1 0 (fun k _ => ?_) hk
    simp only [impl_MergeStamped.l0, d1, d2, if_true, hy, c0, if_false]
    rfl
  · have c0 : ((l.length : Int) > 40) := by omega
    have e : okS l = false := by simp only [okS, decide_eq_false h40, Bool.false_and]
    rw [e]
    simp only [Bool.false_eq_true, if_false]
    exact Ev.at 1 0 (fun k _ => by simp only [impl_MergeStamped.l0, d1, d2, if_true, hy, c0])
def merged (a b : List S48) : List S48 × Bool := if okS a = true ∧ okS b = true then mg (a.length + b.length) a b [] else ([], false)
theorem okS_len {l : List S48} (h : okS l = true) : l.length ≤ 40 := by
  simp only [okS, Bool.and_eq_true, decide_eq_true_eq] at h
  exact h.1
theorem merged_len (a b : List S48) : (merged a b).1.length ≤ 80 := by
  unfold merged
  split
  · rename_i h
    have := mg_len (a.length + b.length) a b []
    have h1 := okS_len h.1
    have h2 := okS_len h.2
    simp only [List.length_nil] at this
    omega
  · simp
theorem impl_merged (a b : List S48) (ha : a.length ≤ 1048576) (hb : b.length ≤ 1048576) : Ev (fun k => impl_MergeStamped.f k a b) (merged a b) := by
  have y2 : (([a, b] : List (List S48)).length : Int) = 2 := rfl
  have h := impl_okS a b [a, b] a 0 (by simp) rfl rfl (by omega) (if okS b = true then mg (a.length + b.length) a b [] else ([], false)) (fun h1 =>
    impl_okS a b [a, b] b 1 (by simp) rfl rfl (by omega) (mg (a.length + b.length) a b []) (fun h2 => by
      have := okS_len h1
      have := okS_len h2
      refine Ev.back 1 0 (fun k _ => ?_) (impl_mg (a.length + b.length) a b [] (Nat.le_refl _) (by simp <;> omega))
      have c1 : ¬ (((1 + 1 : Nat) : Int) < (([a, b] : List (List S48)).length : Int)) := by simp
      simp only [impl_MergeStamped.l0, c1, if_false]))
  have e : merged a b = if okS a = true then (if okS b = true then mg (a.length + b.length) a b [] else ([], false)) else ([], false) := by
    unfold merged
    cases okS a <;> cases okS b <;> simp
  rw [e]
  exact h
theorem spec_merged (a b : List S48) (ha : a.length ≤ 1048576) (hb : b.length ≤ 1048576) : Ev (fun k => spec_MergeStamped.f k a b) (merged a b) := by
  obtain ⟨K1, h1⟩ := spec_okS a (by omega)
  obtain ⟨K2, h2⟩ := spec_okS b (by omega)
  cases e1 : okS a with
  | false =>
    refine Ev.at 1 (K1 + K2) (fun k hk => ?_)
    have h1' := h1 (k + 1) (by omega)
    simp only [e1] at h1'
    simp only [spec_MergeStamped.f, h1', Option.bind_some, Bool.false_eq_true, if_false, spec_MergeStamped.j0, if_true, merged, e1, false_and]
  | true =>
    cases e2 : okS b with
    | false =>
      refine Ev.at 1 (K1 + K2) (fun k hk => ?_)
      have h1' := h1 (k + 1) (by omega)
      have h2' := h2 (k + 1) (by omega)
      simp only [e1] at h1'
      simp only [e2] at h2'
      simp only [spec_MergeStamped.f, h1', h2', Option.bind_some, if_true, Bool.not_false, spec_MergeStamped.j0, merged, e1, e2, Bool.false_eq_true, and_false, if_false]
    | true =>
      have l1 := okS_len e1
      have l2 := okS_len e2
      have hm := spec_mg a b (by omega) (by omega) (a.length + b.length) 0 0 [] (by omega) (by omega) (by omega) (by simp)
      refine Ev.back 1 (K1 + K2) (fun k hk => ?_) (r := merged a b) (f := fun k => spec_MergeStamped.l0 k a b [] 0 0) ?_
      · have h1' := h1 (k + 1) (by omega)
        have h2' := h2 (k + 1) (by omega)
        simp only [e1] at h1'
        simp only [e2] at h2'
        simp only [spec_MergeStamped.f, h1', h2', Option.bind_some, if_true, Bool.not_true, spec_MergeStamped.j0, Bool.false_eq_true, if_false]
      · simp only [merged, e1, e2, and_self, if_true]
        exact hm
theorem FnExactMergeStamped : ∀ (l0 : List (S93)) (l1 : List (S93)), ((∀ (zl0 : S93), zl0 ∈ l0 → ((Lit.int .i64 zl0.f0).wf = true ∧ (Lit.int .i64 zl0.f1).wf = true ∧ (Lit.int .i64 zl0.f2).wf = true)) ∧ l0.length * 24 ≤ 140737488351232) → ((∀ (zl1 : S93), zl1 ∈ l1 → ((Lit.int .i64 zl1.f0).wf = true ∧ (Lit.int .i64 zl1.f1).wf = true ∧ (Lit.int .i64 zl1.f2).wf = true)) ∧ l1.length * 24 ≤ 140737488351232) → ∃ k, laws_FnExactMergeStamped.f k l0 l1 = some true := by
  intro a b ⟨_, hal⟩ ⟨_, hbl⟩
  have hs := szStampedS_eq a (by omega) 1048576 (by omega) (by omega)
  by_cases hna : (a.length : Int) > 1048576
  · exact ⟨0, by simp [laws_FnExactMergeStamped.f, hs, hna]⟩
  have hna' : ¬ ((1048576 : Int) - a.length < 0) := by omega
  have hs2 := szStampedS_eq b (by omega) (1048576 - a.length) (by omega) (by omega)
  by_cases hnb : (b.length : Int) > 1048576 - a.length
  · exact ⟨0, by simp only [laws_FnExactMergeStamped.f, hs, hna, if_false, Option.bind_some, hna', hs2, hnb, if_true]; simp⟩
  have hnb' : ¬ ((1048576 : Int) - a.length - b.length < 0) := by omega
  have hla : (a.map cStampedS).length = a.length := List.length_map ..
  have hlb : (b.map cStampedS).length = b.length := List.length_map ..
  obtain ⟨K0, h0⟩ := toStampedS_ev a (by omega)
  obtain ⟨K1, h1⟩ := toStampedS_ev b (by omega)
  generalize a.map cStampedS = A at *
  generalize b.map cStampedS = B at *
  obtain ⟨K3, h3⟩ := eqStampedS_ev A (by omega)
  obtain ⟨K4, h4⟩ := eqStampedS_ev B (by omega)
  obtain ⟨K2, h2⟩ := spec_merged A B (by omega) (by omega)
  obtain ⟨K5, h5⟩ := impl_merged A B (by omega) (by omega)
  have hG := merged_len A B
  generalize merged A B = R at *
  obtain ⟨G, v⟩ := R
  simp only at hG
  obtain ⟨K6, h6⟩ := eqStampedS_ev G (by omega)
  obtain ⟨K7, h7⟩ := markStampedS_ev A (by omega)
  obtain ⟨K10, h10⟩ := markStampedS_at B (by omega) (1 + ((3 : Nat) : Int) * (A.length : Int)) (by omega) (by omega)
  obtain ⟨K8, h8⟩ := markStampedS_ev G (by omega)
  obtain ⟨K9, h9⟩ := heldStampedS_ev G.length (by omega)
  have hneg : ¬ ((1 : Int) + ((3 : Nat) : Int) * (A.length : Int) + ((3 : Nat) : Int) * (B.length : Int) < 0) := by omega
  have hneg2 : ¬ ((1 : Int) + ((3 : Nat) : Int) * (G.length : Int) < 0) := by omega
  generalize ((List.range G.length).map fun (j : Nat) => (fun m => (⟨m, m + 1, m + 2⟩ : S48)) (1 + ((3 : Nat) : Int) * (j : Int))) = M at *
  have e2 : ∀ k, K9 ≤ k → laws_FnExactMergeStamped.j2 (k + 1) M (1 + ((3 : Nat) : Int) * (G.length : Int)) false = some true := by
    intro k hk
    have h9' := h9 k hk
    simp only at h9'
    simp only [laws_FnExactMergeStamped.j2, Bool.false_eq_true, if_false, h9', Option.bind_some, hneg2, if_true]
  have e1 : ∀ k, K0 + K1 + K5 + K6 + K8 + K9 ≤ k → laws_FnExactMergeStamped.j1 (k + 2) a b G v G false = some true := by
    intro k hk
    have h8' := h8 (k + 1) (by omega)
    have h9' := h9 (k + 1) (by omega)
    have h0' := h0 (k + 1) (by omega)
    have h1' := h1 (k + 1) (by omega)
    have h5' := h5 (k + 1) (by omega)
    have h6' := h6 (k + 1) (by omega)
    have e2' := e2 k (by omega)
    simp only at h8' h9' h0' h1' h5' h6'
    simp only [laws_FnExactMergeStamped.j1, Bool.false_eq_true, if_false, h8', h9', h0', h1', h5', h6', Option.bind_some, hneg2, if_true, bne_self_eq_false, e2']
  have e0 : ∀ k, K0 + K1 + K3 + K4 + K5 + K6 + K7 + K8 + K9 + K10 ≤ k → laws_FnExactMergeStamped.j0 (k + 3) a b G v A B G v false = some true := by
    intro k hk
    have h0' := h0 (k + 2) (by omega)
    have h1' := h1 (k + 2) (by omega)
    have h3' := h3 (k + 2) (by omega)
    have h4' := h4 (k + 2) (by omega)
    have h6' := h6 (k + 2) (by omega)
    have h7' := h7 (k + 2) (by omega)
    have h10' := h10 (k + 2) (by omega)
    have e1' := e1 k (by omega)
    simp only at h0' h1' h3' h4' h6' h7' h10'
    simp only [laws_FnExactMergeStamped.j0, Bool.false_eq_true, if_false, h0', h1', h3', h4', h6', h7', h10', Option.bind_some, hneg, if_true, bne_self_eq_false, e1']
  refine ⟨K0 + K1 + K2 + K3 + K4 + K5 + K6 + K7 + K8 + K9 + K10 + 3, ?_⟩
  have h0' := h0 (K0 + K1 + K2 + K3 + K4 + K5 + K6 + K7 + K8 + K9 + K10 + 3) (by omega)
  have h1' := h1 (K0 + K1 + K2 + K3 + K4 + K5 + K6 + K7 + K8 + K9 + K10 + 3) (by omega)
  have h2' := h2 (K0 + K1 + K2 + K3 + K4 + K5 + K6 + K7 + K8 + K9 + K10 + 3) (by omega)
  have h5' := h5 (K0 + K1 + K2 + K3 + K4 + K5 + K6 + K7 + K8 + K9 + K10 + 3) (by omega)
  have h6' := h6 (K0 + K1 + K2 + K3 + K4 + K5 + K6 + K7 + K8 + K9 + K10 + 3) (by omega)
  have e0' := e0 (K0 + K1 + K2 + K3 + K4 + K5 + K6 + K7 + K8 + K9 + K10) (by omega)
  simp only at h0' h1' h2' h5' h6'
  simp only [laws_FnExactMergeStamped.f, hs, hna, if_false, Option.bind_some, hna', hs2, hnb, hnb', h0', h1', h2', h5', h6', if_true, bne_self_eq_false, e0']

end Go.Proofs.Ytmlejakajcmbdaa.Pure
