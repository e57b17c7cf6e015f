/- 'FnMerge': for every input, of the two drawn lists of stamped words whichever stands first, what is merged is the same, and it has all of both. No condition. -/
import Derived.Test.YtmlejakajcmbdaaQFnMergex8
import Derived.Test.YtmlejakajcmbdaaPlain
namespace Go.Proofs.Ytmlejakajcmbdaa.Pure
open Go.RowKit Go.Proofs.Ytmlejakajcmbdaa.PFnMerge Go.Proofs.Ytmlejakajcmbdaa.Plain Go.Proofs.YtmlejakajcmbdaaW.PrintWords Go.Proofs.YtmlejakajcmbdaaW.PrintLast
set_option linter.unusedVariables false
set_option linter.unusedSimpArgs false

def bf (x y : S48) : Bool := decide (x.f0 < y.f0 ∨ (x.f0 = y.f0 ∧ x.f1 < y.f1))
theorem impl_bf (x y : S48) : impl_before.f x.f0 x.f1 x.f2 y.f0 y.f1 y.f2 = some (bf x y) := by
  unfold impl_before.f bf
  repeat' split
  all_goals (simp only [Option.some.injEq]; first | (rw [eq_comm, decide_eq_true_eq]; omega) | (rw [eq_comm, decide_eq_false_iff_not]; omega) | (apply decide_eq_decide.2; omega))
theorem spec_bf (x y : S48) : spec_l24Before.f x.f0 x.f1 x.f2 y.f0 y.f1 y.f2 = some (bf x y) := by
  unfold spec_l24Before.f bf
  repeat' split
  all_goals (simp only [Option.some.injEq]; first | (rw [eq_comm, decide_eq_true_eq]; omega) | (rw [eq_comm, decide_eq_false_iff_not]; omega) | (apply decide_eq_decide.2; omega))
/-- What is merged. -/
def mg : Nat → List S48 → List S48 → List S48 → List S48 × Bool
  | 0, _, _, acc => (acc, true)
  | _ + 1, [], [], acc => (acc, true)
  | d + 1, x :: a, [], acc => mg d a [] (acc ++ [x])
  | d + 1, [], y :: b, acc => mg d [] b (acc ++ [y])
  | d + 1, x :: a, y :: b, acc => if bf x y = true then mg d a (y :: b) (acc ++ [x]) else if bf y x = true then mg d (x :: a) b (acc ++ [y]) else if x.f2 = y.f2 then mg d a b (acc ++ [x]) else ([], false)
theorem mg_len : ∀ (d : Nat) (a b acc : List S48), (mg d a b acc).1.length ≤ acc.length + a.length + b.length
  | 0, a, b, acc => by simp only [mg]; omega
  | d + 1, [], [], acc => by simp [mg]
  | d + 1, x :: a, [], acc => by
    have := mg_len d a [] (acc ++ [x])
    simp only [mg, List.length_append, List.length_cons, List.length_nil] at *
    omega
  | d + 1, [], y :: b, acc => by
    have := mg_len d [] b (acc ++ [y])
    simp only [mg, List.length_append, List.length_cons, List.length_nil] at *
    omega
  | d + 1, x :: a, y :: b, acc => by
    have h1 := mg_len d a (y :: b) (acc ++ [x])
    have h2 := mg_len d (x :: a) b (acc ++ [y])
    have h3 := mg_len d a b (acc ++ [x])
    simp only [mg, List.length_append, List.length_cons, List.length_nil] at *
    repeat' split
    all_goals first | omega | simp
theorem bf_tie {x y : S48} (h1 : bf x y = false) (h2 : bf y x = false) : x.f0 = y.f0 ∧ x.f1 = y.f1 := by
  simp only [bf, decide_eq_false_iff_not] at h1 h2
  omega
theorem impl_mg : ∀ (d : Nat) (a b acc : List S48), a.length + b.length ≤ d → acc.length + a.length + b.length ≤ 1000000 → Ev (fun k => impl_MergeStamped.l2 k a b acc) (mg d a b acc)
  | 0, a, b, acc, h, _ => by
    obtain rfl : a = [] := List.length_eq_zero_iff.1 (by omega)
    obtain rfl : b = [] := List.length_eq_zero_iff.1 (by omega)
    exact Ev.at 2 0 (fun k _ => by simp [impl_MergeStamped.l2, impl_MergeStamped.j3, mg])
  | d + 1, [], [], acc, h, _ => Ev.at 2 0 (fun k _ => by simp [impl_MergeStamped.l2, impl_MergeStamped.j3, mg])
  | d + 1, x :: a, [], acc, h, hb => by
    have ih := impl_mg d a [] (acc ++ [x]) (by simp at h ⊢; omega) (by simp at hb ⊢; omega)
    simp only [List.length_cons, List.length_nil] at h hb
    have l1 : acc.length < 5864062014805 := by omega
    refine Ev.back 3 0 (fun k _ => ?_) ih
    have c1 : (((x :: a).length : Nat) : Int) > 0 := by simp <;> omega
    have c2 : (0 : Int) < (((x :: a).length : Nat) : Int) := by simp <;> omega
    have c3 : (1 : Int) ≤ (((x :: a).length : Nat) : Int) := by simp <;> omega
    simp only [impl_MergeStamped.l2, c1, if_true, impl_MergeStamped.j3, impl_MergeStamped.j4, c2, c3, l1, List.length_nil, Int.ofNat_zero, Int.natCast_zero]
    rfl
  | d + 1, [], y :: b, acc, h, hb => by
    have ih := impl_mg d [] b (acc ++ [y]) (by simp at h ⊢; omega) (by simp at hb ⊢; omega)
    simp only [List.length_cons, List.length_nil] at h hb
    have l1 : acc.length < 5864062014805 := by omega
    refine Ev.back 4 0 (fun k _ => ?_) ih
    have c0 : ¬ ((([] : List S48).length : Nat) : Int) > 0 := by simp
    have c0' : ((([] : List S48).length : Nat) : Int) = 0 := by simp
    have c1 : decide ((((y :: b).length : Nat) : Int) > 0) = true := by simp <;> omega
    have c2 : (0 : Int) < (((y :: b).length : Nat) : Int) := by simp <;> omega
    have c3 : (1 : Int) ≤ (((y :: b).length : Nat) : Int) := by simp <;> omega
    have c4 : ¬ (((y :: b).length : Nat) : Int) = 0 := by simp <;> omega
    simp only [impl_MergeStamped.l2, c0, if_false, c1, impl_MergeStamped.j3, if_true, c4, impl_MergeStamped.j4, Bool.false_eq_true, c0', impl_MergeStamped.j5, c2, c3, l1]
    rfl
  | d + 1, x :: a, y :: b, acc, h, hb => by
    have i1 := impl_mg d a (y :: b) (acc ++ [x]) (by simp at h ⊢; omega) (by simp at hb ⊢; omega)
    have i2 := impl_mg d (x :: a) b (acc ++ [y]) (by simp at h ⊢; omega) (by simp at hb ⊢; omega)
    have i3 := impl_mg d a b (acc ++ [x]) (by simp at h ⊢; omega) (by simp at hb ⊢; omega)
    simp only [List.length_cons] at h hb
    have l1 : acc.length < 5864062014805 := by omega
    have c1 : (((x :: a).length : Nat) : Int) > 0 := by simp <;> omega
    have c2 : (0 : Int) < (((x :: a).length : Nat) : Int) := by simp <;> omega
    have c3 : (1 : Int) ≤ (((x :: a).length : Nat) : Int) := by simp <;> omega
    have c3' : ¬ (((x :: a).length : Nat) : Int) = 0 := by simp <;> omega
    have c4 : ¬ (((y :: b).length : Nat) : Int) = 0 := by simp <;> omega
    have c5 : (0 : Int) < (((y :: b).length : Nat) : Int) := by simp <;> omega
    have c6 : (1 : Int) ≤ (((y :: b).length : Nat) : Int) := by simp <;> omega
    have r1 : rd_T48 (x :: a) 0 = x := rfl
    have r2 : rd_T48 (y :: b) 0 = y := rfl
    have start : ∀ k, impl_MergeStamped.l2 (k + 2) (x :: a) (y :: b) acc = impl_MergeStamped.j4 k (x :: a) (y :: b) acc (bf x y) := by
      intro k
      simp only [impl_MergeStamped.l2, c1, if_true, impl_MergeStamped.j3, c4, if_false, c2, c5, r1, r2, impl_bf, Option.bind_some]
    have hd : mg (d + 1) (x :: a) (y :: b) acc = if bf x y = true then mg d a (y :: b) (acc ++ [x]) else if bf y x = true then mg d (x :: a) b (acc ++ [y]) else if x.f2 = y.f2 then mg d a b (acc ++ [x]) else ([], false) := rfl
    rw [hd]
    cases hxy : bf x y with
    | true =>
      simp only [if_true]
      refine Ev.back 3 0 (fun k _ => ?_) i1
      rw [start, hxy]
      simp only [impl_MergeStamped.j4, if_true, c2, c3, l1, r1]
      rfl
    | false =>
      simp only [Bool.false_eq_true, if_false]
      have mid : ∀ k, impl_MergeStamped.l2 (k + 3) (x :: a) (y :: b) acc = impl_MergeStamped.j5 k (x :: a) (y :: b) acc (bf y x) := by
        intro k
        rw [start, hxy]
        simp only [impl_MergeStamped.j4, Bool.false_eq_true, if_false, c3', c2, c5, if_true, r1, r2, impl_bf, Option.bind_some]
      cases hyx : bf y x with
      | true =>
        simp only [if_true]
        refine Ev.back 4 0 (fun k _ => ?_) i2
        rw [mid, hyx]
        simp only [impl_MergeStamped.j5, if_true, c5, c6, l1, r2]
        rfl
      | false =>
        simp only [Bool.false_eq_true, if_false]
        have ht := bf_tie hxy hyx
        by_cases hw : x.f2 = y.f2
        · rw [if_pos hw]
          refine Ev.back 4 0 (fun k _ => ?_) i3
          rw [mid, hyx]
          have hne : (!((x.f0) == (y.f0)) || (!((x.f1) == (y.f1)) || (!((x.f2) == (y.f2))))) = false := by simp [ht.1, ht.2, hw]
          simp only [impl_MergeStamped.j5, Bool.false_eq_true, if_false, c2, c5, if_true, r1, r2, hne, l1, c3, c6]
          rfl
        · rw [if_neg hw]
          refine Ev.at 4 0 (fun k _ => ?_)
          rw [mid, hyx]
          have hne : (!((x.f0) == (y.f0)) || (!((x.f1) == (y.f1)) || (!((x.f2) == (y.f2))))) = true := by simp [hw]
          simp only [impl_MergeStamped.j5, Bool.false_eq_true, if_false, c2, c5, if_true, r1, r2, hne]
theorem spec_mg (a b : List S48) (ha : a.length ≤ 1000) (hb : b.length ≤ 1000) : ∀ (d i j : Nat) (acc : List S48), i ≤ a.length → j ≤ b.length → (a.length - i) + (b.length - j) ≤ d → acc.length ≤ i + j →
    Ev (fun k => spec_MergeStamped.l0 k a b acc (i : Int) (j : Int)) (mg d (a.drop i) (b.drop j) acc) := by
  intro d
  induction d with
  | zero =>
    intro i j acc hi hj h hacc
    obtain rfl : i = a.length := by omega
    obtain rfl : j = b.length := by omega
    refine Ev.at 2 0 (fun k _ => ?_)
    have e1 : ¬ ((a.length : Int) < (a.length : Int)) := by omega
    have e2 : decide ((b.length : Int) < (b.length : Int)) = false := by simp
    simp only [spec_MergeStamped.l0, e1, if_false, e2, spec_MergeStamped.j2, Bool.false_eq_true, mg]
  | succ d ih =>
    intro i j acc hi hj h hacc
    have l1 : acc.length < 5864062014805 := by omega
    have p1 : (0 : Int) ≤ (i : Int) := by omega
    have p2 : (0 : Int) ≤ (j : Int) := by omega
    cases hA : a.drop i with
    | nil =>
      have hA' := drop_nil hA
      obtain rfl : i = a.length := by omega
      have e1 : ¬ ((a.length : Int) < (a.length : Int)) := by omega
      cases hB : b.drop j with
      | nil =>
        have hB' := drop_nil hB
        obtain rfl : j = b.length := by omega
        refine Ev.at 2 0 (fun k _ => ?_)
        have e2 : decide ((b.length : Int) < (b.length : Int)) = false := by simp
        simp only [spec_MergeStamped.l0, e1, if_false, e2, spec_MergeStamped.j2, Bool.false_eq_true, mg]
      | cons y b' =>
        obtain ⟨hj1, hj2, hj3⟩ := drop_cons hB
        have e2 : decide ((j : Int) < (b.length : Int)) = true := by rw [decide_eq_true_eq]; omega
        have e3 : ¬ ((j : Int) = (b.length : Int)) := by omega
        have e4 : (j : Int) < (b.length : Int) := by omega
        have r2 : rd_T48 b (j : Int) = y := by simp [rd_T48, hj2]
        have := ih a.length (j + 1) (acc ++ [y]) (by omega) (by omega) (by omega) (by simp <;> omega)
        rw [hA, hj3] at this
        refine Ev.back 4 0 (fun k _ => ?_) this
        simp only [spec_MergeStamped.l0, e1, if_false, decide_true, spec_MergeStamped.j2, if_true, e3, spec_MergeStamped.j3, Bool.false_eq_true, spec_MergeStamped.j4, p2, e4, l1, r2, wrap_succ j (by omega)]
    | cons x a' =>
      obtain ⟨hi1, hi2, hi3⟩ := drop_cons hA
      have e1 : (i : Int) < (a.length : Int) := by omega
      have e1' : ¬ ((i : Int) = (a.length : Int)) := by omega
      have r1 : rd_T48 a (i : Int) = x := by simp [rd_T48, hi2]
      cases hB : b.drop j with
      | nil =>
        have hB' := drop_nil hB
        obtain rfl : j = b.length := by omega
        have := ih (i + 1) b.length (acc ++ [x]) (by omega) (by omega) (by omega) (by simp <;> omega)
        rw [hi3, hB] at this
        refine Ev.back 3 0 (fun k _ => ?_) this
        simp only [spec_MergeStamped.l0, e1, if_true, spec_MergeStamped.j2, spec_MergeStamped.j3, p1, l1, r1, wrap_succ i (by omega)]
      | cons y b' =>
        obtain ⟨hj1, hj2, hj3⟩ := drop_cons hB
        have e3 : ¬ ((j : Int) = (b.length : Int)) := by omega
        have e4 : (j : Int) < (b.length : Int) := by omega
        have r2 : rd_T48 b (j : Int) = y := by simp [rd_T48, hj2]
        have i1 := ih (i + 1) j (acc ++ [x]) (by omega) (by omega) (by omega) (by simp <;> omega)
        have i2 := ih i (j + 1) (acc ++ [y]) (by omega) (by omega) (by omega) (by simp <;> omega)
        have i3 := ih (i + 1) (j + 1) (acc ++ [x]) (by omega) (by omega) (by omega) (by simp <;> omega)
        rw [hi3, hB] at i1
        rw [hA, hj3] at i2
        rw [hi3, hj3] at i3
        have hd : mg (d + 1) (x :: a') (y :: b') acc = if bf x y = true then mg d a' (y :: b') (acc ++ [x]) else if bf y x = true then mg d (x :: a') b' (acc ++ [y]) else if x.f2 = y.f2 then mg d a' b' (acc ++ [x]) else ([], false) := rfl
        rw [hd]
        have start : ∀ k, spec_MergeStamped.l0 (k + 2) a b acc (i : Int) (j : Int) = spec_MergeStamped.j3 k a b acc (i : Int) (j : Int) (bf x y) := by
          intro k
          simp only [spec_MergeStamped.l0, e1, if_true, spec_MergeStamped.j2, e3, if_false, p1, p2, e4, r1, r2, spec_bf, Option.bind_some]
        cases hxy : bf x y with
        | true =>
          simp only [if_true]
          refine Ev.back 3 0 (fun k _ => ?_) i1
          rw [start, hxy]
          simp only [spec_MergeStamped.j3, if_true, p1, e1, l1, r1, wrap_succ i (by omega)]
        | false =>
          simp only [Bool.false_eq_true, if_false]
          have mid : ∀ k, spec_MergeStamped.l0 (k + 3) a b acc (i : Int) (j : Int) = spec_MergeStamped.j4 k a b acc (i : Int) (j : Int) (bf y x) := by
            intro k
            rw [start, hxy]
            simp only [spec_MergeStamped.j3, Bool.false_eq_true, if_false, e1', p1, p2, e1, e4, if_true, r1, r2, spec_bf, Option.bind_some]
          cases hyx : bf y x with
          | true =>
            simp only [if_true]
            refine Ev.back 4 0 (fun k _ => ?_) i2
            rw [mid, hyx]
            simp only [spec_MergeStamped.j4, if_true, p2, e4, l1, r2, wrap_succ j (by omega)]
          | false =>
            simp only [Bool.false_eq_true, if_false]
            by_cases hw : x.f2 = y.f2
            · rw [if_pos hw]
              refine Ev.back 4 0 (fun k _ => ?_) i3
              rw [mid, hyx]
              simp only [spec_MergeStamped.j4, Bool.false_eq_true, if_false, p1, p2, e1, e4, if_true, r1, r2, hw, l1, wrap_succ i (by omega), wrap_succ j (by omega)]
              rw [← hw]
            · rw [if_neg hw]
              refine Ev.at 4 0 (fun k _ => ?_)
              rw [mid, hyx]
              simp only [spec_MergeStamped.j4, Bool.false_eq_true, if_false, p1, p2, e1, e4, if_true, r1, r2, hw]
def okS (l : List S48) : Bool := decide (l.length ≤ 40) && (List.range' 1 (l.length - 1)).all (fun i => bf (rd_T48 l ((i - 1 : Nat) : Int)) (rd_T48 l (i : Int)))
theorem spec_okS (l : List S48) (hb : l.length ≤ 1099511627776) : Ev (fun k => spec_l24Stamped.f k l) (okS l) := by
  by_cases h40 : l.length ≤ 40
  · have c0 : ¬ ((l.length : Int) > 40) := by omega
    have hl : Ev (fun k => spec_l24Stamped.l0 k l 1) (if (List.range' 1 (l.length - 1)).all (fun i => bf (rd_T48 l ((i - 1 : Nat) : Int)) (rd_T48 l (i : Int))) = true then true else false) := by
      by_cases hz : l.length = 0
      · refine Ev.at 1 0 (fun k _ => ?_)
        have c1 : ¬ ((1 : Int) < (l.length : Int)) := by omega
        simp [spec_l24Stamped.l0, hz]
      · -- the words from the second on
        have hstep : ∀ i : Nat, 1 ≤ i → i < l.length → ∀ k, spec_l24Stamped.l0 (k + 1) l (i : Int) = if bf (rd_T48 l ((i - 1 : Nat) : Int)) (rd_T48 l (i : Int)) = true then spec_l24Stamped.l0 k l ((i + 1 : Nat) : Int) else some false := by
          intro i h1 hi k
          have c1 : (i : Int) < (l.length : Int) := by omega
          have c2 : (0 : Int) ≤ ((i - 1 : Nat) : Int) := by omega
          have c3 : ((i - 1 : Nat) : Int) < (l.length : Int) := by omega
          have c4 : (0 : Int) ≤ (i : Int) := by omega
          simp only [spec_l24Stamped.l0, c1, if_true, wrap_pred i (by omega) (by omega), c2, c3, c4, spec_bf, Option.bind_some, wrap_succ i (by omega)]
        have key : ∀ (d i : Nat), 1 ≤ i → i + d = l.length → Ev (fun k => spec_l24Stamped.l0 k l (i : Int)) (if (List.range' i d).all (fun i => bf (rd_T48 l ((i - 1 : Nat) : Int)) (rd_T48 l (i : Int))) = true then true else false) := by
          intro d
          induction d with
          | zero =>
            intro i h1 hi
            refine Ev.at 1 0 (fun k _ => ?_)
            have c1 : ¬ ((i : Int) < (l.length : Int)) := by omega
            simp [spec_l24Stamped.l0, c1]
          | succ d ih =>
            intro i h1 hi
            rw [List.range'_succ, List.all_cons]
            cases hp : bf (rd_T48 l ((i - 1 : Nat) : Int)) (rd_T48 l (i : Int)) with
            | true =>
              simp only [Bool.true_and]
              exact Ev.back 1 0 (fun k _ => by rw [hstep i h1 (by omega) k, if_pos hp]) (ih (i + 1) (by omega) (by omega))
            | false =>
              simp only [Bool.false_and, Bool.false_eq_true, if_false]
              exact Ev.at 1 0 (fun k _ => by rw [hstep i h1 (by omega) k, hp]; rfl)
        exact key (l.length - 1) 1 (by omega) (by omega)
    obtain ⟨K, hK⟩ := hl
    refine ⟨K, fun k hk => ?_⟩
    have hK' := hK k hk
    simp only at hK'
    simp only [spec_l24Stamped.f, c0, if_false, hK', okS, decide_eq_true h40, Bool.true_and]
    cases (List.range' 1 (l.length - 1)).all (fun (i : Nat) => bf (rd_T48 l ((i - 1 : Nat) : Int)) (rd_T48 l (i : Int))) <;> rfl
  · have c0 : ((l.length : Int) > 40) := by omega
    exact ⟨0, fun k _ => by simp only [spec_l24Stamped.f, c0, if_true, okS, decide_eq_false h40, Bool.false_and]⟩
theorem impl_okS (a b : List S48) (y : List (List S48)) (l : List S48) (z : Nat) (hz : z < y.length) (hzb : y.length = 2) (hy : rd_L3 y (z : Int) = l) (hb : l.length ≤ 1099511627776) (r : List S48 × Bool)
    (hr : okS l = true → Ev (fun k => impl_MergeStamped.l0 k a b y (y.length : Int) ((z + 1 : Nat) : Int)) r) :
    Ev (fun k => impl_MergeStamped.l0 k a b y (y.length : Int) (z : Int)) (if okS l = true then r else ([], false)) := by
  have d1 : (z : Int) < (y.length : Int) := by omega
  have d2 : (0 : Int) ≤ (z : Int) := by omega
  by_cases h40 : l.length ≤ 40
  · have c0 : ¬ ((l.length : Int) > 40) := by omega
    have hstep : ∀ i : Nat, 1 ≤ i → i < l.length → ∀ k, impl_MergeStamped.l1 (k + 1) a b l (i : Int) y (y.length : Int) (z : Int) = if bf (rd_T48 l ((i - 1 : Nat) : Int)) (rd_T48 l (i : Int)) = true then impl_MergeStamped.l1 k a b l ((i + 1 : Nat) : Int) y (y.length : Int) (z : Int) else some ([], false) := by
      intro i h1 hi k
      have c1 : (i : Int) < (l.length : Int) := by omega
      have c2 : (0 : Int) ≤ ((i - 1 : Nat) : Int) := by omega
      have c3 : ((i - 1 : Nat) : Int) < (l.length : Int) := by omega
      have c4 : (0 : Int) ≤ (i : Int) := by omega
      simp only [impl_MergeStamped.l1, c1, if_true, wrap_pred i (by omega) (by omega), c2, c3, c4, impl_bf, Option.bind_some, wrap_succ i (by omega)]
    have key : ∀ (d i : Nat), 1 ≤ i → (i + d = l.length ∨ (d = 0 ∧ l.length ≤ i)) → ((List.range' i d).all (fun i => bf (rd_T48 l ((i - 1 : Nat) : Int)) (rd_T48 l (i : Int))) = true → Ev (fun k => impl_MergeStamped.l0 k a b y (y.length : Int) ((z + 1 : Nat) : Int)) r) →
        Ev (fun k => impl_MergeStamped.l1 k a b l (i : Int) y (y.length : Int) (z : Int)) (if (List.range' i d).all (fun i => bf (rd_T48 l ((i - 1 : Nat) : Int)) (rd_T48 l (i : Int))) = true then r else ([], false)) := by
      intro d
      induction d with
      | zero =>
        intro i h1 hi hr
        have := hr (by simp)
        have c1 : ¬ ((i : Int) < (l.length : Int)) := by omega
        simp only [List.range'_zero, List.all_nil, if_true]
        exact Ev.back 1 0 (fun k _ => by simp only [impl_MergeStamped.l1, c1, if_false, wrap_succ z (by omega)]) this
      | succ d ih =>
        intro i h1 hi hr
        rw [List.range'_succ, List.all_cons] at hr ⊢
        cases hp : bf (rd_T48 l ((i - 1 : Nat) : Int)) (rd_T48 l (i : Int)) with
        | true =>
          simp only [hp, Bool.true_and] at hr
          simp only [Bool.true_and]
          exact Ev.back 1 0 (fun k _ => by rw [hstep i h1 (by omega) k, if_pos hp]) (ih (i + 1) (by omega) (by omega) hr)
        | false =>
          simp only [Bool.false_and, Bool.false_eq_true, if_false]
          exact Ev.at 1 0 (fun k _ => by rw [hstep i h1 (by omega) k, hp]; rfl)
    have hk := key (l.length - 1) 1 (by omega) (by omega) (fun h => hr (by simp only [okS, decide_eq_true h40, Bool.true_and]; exact h))
    have e : (if okS l = true then r else ([], false)) = (if (List.range' 1 (l.length - 1)).all (fun (i : Nat) => bf (rd_T48 l ((i - 1 : Nat) : Int)) (rd_T48 l (i : Int))) = true then r else ([], false)) := by simp only [okS, decide_eq_true h40, Bool.true_and]
    rw [e]
    refine Ev.back 1 0 (fun k _ => ?_) hk
    simp only [impl_MergeStamped.l0, d1, d2, if_true, hy, c0, if_false]
    rfl
  · have c0 : ((l.length : Int) > 40) := by omega
    have e : okS l = false := by simp only [okS, decide_eq_false h40, Bool.false_and]
    rw [e]
    simp only [Bool.false_eq_true, if_false]
    exact Ev.at 1 0 (fun k _ => by simp only [impl_MergeStamped.l0, d1, d2, if_true, hy, c0])
def merged (a b : List S48) : List S48 × Bool := if okS a = true ∧ okS b = true then mg (a.length + b.length) a b [] else ([], false)
theorem okS_len {l : List S48} (h : okS l = true) : l.length ≤ 40 := by
  simp only [okS, Bool.and_eq_true, decide_eq_true_eq] at h
  exact h.1
theorem merged_len (a b : List S48) : (merged a b).1.length ≤ 80 := by
  unfold merged
  split
  · rename_i h
    have := mg_len (a.length + b.length) a b []
    have h1 := okS_len h.1
    have h2 := okS_len h.2
    simp only [List.length_nil] at this
    omega
  · simp
theorem impl_merged (a b : List S48) (ha : a.length ≤ 1048576) (hb : b.length ≤ 1048576) : Ev (fun k => impl_MergeStamped.f k a b) (merged a b) := by
  have y2 : (([a, b] : List (List S48)).length : Int) = 2 := rfl
  have h := impl_okS a b [a, b] a 0 (by simp) rfl rfl (by omega) (if okS b = true then mg (a.length + b.length) a b [] else ([], false)) (fun h1 =>
    impl_okS a b [a, b] b 1 (by simp) rfl rfl (by omega) (mg (a.length + b.length) a b []) (fun h2 => by
      have := okS_len h1
      have := okS_len h2
      refine Ev.back 1 0 (fun k _ => ?_) (impl_mg (a.length + b.length) a b [] (Nat.le_refl _) (by simp <;> omega))
      have c1 : ¬ (((1 + 1 : Nat) : Int) < (([a, b] : List (List S48)).length : Int)) := by simp
      simp only [impl_MergeStamped.l0, c1, if_false]))
  have e : merged a b = if okS a = true then (if okS b = true then mg (a.length + b.length) a b [] else ([], false)) else ([], false) := by
    unfold merged
    cases okS a <;> cases okS b <;> simp
  rw [e]
  exact h
theorem spec_merged (a b : List S48) (ha : a.length ≤ 1048576) (hb : b.length ≤ 1048576) : Ev (fun k => spec_MergeStamped.f k a b) (merged a b) := by
  obtain ⟨K1, h1⟩ := spec_okS a (by omega)
  obtain ⟨K2, h2⟩ := spec_okS b (by omega)
  cases e1 : okS a with
  | false =>
    refine Ev.at 1 (K1 + K2) (fun k hk => ?_)
    have h1' := h1 (k + 1) (by omega)
    simp only [e1] at h1'
    simp only [spec_MergeStamped.f, h1', Option.bind_some, Bool.false_eq_true, if_false, spec_MergeStamped.j0, if_true, merged, e1, false_and]
  | true =>
    cases e2 : okS b with
    | false =>
      refine Ev.at 1 (K1 + K2) (fun k hk => ?_)
      have h1' := h1 (k + 1) (by omega)
      have h2' := h2 (k + 1) (by omega)
      simp only [e1] at h1'
      simp only [e2] at h2'
      simp only [spec_MergeStamped.f, h1', h2', Option.bind_some, if_true, Bool.not_false, spec_MergeStamped.j0, merged, e1, e2, Bool.false_eq_true, and_false, if_false]
    | true =>
      have l1 := okS_len e1
      have l2 := okS_len e2
      have hm := spec_mg a b (by omega) (by omega) (a.length + b.length) 0 0 [] (by omega) (by omega) (by omega) (by simp)
      refine Ev.back 1 (K1 + K2) (fun k hk => ?_) (r := merged a b) (f := fun k => spec_MergeStamped.l0 k a b [] 0 0) ?_
      · have h1' := h1 (k + 1) (by omega)
        have h2' := h2 (k + 1) (by omega)
        simp only [e1] at h1'
        simp only [e2] at h2'
        simp only [spec_MergeStamped.f, h1', h2', Option.bind_some, if_true, Bool.not_true, spec_MergeStamped.j0, Bool.false_eq_true, if_false]
      · simp only [merged, e1, e2, and_self, if_true]
        exact hm
theorem wraps_u64 (n : Int) (h₀ : 0 ≤ n) (h₁ : n < 2 ^ 64) : IntKind.u64.wrap n = n := by rw [IntKind.wrap_u64]; omega
theorem u64_rng (n : Int) : 0 ≤ IntKind.u64.wrap n ∧ IntKind.u64.wrap n < 18446744073709551616 := by rw [IntKind.wrap_u64]; omega
theorem u64_and255 (x : Int) (h₀ : 0 ≤ x) (h₁ : x < 2 ^ 64) : Go.bits .and .u64 x 255 = x % 256 := bits_mask .u64 64 (by decide) wraps_u64 8 (by decide) x h₀ h₁
/-- The bytes that the draws read. -/
def Bytes (c : List Int) : Prop := ∀ x ∈ c, 0 ≤ x ∧ x ≤ 255
theorem bytes_rd (c : List Int) (h : Bytes c) (i : Int) : 0 ≤ rd c i ∧ rd c i ≤ 255 := by
  unfold rd
  rw [List.getD_eq_getElem?_getD]
  by_cases hi : i.toNat < c.length
  · rw [List.getElem?_eq_getElem hi]
    exact h _ (List.getElem_mem _)
  · rw [List.getElem?_eq_none (by omega)]
    simp
theorem seed_byte (u : Int) : 0 ≤ wrap64 (Go.bits .and .u64 ((IntKind.u64.wrap u) / 1099511627776) 255) ∧ wrap64 (Go.bits .and .u64 ((IntKind.u64.wrap u) / 1099511627776) 255) ≤ 255 := by
  have h := u64_rng u
  have h1 : 0 ≤ (IntKind.u64.wrap u) / 1099511627776 := by omega
  have h2 : (IntKind.u64.wrap u) / 1099511627776 < 2 ^ 64 := by omega
  rw [u64_and255 _ h1 h2, wrap_in (by omega) (by omega)]
  omega
theorem next_ok (c : List Int) (hc : Bytes c) (a s : Int) (h0 : 0 ≤ a) (h1 : a < 4611686018427387904) : ∃ r s', spec_l1Cur_next.f c a s = some (r, a + 1, s') ∧ 0 ≤ r ∧ r ≤ 255 := by
  have hw : wrap64 (a + 1) = a + 1 := wrap_in (by omega) (by omega)
  have hb := bytes_rd c hc a
  have hwb : wrap64 (rd c a) = rd c a := wrap_in (by omega) (by omega)
  unfold spec_l1Cur_next.f
  simp only [hw, h0, if_true]
  split
  · split
    · exact ⟨_, _, rfl, by omega, by omega⟩
    · exact ⟨_, _, rfl, seed_byte _⟩
  · split
    · exact ⟨_, _, rfl, by omega, by omega⟩
    · exact ⟨_, _, rfl, seed_byte _⟩
theorem pick_ok (c : List Int) (hc : Bytes c) (a s n : Int) (h0 : 0 ≤ a) (h1 : a < 4611686018427387900) (hn : n < 9223372036854775808) :
    ∃ r a' s', spec_l1Cur_pick.f c a s n = some (r, a', s') ∧ 0 ≤ r ∧ (r < n ∨ r = 0) ∧ a ≤ a' ∧ a' ≤ a + 2 := by
  unfold spec_l1Cur_pick.f
  split
  · exact ⟨0, a, s, rfl, by omega, by omega, by omega, by omega⟩
  · obtain ⟨r1, s1, e1, h2, h3⟩ := next_ok c hc a s h0 (by omega)
    rw [e1]
    simp only [Option.bind_some]
    split
    · obtain ⟨r2, s2, e2, h4, h5⟩ := next_ok c hc (a + 1) s1 (by omega) (by omega)
      rw [e2]
      simp only [Option.bind_some]
      rw [if_neg (by omega)]
      have w1 : wrap64 (r1 * 256) = r1 * 256 := wrap_in (by omega) (by omega)
      have w2 : wrap64 (r1 * 256 + r2) = r1 * 256 + r2 := wrap_in (by omega) (by omega)
      rw [w1, w2]
      refine ⟨_, _, _, rfl, ?_, ?_, by omega, by omega⟩
      · rw [Int.tmod_eq_emod_of_nonneg (by omega)]
        exact Int.emod_nonneg _ (by omega)
      · rw [Int.tmod_eq_emod_of_nonneg (by omega)]
        exact .inl (Int.emod_lt_of_pos _ (by omega))
    · rw [if_neg (by omega)]
      refine ⟨_, _, _, rfl, ?_, ?_, by omega, by omega⟩
      · rw [Int.tmod_eq_emod_of_nonneg (by omega)]
        exact Int.emod_nonneg _ (by omega)
      · rw [Int.tmod_eq_emod_of_nonneg (by omega)]
        exact .inl (Int.emod_lt_of_pos _ (by omega))
theorem one_ok (c : List Int) (hc : Bytes c) (a s n : Int) (h0 : 0 ≤ a) (h1 : a < 4611686018427387900) (hn : n < 9223372036854775808) : ∃ b a' s', spec_l1Cur_one.f c a s n = some (b, a', s') ∧ a ≤ a' ∧ a' ≤ a + 2 := by
  obtain ⟨r, a', s', e, _, _, h2, h3⟩ := pick_ok c hc a s n h0 h1 hn
  unfold spec_l1Cur_one.f
  rw [e]
  exact ⟨_, _, _, rfl, h2, h3⟩
theorem mg_sym : ∀ (d : Nat) (a b acc : List S48), mg d a b acc = mg d b a acc
  | 0, _, _, _ => rfl
  | d + 1, [], [], _ => rfl
  | d + 1, x :: a, [], acc => mg_sym d a [] (acc ++ [x])
  | d + 1, [], y :: b, acc => mg_sym d [] b (acc ++ [y])
  | d + 1, x :: a, y :: b, acc => by
    have h1 := mg_sym d a (y :: b) (acc ++ [x])
    have h2 := mg_sym d (x :: a) b (acc ++ [y])
    have h3 := mg_sym d a b (acc ++ [x])
    simp only [mg]
    cases hxy : bf x y with
    | true =>
      have hyx : bf y x = false := by
        simp only [bf, decide_eq_true_eq] at hxy
        simp only [bf, decide_eq_false_iff_not]
        omega
      simp only [hyx, if_true, Bool.false_eq_true, if_false]
      exact h1
    | false =>
      cases hyx : bf y x with
      | true =>
        simp only [if_true, Bool.false_eq_true, if_false]
        exact h2
      | false =>
        simp only [Bool.false_eq_true, if_false]
        have ht := bf_tie hxy hyx
        by_cases hw : x.f2 = y.f2
        · have e : x = y := by
            cases x
            cases y
            simp only at ht hw
            simp only [S48.mk.injEq]
            exact ⟨ht.1, ht.2, hw⟩
          rw [if_pos hw, if_pos hw.symm, h3, e]
        · rw [if_neg hw, if_neg (fun h => hw h.symm)]
theorem mg_has : ∀ (d : Nat) (a b acc : List S48), a.length + b.length ≤ d → (mg d a b acc).2 = true → ∀ p, (p ∈ acc ∨ p ∈ a ∨ p ∈ b) → p ∈ (mg d a b acc).1
  | 0, a, b, acc, h, _, p, hp => by
    obtain rfl : a = [] := List.length_eq_zero_iff.1 (by omega)
    obtain rfl : b = [] := List.length_eq_zero_iff.1 (by omega)
    simpa [mg] using hp
  | d + 1, [], [], acc, h, _, p, hp => by simpa [mg] using hp
  | d + 1, x :: a, [], acc, h, hr, p, hp => by
    refine mg_has d a [] (acc ++ [x]) (by simp at h ⊢; omega) hr p ?_
    simp only [List.mem_append, List.mem_cons, List.not_mem_nil, or_false, false_or] at hp ⊢
    rcases hp with h | h | h
    · exact .inl (.inl h)
    · exact .inl (.inr h)
    · exact .inr h
  | d + 1, [], y :: b, acc, h, hr, p, hp => by
    refine mg_has d [] b (acc ++ [y]) (by simp at h ⊢; omega) hr p ?_
    simp only [List.mem_append, List.mem_cons, List.not_mem_nil, or_false, false_or] at hp ⊢
    rcases hp with h | h | h
    · exact .inl (.inl h)
    · exact .inl (.inr h)
    · exact .inr h
  | d + 1, x :: a, y :: b, acc, h, hr, p, hp => by
    have i1 := mg_has d a (y :: b) (acc ++ [x]) (by simp at h ⊢; omega)
    have i2 := mg_has d (x :: a) b (acc ++ [y]) (by simp at h ⊢; omega)
    have i3 := mg_has d a b (acc ++ [x]) (by simp at h ⊢; omega)
    simp only [List.mem_append, List.mem_cons, List.not_mem_nil, or_false, false_or] at i1 i2 i3 hp
    simp only [mg] at hr ⊢
    cases hxy : bf x y with
    | true =>
      simp only [hxy, if_true] at hr ⊢
      refine i1 hr p ?_
      rcases hp with h | (h | h) | (h | h)
      · exact .inl (.inl h)
      · exact .inl (.inr h)
      · exact .inr (.inl h)
      · exact .inr (.inr (.inl h))
      · exact .inr (.inr (.inr h))
    | false =>
      simp only [hxy, Bool.false_eq_true, if_false] at hr ⊢
      cases hyx : bf y x with
      | true =>
        simp only [hyx, if_true] at hr ⊢
        refine i2 hr p ?_
        rcases hp with h | (h | h) | (h | h)
        · exact .inl (.inl h)
        · exact .inr (.inl (.inl h))
        · exact .inr (.inl (.inr h))
        · exact .inl (.inr h)
        · exact .inr (.inr h)
      | false =>
        simp only [hyx, Bool.false_eq_true, if_false] at hr ⊢
        have ht := bf_tie hxy hyx
        by_cases hw : x.f2 = y.f2
        · have e : y = x := by
            cases x
            cases y
            simp only at ht hw
            simp only [S48.mk.injEq]
            exact ⟨ht.1.symm, ht.2.symm, hw.symm⟩
          rw [if_pos hw] at hr ⊢
          refine i3 hr p ?_
          rcases hp with h | (h | h) | (h | h)
          · exact .inl (.inl h)
          · exact .inl (.inr h)
          · exact .inr (.inl h)
          · exact .inl (.inr (h.trans e))
          · exact .inr (.inr h)
        · rw [if_neg hw] at hr
          cases hr
def eqS (p r : S48) : Bool := p.f0 == r.f0 && (p.f1 == r.f1 && (p.f2 == r.f2))
theorem has_ev (x a : List S48) (hx : x.length ≤ 1000000) (ha : a.length ≤ 1000000) (h : ∀ p, p ∈ a → p ∈ x) : Ev (fun k => spec_HasStamped.f k x a) true := by
  have := run_loop2 (fun k i (_ : Unit) => spec_HasStamped.l0 k x a (a.length : Int) i) a.length (fun _ => ()) true
    (Ev.at 1 0 (fun k _ => by simp [spec_HasStamped.l0]))
    (fun i hi r hr => by
      have h1 : (i : Int) < (a.length : Int) := by omega
      have h2 : (0 : Int) ≤ (i : Int) := by omega
      have hp : rd_T48 a (i : Int) = a[i] := by simp [rd_T48, hi]
      have hmem : rd_T48 a (i : Int) ∈ x := by rw [hp]; exact h _ (List.getElem_mem _)
      generalize hq : rd_T48 a (i : Int) = p at *
      have inner := run_loop2 (fun k j (s : Bool) => spec_HasStamped.l1 k x s a (a.length : Int) (i : Int) x (x.length : Int) j p.f0 p.f1 p.f2) x.length (fun j => (x.take j).any (eqS p)) r
        (by
          have e : (x.take x.length).any (eqS p) = true := by
            rw [List.take_length, List.any_eq_true]
            exact ⟨p, hmem, by simp [eqS]⟩
          refine Ev.back 1 0 (fun k _ => ?_) hr
          have c1 : ¬ ((x.length : Int) < (x.length : Int)) := by omega
          simp only [e, spec_HasStamped.l1, c1, if_false, if_true, wrap_succ i (by omega)])
        (fun j hj q hq' => by
          refine Ev.back 1 0 (fun k _ => ?_) hq'
          have c1 : (j : Int) < (x.length : Int) := by omega
          have c2 : (0 : Int) ≤ (j : Int) := by omega
          have r1 : rd_T48 x (j : Int) = x[j] := by simp [rd_T48, hj]
          rw [List.take_succ_eq_append_getElem hj, List.any_append]
          cases hb : (x.take j).any (eqS p) with
          | true => simp only [spec_HasStamped.l1, c1, c2, if_true, wrap_succ j (by omega), Bool.true_or]
          | false =>
            simp only [spec_HasStamped.l1, c1, c2, if_true, Bool.false_eq_true, if_false, wrap_succ j (by omega), Bool.false_or, r1]
            simp [eqS]) 0 (Nat.zero_le _)
      refine Ev.back 1 0 (fun k _ => ?_) inner
      simp only [spec_HasStamped.l0, h1, h2, if_true, hq]
      rfl) 0 (Nat.zero_le _)
  exact this
theorem stamped_ok (c : List Int) (hc : Bytes c) (a s : Int) (h0 : 0 ≤ a) (h1 : a < 1000000) : ∃ L a' s', Ev (fun k => spec_l1Cur_stamped.f k c a s) (L, a', s') ∧ L.length ≤ 7 ∧ a ≤ a' ∧ a' ≤ a + 100 := by
  obtain ⟨m, a1, s1, e1, hm0, hm, b1, b1'⟩ := pick_ok c hc a s 7 h0 (by omega) (by omega)
  obtain ⟨⟨L, a', s'⟩, hp, h⟩ := one_while (fun k (z : List S48 × Int × Int × Int × Int) => spec_l1Cur_stamped.l0 k z.1 z.2.1 z.2.2.1 c z.2.2.2.1 z.2.2.2.2)
    (fun d z => z.2.2.1 = (d : Int) ∧ d ≤ 7 ∧ z.1.length + d ≤ 7 ∧ a1 ≤ z.2.2.2.1 ∧ z.2.2.2.1 ≤ a1 + 10 * (7 - d)) (fun r => r.1.length ≤ 7 ∧ a1 ≤ r.2.1 ∧ r.2.1 ≤ a1 + 70)
    (by
      rintro d ⟨L, t, j, x, y⟩ ⟨hj, hd7, hl, hx, hx'⟩
      simp only at hj hl hx hx'
      by_cases hd : 0 < d
      · right
        obtain ⟨r2, a2, s2, e2, _, _, b2, b2'⟩ := pick_ok c hc x y 3 (by omega) (by omega) (by omega)
        obtain ⟨r3, a3, s3, e3, _, _, b3, b3'⟩ := pick_ok c hc a2 s2 3 (by omega) (by omega) (by omega)
        obtain ⟨q4, a4, s4, e4, b4, b4'⟩ := one_ok c hc a3 s3 20 (by omega) (by omega) (by omega)
        have c1 : j > 0 := by omega
        have c2 : L.length < 5864062014805 := by omega
        have c3 : wrap64 (j - 1) = ((d - 1 : Nat) : Int) := (wrap_in (by omega) (by omega)).trans (by omega)
        have hj1 : ∀ (a5 s5 f0 f1 f2 : Int), a4 ≤ a5 → a5 ≤ a4 + 2 → ∃ L' a6 s6, L'.length ≤ L.length + 1 ∧ a5 ≤ a6 ∧ a6 ≤ a5 + 2 ∧ ∀ k, spec_l1Cur_stamped.j1 (k + 1) L (wrap64 (t + r2)) j c a5 s5 f0 f1 f2 = spec_l1Cur_stamped.l0 k L' (wrap64 (t + r2)) ((d - 1 : Nat) : Int) c a6 s6 := by
          intro a5 s5 f0 f1 f2 h5 h5'
          by_cases hz : L.length = 0
          · refine ⟨L ++ [⟨f0, f1, f2⟩], a5, s5, by simp, by omega, by omega, fun k => ?_⟩
            have z0 : (L.length : Int) = 0 := by omega
            simp only [spec_l1Cur_stamped.j1, z0, if_true, c2, c3]
          · have z0 : ¬ (L.length : Int) = 0 := by omega
            have z1 : wrap64 ((L.length : Int) - 1) = ((L.length - 1 : Nat) : Int) := wrap_pred _ (by omega) (by omega)
            have z2 : (0 : Int) ≤ ((L.length - 1 : Nat) : Int) := by omega
            have z3 : ((L.length - 1 : Nat) : Int) < (L.length : Int) := by omega
            have hbf := spec_bf (rd_T48 L ((L.length - 1 : Nat) : Int)) ⟨f0, f1, f2⟩
            simp only at hbf
            cases hb : bf (rd_T48 L ((L.length - 1 : Nat) : Int)) ⟨f0, f1, f2⟩ with
            | true =>
              rw [hb] at hbf
              refine ⟨L ++ [⟨f0, f1, f2⟩], a5, s5, by simp, by omega, by omega, fun k => ?_⟩
              simp only [spec_l1Cur_stamped.j1, z0, if_false, z1, z2, z3, if_true, hbf, Option.bind_some, c2, c3]
            | false =>
              rw [hb] at hbf
              obtain ⟨q6, a6, s6, e6, b6, b6'⟩ := one_ok c hc a5 s5 30 (by omega) (by omega) (by omega)
              cases q6 with
              | true =>
                refine ⟨L ++ [⟨f0, f1, f2⟩], a6, s6, by simp, by omega, by omega, fun k => ?_⟩
                simp only [spec_l1Cur_stamped.j1, z0, if_false, z1, z2, z3, if_true, hbf, Option.bind_some, Bool.false_eq_true, e6, c2, c3]
              | false =>
                refine ⟨L, a6, s6, by omega, by omega, by omega, fun k => ?_⟩
                simp only [spec_l1Cur_stamped.j1, z0, if_false, z1, z2, z3, if_true, hbf, Option.bind_some, Bool.false_eq_true, e6, c3]
        cases q4 with
        | true =>
          obtain ⟨r5, a5, s5, e5, _, _, b5, b5'⟩ := pick_ok c hc a4 s4 5 (by omega) (by omega) (by omega)
          obtain ⟨L', a6, s6, hl6, b6, b6', hk⟩ := hj1 a5 s5 (wrap64 (t + r2)) r3 r5 b5 b5'
          refine ⟨d - 1, (L', wrap64 (t + r2), ((d - 1 : Nat) : Int), a6, s6), by omega, ⟨rfl, by omega, by simp only; omega, by simp only; omega, by simp only; omega⟩, fun r hr => Ev.back 2 0 (fun k _ => ?_) hr⟩
          simp only [spec_l1Cur_stamped.l0, c1, if_true, e2, e3, e4, e5, Option.bind_some]
          exact hk k
        | false =>
          obtain ⟨L', a6, s6, hl6, b6, b6', hk⟩ := hj1 a4 s4 (wrap64 (t + r2)) r3 (wrap64 (t + r2)) (by omega) (by omega)
          refine ⟨d - 1, (L', wrap64 (t + r2), ((d - 1 : Nat) : Int), a6, s6), by omega, ⟨rfl, by omega, by simp only; omega, by simp only; omega, by simp only; omega⟩, fun r hr => Ev.back 2 0 (fun k _ => ?_) hr⟩
          simp only [spec_l1Cur_stamped.l0, c1, if_true, e2, e3, e4, Option.bind_some, Bool.false_eq_true, if_false]
          exact hk k
      · left
        have c1 : ¬ j > 0 := by omega
        exact ⟨(L, x, y), ⟨by simp only; omega, by simp only; omega, by simp only; omega⟩, Ev.at 1 0 (fun k _ => by simp only [spec_l1Cur_stamped.l0, c1, if_false])⟩) m.toNat ([], 0, m, a1, s1) ⟨by simp only; omega, by omega, by simp; omega, by simp only; omega, by simp only; omega⟩
  simp only at hp
  refine ⟨L, a', s', Ev.congr (fun k => ?_) h, by omega, by omega, by omega⟩
  simp only [spec_l1Cur_stamped.f, e1, Option.bind_some]
theorem FnMerge : laws_FnMerge.Pure := by
  intro c hc0 hc1 hc2
  by_cases hn : (c.length : Int) > 1048576
  · exact ⟨0, by simp only [laws_FnMerge.f, hn, if_true]⟩
  have hc : Bytes c := fun x hx => by
    have := hc2 x hx
    simp only [Lit.wf, IntKind.min, IntKind.max, IntKind.signed, IntKind.bits, Bool.and_eq_true, decide_eq_true_eq, Bool.false_eq_true, if_false] at this
    omega
  obtain ⟨a, a1, s1, ⟨K1, e1⟩, hal, b1, b1'⟩ := stamped_ok c hc 0 0 (by omega) (by omega)
  obtain ⟨b, a2, s2, ⟨K2, e2⟩, hbl, b2, b2'⟩ := stamped_ok c hc a1 s1 (by omega) (by omega)
  have hdraw : ∀ k, K1 + K2 ≤ k → spec_DrawMergeStamped.f k c = some (a, b) := by
    intro k hk
    have e1' := e1 k (by omega)
    have e2' := e2 k (by omega)
    simp only at e1' e2'
    simp only [spec_DrawMergeStamped.f, e1', e2', Option.bind_some]
  obtain ⟨K3, e3⟩ := impl_merged a b (by omega) (by omega)
  obtain ⟨K4, e4⟩ := impl_merged b a (by omega) (by omega)
  obtain ⟨K5, e5⟩ := spec_merged a b (by omega) (by omega)
  have hsym : merged b a = merged a b := by
    unfold merged
    rw [Nat.add_comm b.length, mg_sym _ b a]
    by_cases h : okS a = true ∧ okS b = true
    · rw [if_pos h, if_pos ⟨h.2, h.1⟩]
    · rw [if_neg h, if_neg (fun h' => h ⟨h'.2, h'.1⟩)]
  rw [hsym] at e4
  have hlen := merged_len a b
  have hhas : (merged a b).2 = true → ∀ p, (p ∈ a ∨ p ∈ b) → p ∈ (merged a b).1 := by
    unfold merged
    split
    · intro h p hp
      exact mg_has _ a b [] (Nat.le_refl _) h p (.inr hp)
    · intro h
      cases h
  generalize merged a b = R at *
  obtain ⟨G, v⟩ := R
  simp only at hlen hhas
  have hl0 : ∃ K, ∀ k, K ≤ k → laws_FnMerge.l0 k a b G v G (G.length : Int) 0 = some true := by
    have hend : Ev (fun k => laws_FnMerge.l0 k a b G v G (G.length : Int) (G.length : Int)) true := by
      have c1 : ¬ ((G.length : Int) < (G.length : Int)) := by omega
      cases v with
      | true =>
        obtain ⟨K6, e6⟩ := has_ev G a (by omega) (by omega) (fun p hp => hhas rfl p (.inl hp))
        obtain ⟨K7, e7⟩ := has_ev G b (by omega) (by omega) (fun p hp => hhas rfl p (.inr hp))
        refine Ev.at 1 (K6 + K7) (fun k hk => ?_)
        have e6' := e6 k (by omega)
        have e7' := e7 k (by omega)
        simp only at e6' e7'
        simp only [laws_FnMerge.l0, c1, if_false, if_true, e6', e7', Option.bind_some]
      | false => exact Ev.at 1 0 (fun k _ => by simp only [laws_FnMerge.l0, c1, if_false, Bool.false_eq_true])
    exact run_loop2 (fun k i (_ : Unit) => laws_FnMerge.l0 k a b G v G (G.length : Int) i) G.length (fun _ => ()) true hend
      (fun i hi r hr => by
        refine Ev.back 1 0 (fun k _ => ?_) hr
        have c1 : (i : Int) < (G.length : Int) := by omega
        have c2 : (0 : Int) ≤ (i : Int) := by omega
        simp only [laws_FnMerge.l0, c1, c2, if_true, wrap_succ i (by omega)]
        simp) 0 (Nat.zero_le _)
  obtain ⟨K8, e8⟩ := hl0
  refine ⟨K1 + K2 + K3 + K4 + K5 + K8 + 1, ?_⟩
  have h1 := hdraw (K1 + K2 + K3 + K4 + K5 + K8 + 1) (by omega)
  have h3 := e3 (K1 + K2 + K3 + K4 + K5 + K8 + 1) (by omega)
  have h4 := e4 (K1 + K2 + K3 + K4 + K5 + K8 + 1) (by omega)
  have h5 := e5 (K1 + K2 + K3 + K4 + K5 + K8 + 1) (by omega)
  have h8 := e8 (K1 + K2 + K3 + K4 + K5 + K8) (by omega)
  simp only at h3 h4 h5
  simp only [laws_FnMerge.f, hn, if_false, h1, h3, h4, h5, Option.bind_some, bne_self_eq_false, Bool.false_eq_true, laws_FnMerge.j0, h8]

end Go.Proofs.Ytmlejakajcmbdaa.Pure
