/- 'FnExactBookLane': what the program's function and the reference's answer, told over numbers and lists alone, meets the law at every input within the kinds' own bounds; no other condition. -/
import Derived.Test.YtlhncdbflldmeaaQFnExactBookLanex6
import Derived.Test.YtlhncdbflldmeaaPlain
namespace Go.Proofs.Ytlhncdbflldmeaa.Pure
open Go.RowKit Go.Proofs.Ytlhncdbflldmeaa.PFnExactBookLane Go.Proofs.Ytlhncdbflldmeaa.Plain Go.Proofs.YtlhncdbflldmeaaW.PrintWords Go.Proofs.YtlhncdbflldmeaaW.PrintLast
set_option linter.unusedVariables false
set_option linter.unusedSimpArgs false

theorem szBookedS_eq (l : List (S47)) (h : l.length ≤ 140737488351232) (n : Int) (h0 : 0 ≤ n) (h1 : n ≤ 1048576) : laws_szBookedS.f l n = some (if (l.length : Int) > n then -1 else n - l.length) := by
  unfold laws_szBookedS.f
  rw [wrap_in (by omega) (by omega)]
  split <;> split <;> first | rfl | (exfalso; omega)
def cBookedS (x : S47) : S53 := ⟨x.f0, x.f1, x.f2, x.f3⟩
theorem toBookedS_ev (l : List S47) (h : l.length ≤ 1048576) : Ev (fun k => laws_toBookedS.f k l) (l.map cBookedS) := by
  have := to_loop (fun k acc i => laws_toBookedS.l0 k l acc i) cBookedS l z53 (fun k acc => by simp [laws_toBookedS.l0]) (fun i hi => ⟨0, fun k _ acc hacc => by
    have h1 : (i : Int) < (l.length : Int) := by omega
    have h2 : (0 : Int) ≤ (i : Int) := by omega
    have h3 : (i : Int) < (acc.length : Int) := by omega
    have h4 : rd_T47 l (i : Int) = l[i] := by simp [rd_T47, hi]
    simp only [laws_toBookedS.l0, laws_toBooked.f, h1, h2, h3, h4, if_true, Option.bind_some, wrap_succ i (by omega), toNat_i]
    rfl⟩)
  exact Ev.congr (fun k => by
    have h5 : l.length ≤ 100000000 := by omega
    simp only [laws_toBookedS.f, toNat_i]
    rw [if_pos (by omega), if_pos (by omega)]) this
theorem eqBookedS_ev (l : List (S53)) (h : l.length < 9223372036854775807) : Ev (fun k => laws_eqBookedS.f k l l) true := by
  have := eq_loop (fun k i => laws_eqBookedS.l0 k l l i) l.length true (fun k => by simp [laws_eqBookedS.l0]) (fun i hi => ⟨0, fun k _ => by
    have h1 : (i : Int) < (l.length : Int) := by omega
    have h2 : (0 : Int) ≤ (i : Int) := by omega
    simp only [laws_eqBookedS.l0, laws_eqBooked.f, h1, h2, if_true, Option.bind_some, wrap_succ i (by omega), bne_self_eq_false, Bool.false_eq_true, if_false]⟩)
  exact Ev.congr (fun k => by simp only [laws_eqBookedS.f, if_true]) this
theorem markBookedS_at (l : List (S53)) (h : l.length ≤ 1000000000) (m0 : Int) (h0 : 0 ≤ m0) (hm : m0 ≤ 1000000000000000) : Ev (fun k => laws_markBookedS.f k l m0) (m0 + ((4 : Nat) : Int) * (l.length : Int), (List.range l.length).map fun (j : Nat) => (fun m => (⟨m, m + 1, m + 2, m + 3⟩ : S53)) (m0 + ((4 : Nat) : Int) * (j : Int))) := by
  refine mark_loop (fun k ys m i => laws_markBookedS.l0 k ys m i) (fun m => (⟨m, m + 1, m + 2, m + 3⟩ : S53)) 4 m0 l (fun k ys m hy => by simp [laws_markBookedS.l0, hy]) (fun i hi => ⟨0, fun k _ ys hy => ?_⟩)
  have h1 : (i : Int) < (ys.length : Int) := by omega
  have h2 : (0 : Int) ≤ (i : Int) := by omega
  have hw1 : wrap64 ((m0 + 4 * (i : Int)) + 1) = m0 + 4 * (i : Int) + 1 := (wrap_in (by omega) (by omega)).trans (by omega)
  have hw2 : wrap64 ((m0 + 4 * (i : Int) + 1) + 1) = m0 + 4 * (i : Int) + 2 := (wrap_in (by omega) (by omega)).trans (by omega)
  have hw3 : wrap64 ((m0 + 4 * (i : Int) + 2) + 1) = m0 + 4 * (i : Int) + 3 := (wrap_in (by omega) (by omega)).trans (by omega)
  have hw4 : wrap64 ((m0 + 4 * (i : Int) + 3) + 1) = m0 + 4 * (i : Int) + 4 := (wrap_in (by omega) (by omega)).trans (by omega)
  simp only [Int.cast_ofNat_Int] at *
  simp only [laws_markBookedS.l0, h1, h2, if_true, wrap_succ i (by omega), toNat_i, Option.bind_some]
  have hs : ∀ (ys : List S53) (v : S53), ys.length = l.length → rd_T53 (ys.set i v) (i : Int) = v := by intro ys v hv; simp [rd_T53, List.getElem?_set, hv, hi]
  simp (disch := simp [hy]) only [hs, hw1, hw2, hw3, hw4, List.set_set]
  rw [show (m0 + 4 * (i : Int) + 4) = m0 + 4 * ((i + 1 : Nat) : Int) by omega]
theorem markBookedS_ev (l : List (S53)) (h : l.length ≤ 1000000000) : Ev (fun k => laws_markBookedS.f k l 1) (1 + ((4 : Nat) : Int) * (l.length : Int), (List.range l.length).map fun (j : Nat) => (fun m => (⟨m, m + 1, m + 2, m + 3⟩ : S53)) (1 + ((4 : Nat) : Int) * (j : Int))) := markBookedS_at l h 1 (by omega) (by omega)
theorem heldBookedS_at (n : Nat) (h : n ≤ 1000000000) (m0 : Int) (h0 : 0 ≤ m0) (hm : m0 ≤ 1000000000000000) : Ev (fun k => laws_heldBookedS.f k ((List.range n).map fun (j : Nat) => (fun m => (⟨m, m + 1, m + 2, m + 3⟩ : S53)) (m0 + ((4 : Nat) : Int) * (j : Int))) m0) (m0 + ((4 : Nat) : Int) * (n : Int)) := by
  refine held_loop (fun k m i => laws_heldBookedS.l0 k ((List.range n).map fun (j : Nat) => (fun m => (⟨m, m + 1, m + 2, m + 3⟩ : S53)) (m0 + ((4 : Nat) : Int) * (j : Int))) m i) 4 m0 n _ (fun k => by simp [laws_heldBookedS.l0]) (fun i hi => ⟨0, fun k _ => ?_⟩)
  have h1 : (i : Int) < ((((List.range n).map fun (j : Nat) => (fun m => (⟨m, m + 1, m + 2, m + 3⟩ : S53)) (m0 + ((4 : Nat) : Int) * (j : Int))).length : Nat) : Int) := by simp; omega
  have h2 : (0 : Int) ≤ (i : Int) := by omega
  have h3 : rd_T53 ((List.range n).map fun (j : Nat) => (fun m => (⟨m, m + 1, m + 2, m + 3⟩ : S53)) (m0 + ((4 : Nat) : Int) * (j : Int))) (i : Int) = (fun m => (⟨m, m + 1, m + 2, m + 3⟩ : S53)) (m0 + ((4 : Nat) : Int) * (i : Int)) := by simp [rd_T53, hi]
  have hw1 : wrap64 ((m0 + 4 * (i : Int)) + 1) = m0 + 4 * (i : Int) + 1 := (wrap_in (by omega) (by omega)).trans (by omega)
  have hw2 : wrap64 ((m0 + 4 * (i : Int) + 1) + 1) = m0 + 4 * (i : Int) + 2 := (wrap_in (by omega) (by omega)).trans (by omega)
  have hw3 : wrap64 ((m0 + 4 * (i : Int) + 2) + 1) = m0 + 4 * (i : Int) + 3 := (wrap_in (by omega) (by omega)).trans (by omega)
  have hw4 : wrap64 ((m0 + 4 * (i : Int) + 3) + 1) = m0 + 4 * (i : Int) + 4 := (wrap_in (by omega) (by omega)).trans (by omega)
  generalize ((List.range n).map fun (j : Nat) => (fun m => (⟨m, m + 1, m + 2, m + 3⟩ : S53)) (m0 + ((4 : Nat) : Int) * (j : Int))) = L at *
  simp only [Int.cast_ofNat_Int] at *
  simp only [laws_heldBookedS.l0, h1, h2, h3, if_true, wrap_succ i (by omega), bne_self_eq_false, Bool.false_eq_true, if_false, id]
  simp only [hw1, hw2, hw3, hw4, if_true]
  rw [show (m0 + 4 * (i : Int) + 4) = m0 + 4 * ((i + 1 : Nat) : Int) by omega]
theorem heldBookedS_ev (n : Nat) (h : n ≤ 1000000000) : Ev (fun k => laws_heldBookedS.f k ((List.range n).map fun (j : Nat) => (fun m => (⟨m, m + 1, m + 2, m + 3⟩ : S53)) (1 + ((4 : Nat) : Int) * (j : Int))) 1) (1 + ((4 : Nat) : Int) * (n : Int)) := heldBookedS_at n h 1 (by omega) (by omega)
theorem between_eq (a lo hi : Int) : impl_between.f a lo hi = some (decide (lo ≤ a ∧ a ≤ hi)) := by
  unfold impl_between.f
  split <;> simp <;> omega
def okBook (x : S53) : Bool := decide (0 ≤ x.f0 ∧ x.f0 ≤ 9 ∧ 0 ≤ x.f3 ∧ x.f3 ≤ 9 ∧ 0 ≤ x.f1 ∧ x.f1 < x.f2 ∧ x.f2 ≤ 10000)
def okAt (l : List S53) (i : Nat) : Bool := okBook (rd_T53 l (i : Int)) && (decide (i = 0) || decide ((rd_T53 l ((i - 1 : Nat) : Int)).f0 < (rd_T53 l (i : Int)).f0 ∨ ((rd_T53 l ((i - 1 : Nat) : Int)).f0 = (rd_T53 l (i : Int)).f0 ∧ (rd_T53 l ((i - 1 : Nat) : Int)).f2 ≤ (rd_T53 l (i : Int)).f1)))
def goodBooks (l : List S53) : Bool := decide (l.length ≤ 40) && (List.range l.length).all (okAt l)
theorem spec_booked (a b c d : Int) : spec_l27Booked.f a b c d = some (okBook ⟨a, b, c, d⟩) := by
  unfold spec_l27Booked.f okBook
  repeat' split
  all_goals (simp only [Option.some.injEq]; first | (rw [eq_comm, decide_eq_false_iff_not]; omega) | (apply decide_eq_decide.2; omega))
theorem spec_books (l : List S53) (hb : l.length ≤ 1099511627776) : Ev (fun k => spec_GoodBooks.f k l) (goodBooks l) := by
  have hl := all_loop (fun k i => spec_GoodBooks.l0 k l l (l.length : Int) i) l.length (okAt l) true false
    (Ev.at 1 0 (fun k _ => by simp [spec_GoodBooks.l0]))
    (fun i hi hp => ⟨0, fun k _ => by
      have h1 : (i : Int) < (l.length : Int) := by omega
      have h2 : (0 : Int) ≤ (i : Int) := by omega
      simp only [okAt, Bool.and_eq_true, Bool.or_eq_true, decide_eq_true_eq] at hp
      have h3 : okBook ⟨(rd_T53 l (i : Int)).f0, (rd_T53 l (i : Int)).f1, (rd_T53 l (i : Int)).f2, (rd_T53 l (i : Int)).f3⟩ = true := hp.1
      simp only [spec_GoodBooks.l0, h1, h2, if_true, wrap_succ i (by omega), spec_booked, h3, Option.bind_some]
      by_cases h0 : i = 0
      · rw [if_pos (by omega)]
      · have h4 : (0 : Int) ≤ ((i - 1 : Nat) : Int) := by omega
        have h5 : ((i - 1 : Nat) : Int) < (l.length : Int) := by omega
        rw [if_neg (by omega)]
        simp only [wrap_pred i (by omega) (by omega), h4, h5, if_true]
        rw [if_neg (by omega)]
        split
        · rw [if_neg (by omega)]
        · rfl⟩)
    (fun i hi hp => ⟨0, fun k _ => by
      have h1 : (i : Int) < (l.length : Int) := by omega
      have h2 : (0 : Int) ≤ (i : Int) := by omega
      simp only [spec_GoodBooks.l0, h1, h2, if_true, spec_booked, Option.bind_some]
      have e3 : okBook ⟨(rd_T53 l (i : Int)).f0, (rd_T53 l (i : Int)).f1, (rd_T53 l (i : Int)).f2, (rd_T53 l (i : Int)).f3⟩ = okBook (rd_T53 l (i : Int)) := rfl
      rw [e3]
      simp only [okAt] at hp
      cases h3 : okBook (rd_T53 l (i : Int)) with
      | false => simp
      | true =>
        rw [h3, Bool.true_and, Bool.or_eq_false_iff, decide_eq_false_iff_not, decide_eq_false_iff_not] at hp
        have h4 : (0 : Int) ≤ ((i - 1 : Nat) : Int) := by omega
        have h5 : ((i - 1 : Nat) : Int) < (l.length : Int) := by omega
        rw [if_pos rfl, if_neg (by omega)]
        simp only [wrap_pred i (by omega) (by omega), h4, h5, if_true]
        split
        · rfl
        · rw [if_pos (by omega), if_pos (by omega)]⟩)
  obtain ⟨K, hK⟩ := hl
  refine ⟨K, fun k hk => ?_⟩
  have hk' := hK k hk
  simp only [spec_GoodBooks.f, hk', goodBooks]
  generalize (List.range l.length).all (okAt l) = q
  by_cases h40 : l.length ≤ 40
  · rw [if_neg (by omega), decide_eq_true h40]
    cases q <;> rfl
  · rw [if_pos (by omega), decide_eq_false h40]
    rfl
theorem impl_books (l : List S53) (hb : l.length ≤ 1099511627776) : Ev (fun k => impl_GoodBooks.f k l) (goodBooks l) := by
  have hj1 : ∀ (k i : Nat), i < l.length → ∀ b : Bool, b = false → okAt l i = true → okBook (rd_T53 l (i : Int)) = true →
      impl_GoodBooks.j1 (k + 1) l (i : Int) l (l.length : Int) (i : Int) b (rd_T53 l (i : Int)).f0 (rd_T53 l (i : Int)).f1 (rd_T53 l (i : Int)).f2 (rd_T53 l (i : Int)).f3 = impl_GoodBooks.l0 k l l (l.length : Int) ((i + 1 : Nat) : Int) := by
    intro k i hi b hbf hp hok
    subst hbf
    simp only [okAt, Bool.and_eq_true, Bool.or_eq_true, decide_eq_true_eq] at hp
    simp only [impl_GoodBooks.j1, Bool.false_eq_true, if_false, wrap_succ i (by omega)]
    by_cases h0 : i = 0
    · rw [if_neg (by omega)]
    · have h4 : (0 : Int) ≤ ((i - 1 : Nat) : Int) := by omega
      have h5 : ((i - 1 : Nat) : Int) < (l.length : Int) := by omega
      rw [if_pos (by omega)]
      simp only [wrap_pred i (by omega) (by omega), h4, h5, if_true]
      rw [if_neg (by omega)]
      split
      · rw [if_neg (by omega)]
      · rfl
  have hj2 : ∀ (k i : Nat), i < l.length → ∀ b : Bool, (b = true ∨ (b = false ∧ okAt l i = false ∧ okBook (rd_T53 l (i : Int)) = true)) →
      impl_GoodBooks.j1 (k + 1) l (i : Int) l (l.length : Int) (i : Int) b (rd_T53 l (i : Int)).f0 (rd_T53 l (i : Int)).f1 (rd_T53 l (i : Int)).f2 (rd_T53 l (i : Int)).f3 = some false := by
    intro k i hi b hc
    rcases hc with rfl | ⟨rfl, hp, hok⟩
    · simp only [impl_GoodBooks.j1, if_true]
    · rw [okAt, hok, Bool.true_and, Bool.or_eq_false_iff, decide_eq_false_iff_not, decide_eq_false_iff_not] at hp
      have h4 : (0 : Int) ≤ ((i - 1 : Nat) : Int) := by omega
      have h5 : ((i - 1 : Nat) : Int) < (l.length : Int) := by omega
      simp only [impl_GoodBooks.j1, Bool.false_eq_true, if_false]
      rw [if_pos (by omega)]
      simp only [wrap_pred i (by omega) (by omega), h4, h5, if_true]
      split
      · rfl
      · rw [if_pos (by omega), if_pos (by omega)]
  have hj0 : ∀ (k i : Nat), i < l.length → okBook (rd_T53 l (i : Int)) = false → impl_GoodBooks.l0 (k + 2) l l (l.length : Int) (i : Int) = some false := by
    intro k i hi hok
    have h1 : (i : Int) < (l.length : Int) := by omega
    have h2 : (0 : Int) ≤ (i : Int) := by omega
    have ht := hj2 k i hi true (.inl rfl)
    simp only [okBook, decide_eq_false_iff_not] at hok
    rw [impl_GoodBooks.l0]
    simp only [h1, h2, if_true, between_eq, Option.bind_some, decide_eq_true_eq]
    split
    · split
      · split
        · exact ht
        · split
          · exact ht
          · have e : decide ((rd_T53 l (i : Int)).f2 > 10000) = true := by rw [decide_eq_true_eq]; omega
            rw [e]
            exact ht
      · exact ht
    · exact ht
  have hj3 : ∀ (k i : Nat), i < l.length → okBook (rd_T53 l (i : Int)) = true → impl_GoodBooks.l0 (k + 2) l l (l.length : Int) (i : Int) =
      impl_GoodBooks.j1 (k + 1) l (i : Int) l (l.length : Int) (i : Int) false (rd_T53 l (i : Int)).f0 (rd_T53 l (i : Int)).f1 (rd_T53 l (i : Int)).f2 (rd_T53 l (i : Int)).f3 := by
    intro k i hi hok
    have h1 : (i : Int) < (l.length : Int) := by omega
    have h2 : (0 : Int) ≤ (i : Int) := by omega
    simp only [okBook, decide_eq_true_eq] at hok
    rw [impl_GoodBooks.l0]
    simp only [h1, h2, if_true, between_eq, Option.bind_some, decide_eq_true_eq]
    have e : decide ((rd_T53 l (i : Int)).f2 > 10000) = false := by rw [decide_eq_false_iff_not]; omega
    rw [if_pos (by omega), if_pos (by omega), if_neg (by omega), if_neg (by omega), e]
  have hend : Ev (fun k => impl_GoodBooks.l0 k l l (l.length : Int) (l.length : Int)) (decide (l.length ≤ 40)) := Ev.at 1 0 (fun k _ => by
    have h1 : ¬ ((l.length : Int) < (l.length : Int)) := by omega
    simp only [impl_GoodBooks.l0, h1, if_false, Option.some.injEq]
    apply decide_eq_decide.2
    omega)
  have key : ∀ (d i : Nat), i + d = l.length → Ev (fun k => impl_GoodBooks.l0 k l l (l.length : Int) (i : Int)) (if (List.range' i d).all (okAt l) = true then decide (l.length ≤ 40) else false) := by
    intro d
    induction d with
    | zero =>
      intro i hi
      obtain rfl : i = l.length := by omega
      simpa using hend
    | succ d ih =>
      intro i hi
      rw [List.range'_succ, List.all_cons]
      cases hp : okAt l i with
      | true =>
        have hok : okBook (rd_T53 l (i : Int)) = true := by
          simp only [okAt, Bool.and_eq_true] at hp
          exact hp.1
        have := ih (i + 1) (by omega)
        simp only [Bool.true_and]
        exact Ev.back 2 0 (fun k _ => by rw [hj3 k i (by omega) hok, hj1 k i (by omega) false rfl hp hok]) this
      | false =>
        simp only [Bool.false_and, Bool.false_eq_true, if_false]
        cases hok : okBook (rd_T53 l (i : Int)) with
        | true => exact Ev.at 2 0 (fun k _ => by rw [hj3 k i (by omega) hok, hj2 k i (by omega) false (.inr ⟨rfl, hp, hok⟩)])
        | false => exact Ev.at 2 0 (fun k _ => hj0 k i (by omega) hok)
  have := key l.length 0 (by omega)
  rw [← List.range_eq_range'] at this
  have e : (if (List.range l.length).all (okAt l) = true then decide (l.length ≤ 40) else false) = goodBooks l := by
    unfold goodBooks
    cases (List.range l.length).all (okAt l) <;> simp
  rw [e] at this
  exact this
def putIn (l : List S53) (b : S53) (j : Nat) : List S53 := l.take j ++ [b] ++ l.drop j
def booked (l : List S53) (b : S53) (j : Nat) : List S53 × Bool := if goodBooks (putIn l b j) = true then (putIn l b j, true) else ([], false)
def ahead (x b : S53) : Bool := decide (x.f0 < b.f0 ∨ (x.f0 = b.f0 ∧ x.f1 < b.f1))
theorem putIn_length (l : List S53) (b : S53) (j : Nat) (h : j ≤ l.length) : (putIn l b j).length = l.length + 1 := by
  simp only [putIn, List.length_append, List.length_take, List.length_drop, List.length_singleton]
  omega
theorem spec_done (l : List S53) (b0 b1 b2 b3 : Int) (i : Nat) (hi : i ≤ l.length) (hl : l.length ≤ 1000) (hx : i < l.length → ahead (rd_T53 l (i : Int)) ⟨b0, b1, b2, b3⟩ = false) :
    Ev (fun k => spec_BookLane.l0 k l (i : Int) b0 b1 b2 b3) (booked l ⟨b0, b1, b2, b3⟩ i) := by
  obtain ⟨K, hg⟩ := spec_books (putIn l ⟨b0, b1, b2, b3⟩ i) (by rw [putIn_length _ _ _ hi]; omega)
  refine Ev.next ⟨K, fun k hk => ?_⟩
  have hg' := hg k hk
  have t0 : ((i : Int)).toNat = i := by omega
  have h2 : (0 : Int) ≤ (i : Int) := by omega
  have h3 : (i : Int) ≤ (l.length : Int) := by omega
  have f1 : (l.take i).length < 4398046511104 := by rw [List.length_take]; omega
  have f3 : (l.take i ++ [(⟨b0, b1, b2, b3⟩ : S53)]).length + (l.drop i).length < 4398046511104 := by rw [List.length_append, List.length_take, List.length_drop, List.length_singleton]; omega
  have hg2 : spec_GoodBooks.f k (l.take i ++ [(⟨b0, b1, b2, b3⟩ : S53)] ++ l.drop i) = some (goodBooks (putIn l ⟨b0, b1, b2, b3⟩ i)) := hg'
  have fin : (if goodBooks (putIn l ⟨b0, b1, b2, b3⟩ i) = true then some (l.take i ++ [(⟨b0, b1, b2, b3⟩ : S53)] ++ l.drop i, true) else some ([], false)) = some (booked l ⟨b0, b1, b2, b3⟩ i) := by
    unfold booked
    split <;> rfl
  by_cases h1 : (i : Int) < (l.length : Int)
  · have ha := hx (by omega)
    simp only [ahead, decide_eq_false_iff_not] at ha
    have a1 : ¬ (rd_T53 l (i : Int)).f0 < b0 := by omega
    by_cases a2 : (rd_T53 l (i : Int)).f0 = b0
    · have a3 : ¬ (rd_T53 l (i : Int)).f1 < b1 := by omega
      simp only [spec_BookLane.l0, h1, h2, h3, a1, a2, a3, if_true, if_false, t0, Option.bind_some, List.length_nil, Nat.zero_add, List.nil_append, f1, f3, hg2]
      simp only [Int.lt_irrefl, if_false]
      exact fin
    · simp only [spec_BookLane.l0, h1, h2, h3, a1, a2, if_true, if_false, t0, Option.bind_some, List.length_nil, Nat.zero_add, List.nil_append, f1, f3, hg2]
      exact fin
  · simp only [spec_BookLane.l0, h1, h2, h3, if_true, if_false, t0, Option.bind_some, List.length_nil, Nat.zero_add, List.nil_append, f1, f3, hg2]
    exact fin
theorem impl_tail (l : List S53) (b0 b1 b2 b3 : Int) (i : Nat) (hi : i ≤ l.length) (hl : l.length ≤ 1000) : Ev (fun k => impl_BookLane.j1 k l (i : Int) b0 b1 b2 b3) (booked l ⟨b0, b1, b2, b3⟩ i) := by
  obtain ⟨K, hg⟩ := impl_books (putIn l ⟨b0, b1, b2, b3⟩ i) (by rw [putIn_length _ _ _ hi]; omega)
  refine Ev.next ⟨K, fun k hk => ?_⟩
  have hg2 : impl_GoodBooks.f k (l.take i ++ [(⟨b0, b1, b2, b3⟩ : S53)] ++ l.drop i) = some (goodBooks (putIn l ⟨b0, b1, b2, b3⟩ i)) := hg k hk
  have t0 : ((i : Int)).toNat = i := by omega
  have f1 : l.length < 4398046511104 := by omega
  have f2 : 0 ≤ (i : Int) ∧ (i : Int) ≤ (l.length : Int) ∧ ([(⟨b0, b1, b2, b3⟩ : S53)]).length = 1 ∧ l.length ≤ 1000000 := ⟨by omega, by omega, rfl, by omega⟩
  have e1 : impl_Booked_57.f l = some l := by
    unfold impl_Booked_57.f
    simp only [Option.bind_some, List.length_nil, Nat.zero_add, List.nil_append, f1, if_true]
  have e2 : impl_Booked_56.f l (i : Int) [(⟨b0, b1, b2, b3⟩ : S53)] = some (l.take i ++ [(⟨b0, b1, b2, b3⟩ : S53)] ++ l.drop i) := by
    unfold impl_Booked_56.f
    rw [if_pos f2, t0]
  simp only [impl_BookLane.j1, e1, e2, Option.bind_some, hg2]
  unfold booked
  split <;> rfl
theorem impl_done (l : List S53) (b0 b1 b2 b3 : Int) (i : Nat) (hi : i ≤ l.length) (hl : l.length ≤ 1000) (hx : i < l.length → ahead (rd_T53 l (i : Int)) ⟨b0, b1, b2, b3⟩ = false) :
    Ev (fun k => impl_BookLane.l0 k l (i : Int) b0 b1 b2 b3) (booked l ⟨b0, b1, b2, b3⟩ i) := by
  refine Ev.step (fun k => ?_) (impl_tail l b0 b1 b2 b3 i hi hl)
  have h2 : (0 : Int) ≤ (i : Int) := by omega
  by_cases h1 : (i : Int) < (l.length : Int)
  · have ha := hx (by omega)
    simp only [ahead, decide_eq_false_iff_not] at ha
    have a1 : ¬ (rd_T53 l (i : Int)).f0 < b0 := by omega
    by_cases a2 : (rd_T53 l (i : Int)).f0 = b0
    · have a3 : ¬ (rd_T53 l (i : Int)).f1 < b1 := by omega
      simp only [impl_BookLane.l0, h1, h2, a1, if_true, if_false]
      rw [if_pos a2, if_neg a3]
    · simp only [impl_BookLane.l0, h1, h2, a1, a2, if_true, if_false]
  · simp only [impl_BookLane.l0, h1, if_false]
theorem book_loops (l : List S53) (b0 b1 b2 b3 : Int) (hl : l.length ≤ 1000) : ∀ (d i : Nat), i + d = l.length → ∃ j, i ≤ j ∧ j ≤ l.length ∧ (∀ q : Nat, i ≤ q → q < j → ahead (rd_T53 l (q : Int)) ⟨b0, b1, b2, b3⟩ = true) ∧ (j < l.length → ahead (rd_T53 l (j : Int)) ⟨b0, b1, b2, b3⟩ = false) ∧
    Ev (fun k => spec_BookLane.l0 k l (i : Int) b0 b1 b2 b3) (booked l ⟨b0, b1, b2, b3⟩ j) ∧ Ev (fun k => impl_BookLane.l0 k l (i : Int) b0 b1 b2 b3) (booked l ⟨b0, b1, b2, b3⟩ j) := by
  intro d
  induction d with
  | zero =>
    intro i hi
    exact ⟨i, Nat.le_refl _, by omega, fun q h1 h2 => by omega, fun h => by omega, spec_done l b0 b1 b2 b3 i (by omega) hl (fun h => by omega), impl_done l b0 b1 b2 b3 i (by omega) hl (fun h => by omega)⟩
  | succ d ih =>
    intro i hi
    have h1 : (i : Int) < (l.length : Int) := by omega
    have h2 : (0 : Int) ≤ (i : Int) := by omega
    cases ha : ahead (rd_T53 l (i : Int)) ⟨b0, b1, b2, b3⟩ with
    | false => exact ⟨i, Nat.le_refl _, by omega, fun q h1 h2 => by omega, fun _ => ha, spec_done l b0 b1 b2 b3 i (by omega) hl (fun _ => ha), impl_done l b0 b1 b2 b3 i (by omega) hl (fun _ => ha)⟩
    | true =>
      obtain ⟨j, j1, j2, j3, j4, j5, j6⟩ := ih (i + 1) (by omega)
      have e := wrap_succ i (by omega)
      have ha2 := ha
      simp only [ahead, decide_eq_true_eq] at ha
      refine ⟨j, by omega, j2, fun q q1 q2 => ?_, j4, Ev.step (fun k => ?_) j5, Ev.step (fun k => ?_) j6⟩
      · by_cases hq : q = i
        · rw [hq]; exact ha2
        · exact j3 q (by omega) q2
      · by_cases a1 : (rd_T53 l (i : Int)).f0 < b0
        · simp only [spec_BookLane.l0, h1, h2, a1, if_true, e]
        · have a2 : (rd_T53 l (i : Int)).f0 = b0 := by omega
          have a3 : (rd_T53 l (i : Int)).f1 < b1 := by omega
          simp only [spec_BookLane.l0, h1, h2, a1, if_true, if_false, e]
          rw [if_pos a2, if_pos a3]
      · by_cases a1 : (rd_T53 l (i : Int)).f0 < b0
        · simp only [impl_BookLane.l0, h1, h2, a1, if_true, e]
        · have a2 : (rd_T53 l (i : Int)).f0 = b0 := by omega
          have a3 : (rd_T53 l (i : Int)).f1 < b1 := by omega
          simp only [impl_BookLane.l0, h1, h2, a1, if_true, if_false, e]
          rw [if_pos a2, if_pos a3]
theorem good_all (l : List S53) (h : goodBooks l = true) (i : Nat) (hi : i < l.length) : okBook (rd_T53 l (i : Int)) = true := by
  simp only [goodBooks, Bool.and_eq_true, List.all_eq_true, List.mem_range] at h
  have := h.2 i hi
  simp only [okAt, Bool.and_eq_true] at this
  exact this.1
theorem putIn_at (l : List S53) (b : S53) (j : Nat) (h : j ≤ l.length) : rd_T53 (putIn l b j) (j : Int) = b := by
  have hl : (l.take j).length = j := by rw [List.length_take]; omega
  simp only [rd_T53, putIn, Int.toNat_natCast, List.append_assoc, List.getD_eq_getElem?_getD]
  rw [List.getElem?_append_right (by omega), hl, Nat.sub_self]
  rfl
/-- What both answer. -/
theorem book_both (l : List S53) (b0 b1 b2 b3 : Int) (hl : l.length ≤ 1048576) : ∃ (G : List S53) (z : Bool), G.length ≤ 41 ∧ (z = true → goodBooks l = true ∧ goodBooks G = true ∧ ∃ j, j ≤ l.length ∧ G = putIn l ⟨b0, b1, b2, b3⟩ j ∧ (∀ q : Nat, q < j → ahead (rd_T53 l (q : Int)) ⟨b0, b1, b2, b3⟩ = true) ∧ (j < l.length → ahead (rd_T53 l (j : Int)) ⟨b0, b1, b2, b3⟩ = false)) ∧
    (z = false → goodBooks l = true → ∃ j, j ≤ l.length ∧ (∀ q : Nat, q < j → ahead (rd_T53 l (q : Int)) ⟨b0, b1, b2, b3⟩ = true) ∧ (j < l.length → ahead (rd_T53 l (j : Int)) ⟨b0, b1, b2, b3⟩ = false) ∧ goodBooks (putIn l ⟨b0, b1, b2, b3⟩ j) = false) ∧
    Ev (fun k => spec_BookLane.f k l b0 b1 b2 b3) (G, z) ∧ Ev (fun k => impl_BookLane.f k l b0 b1 b2 b3) (G, z) := by
  have hs := spec_books l (by omega)
  have hm := impl_books l (by omega)
  have stop : Ev (fun k => spec_BookLane.j0 k l true b0 b1 b2 b3) ([], false) := Ev.next ⟨0, fun k _ => by simp [spec_BookLane.j0]⟩
  cases hg : goodBooks l with
  | false =>
    rw [hg] at hs hm
    refine ⟨[], false, by simp, (fun h => by cases h), (fun _ h => by cases h), ?_, ?_⟩
    · simp only [spec_BookLane.f]
      refine Ev.bind hs ?_
      simp only [Bool.false_eq_true, if_false]
      exact stop
    · simp only [impl_BookLane.f]
      refine Ev.bind hm ?_
      simp only [Bool.false_eq_true, if_false]
      exact Ev.now _
  | true =>
    rw [hg] at hs hm
    have h40 : l.length ≤ 40 := by
      simp only [goodBooks, Bool.and_eq_true, decide_eq_true_eq] at hg
      exact hg.1
    obtain ⟨j, j1, j2, j3, j4, j5, j6⟩ := book_loops l b0 b1 b2 b3 (by omega) l.length 0 (by omega)
    have hlen := putIn_length l ⟨b0, b1, b2, b3⟩ j j2
    have hi : Ev (fun k => impl_BookLane.f k l b0 b1 b2 b3) (booked l ⟨b0, b1, b2, b3⟩ j) := by
      simp only [impl_BookLane.f]
      refine Ev.bind hm ?_
      simp only [if_true]
      exact j6
    have hsp : Ev (fun k => spec_BookLane.f k l b0 b1 b2 b3) (booked l ⟨b0, b1, b2, b3⟩ j) := by
      simp only [spec_BookLane.f]
      refine Ev.bind hs ?_
      simp only [if_true, spec_booked, Option.bind_some]
      cases hb : okBook ⟨b0, b1, b2, b3⟩ with
      | true =>
        refine Ev.next ?_
        simp only [spec_BookLane.j0, Bool.not_true, Bool.false_eq_true, if_false]
        exact j5
      | false =>
        have : goodBooks (putIn l ⟨b0, b1, b2, b3⟩ j) = false := by
          cases hq : goodBooks (putIn l ⟨b0, b1, b2, b3⟩ j) with
          | false => rfl
          | true =>
            have h5 := good_all _ hq j (by omega)
            rw [putIn_at _ _ _ j2, hb] at h5
            cases h5
        simp only [booked, this, Bool.not_false, Bool.false_eq_true, if_false]
        exact stop
    cases hq : goodBooks (putIn l ⟨b0, b1, b2, b3⟩ j) with
    | true =>
      have e : booked l ⟨b0, b1, b2, b3⟩ j = (putIn l ⟨b0, b1, b2, b3⟩ j, true) := by unfold booked; rw [if_pos hq]
      rw [e] at hi hsp
      exact ⟨_, true, by omega, fun _ => ⟨rfl, hq, j, j2, rfl, fun q hq => j3 q (by omega) hq, j4⟩, (fun h => by cases h), hsp, hi⟩
    | false =>
      have e : booked l ⟨b0, b1, b2, b3⟩ j = ([], false) := by unfold booked; rw [if_neg (by rw [hq]; simp)]
      rw [e] at hi hsp
      exact ⟨_, false, by simp, (fun h => by cases h), fun _ _ => ⟨j, j2, fun q hq => j3 q (by omega) hq, j4, hq⟩, hsp, hi⟩
theorem FnExactBookLane : ∀ (l0 : List (S47)) (a1_0 : Int) (a1_1 : Int) (a1_2 : Int) (a1_3 : Int), ((∀ (zl0 : S47), zl0 ∈ l0 → ((Lit.int .i64 zl0.f0).wf = true ∧ (Lit.int .i64 zl0.f1).wf = true ∧ (Lit.int .i64 zl0.f2).wf = true ∧ (Lit.int .i64 zl0.f3).wf = true)) ∧ l0.length * 32 ≤ 140737488351232) → (Lit.int .i64 a1_0).wf = true → (Lit.int .i64 a1_1).wf = true → (Lit.int .i64 a1_2).wf = true → (Lit.int .i64 a1_3).wf = true → ∃ k, laws_FnExactBookLane.f k l0 a1_0 a1_1 a1_2 a1_3 = some true := by
  intro l b0 b1 b2 b3 ⟨_, hl⟩ _ _ _ _
  have hs := szBookedS_eq l (by omega) 1048576 (by omega) (by omega)
  by_cases hn : (l.length : Int) > 1048576
  · exact ⟨0, by simp [laws_FnExactBookLane.f, hs, hn]⟩
  · have hn' : ¬ ((1048576 : Int) - l.length < 0) := by omega
    have hlm : (l.map cBookedS).length = l.length := List.length_map ..
    obtain ⟨K1, h1⟩ := toBookedS_ev l (by omega)
    generalize l.map cBookedS = L at *
    obtain ⟨K4, h4⟩ := eqBookedS_ev L (by omega)
    obtain ⟨G, b, hG, _, _, ⟨K2, h5a⟩, ⟨K3, h5b⟩⟩ := book_both L b0 b1 b2 b3 (by omega)
    obtain ⟨K6, h6⟩ := eqBookedS_ev G (by omega)
    obtain ⟨K7, h7⟩ := markBookedS_ev L (by omega)
    obtain ⟨K8, h8⟩ := markBookedS_ev G (by omega)
    obtain ⟨K9, h9⟩ := heldBookedS_ev G.length (by omega)
    have ht : laws_toBooked.f b0 b1 b2 b3 = some (b0, b1, b2, b3) := rfl
    have hneg : ¬ ((1 : Int) + ((4 : Nat) : Int) * (L.length : Int) < 0) := by omega
    have hneg2 : ¬ ((1 : Int) + ((4 : Nat) : Int) * (G.length : Int) < 0) := by omega
    have e2 : ∀ k, K9 ≤ k → laws_FnExactBookLane.j2 (k + 1) ((List.range G.length).map fun (j : Nat) => (fun m => (⟨m, m + 1, m + 2, m + 3⟩ : S53)) (1 + ((4 : Nat) : Int) * (j : Int))) (1 + ((4 : Nat) : Int) * (G.length : Int)) false = some true := by
      intro k hk
      have h9' := h9 k hk
      simp only at h9'
      simp only [laws_FnExactBookLane.j2, Bool.false_eq_true, if_false, h9', Option.bind_some, hneg2, if_true]
    have e1 : ∀ k, K1 + K3 + K6 + K8 + K9 ≤ k → laws_FnExactBookLane.j1 (k + 2) l G b G false b0 b1 b2 b3 = some true := by
      intro k hk
      have h8' := h8 (k + 1) (by omega)
      have h9' := h9 (k + 1) (by omega)
      have h1' := h1 (k + 1) (by omega)
      have h5' := h5b (k + 1) (by omega)
      have h6' := h6 (k + 1) (by omega)
      have e2' := e2 k (by omega)
      simp only at h8' h9' h1' h5' h6' e2'
      simp only [laws_FnExactBookLane.j1, Bool.false_eq_true, if_false, h8', h9', h1', ht, h5', h6', Option.bind_some, hneg2, if_true, bne_self_eq_false, e2']
    have e0 : ∀ k, K1 + K3 + K4 + K6 + K7 + K8 + K9 ≤ k → laws_FnExactBookLane.j0 (k + 3) l G b L G b false b0 b1 b2 b3 = some true := by
      intro k hk
      have h1' := h1 (k + 2) (by omega)
      have h4' := h4 (k + 2) (by omega)
      have h6' := h6 (k + 2) (by omega)
      have h7' := h7 (k + 2) (by omega)
      have e1' := e1 k (by omega)
      simp only at h1' h4' h6' h7'
      simp only [laws_FnExactBookLane.j0, Bool.false_eq_true, if_false, h1', h4', h6', h7', Option.bind_some, hneg, if_true, bne_self_eq_false, e1']
    refine ⟨K1 + K2 + K3 + K4 + K6 + K7 + K8 + K9 + 3, ?_⟩
    have h1' := h1 (K1 + K2 + K3 + K4 + K6 + K7 + K8 + K9 + 3) (by omega)
    have h5c := h5a (K1 + K2 + K3 + K4 + K6 + K7 + K8 + K9 + 3) (by omega)
    have h5d := h5b (K1 + K2 + K3 + K4 + K6 + K7 + K8 + K9 + 3) (by omega)
    have h6' := h6 (K1 + K2 + K3 + K4 + K6 + K7 + K8 + K9 + 3) (by omega)
    have e0' := e0 (K1 + K2 + K3 + K4 + K6 + K7 + K8 + K9) (by omega)
    simp only at h1' h5c h5d h6'
    simp only [laws_FnExactBookLane.f, hs, hn, if_false, Option.bind_some, hn', h1', ht, h5c, h5d, h6', if_true, bne_self_eq_false, e0']

end Go.Proofs.Ytlhncdbflldmeaa.Pure
