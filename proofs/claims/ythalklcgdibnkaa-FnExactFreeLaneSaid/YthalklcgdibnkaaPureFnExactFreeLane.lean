/- 'FnExactFreeLane': what the program's function and the reference's answer, told over numbers and lists alone, meets the law at every input within the kinds' own bounds; no other condition. -/
import Derived.Test.YthalklcgdibnkaaPFnExactFreeLanex5
import Derived.Test.YthalklcgdibnkaaPlain
namespace Go.Proofs.Ythalklcgdibnkaa.Pure
open Go.RowKit Go.Proofs.Ythalklcgdibnkaa.PFnExactFreeLane Go.Proofs.Ythalklcgdibnkaa.Plain Go.Proofs.YthalklcgdibnkaaW.PrintWords Go.Proofs.YthalklcgdibnkaaW.PrintLast
set_option linter.unusedVariables false
set_option linter.unusedSimpArgs false

theorem szBookedS_eq (l : List (S52)) (h : l.length ≤ 140737488351232) (n : Int) (h0 : 0 ≤ n) (h1 : n ≤ 1048576) : laws_szBookedS.f l n = some (if (l.length : Int) > n then -1 else n - l.length) := by
  unfold laws_szBookedS.f
  rw [wrap_in (by omega) (by omega)]
  split <;> split <;> first | rfl | (exfalso; omega)
def cBookedS (x : S52) : S54 := ⟨x.f0, x.f1, x.f2, x.f3⟩
theorem toBookedS_ev (l : List S52) (h : l.length ≤ 1048576) : Ev (fun k => laws_toBookedS.f k l) (l.map cBookedS) := by
  have := to_loop (fun k acc i => laws_toBookedS.l0 k l acc i) cBookedS l z54 (fun k acc => by simp [laws_toBookedS.l0]) (fun i hi => ⟨0, fun k _ acc hacc => by
    have h1 : (i : Int) < (l.length : Int) := by omega
    have h2 : (0 : Int) ≤ (i : Int) := by omega
    have h3 : (i : Int) < (acc.length : Int) := by omega
    have h4 : rd_T52 l (i : Int) = l[i] := by simp [rd_T52, hi]
    simp only [laws_toBookedS.l0, laws_toBooked.f, h1, h2, h3, h4, if_true, Option.bind_some, wrap_succ i (by omega), toNat_i]
    rfl⟩)
  exact Ev.congr (fun k => by
    have h5 : l.length ≤ 100000000 := by omega
    simp only [laws_toBookedS.f, toNat_i]
    rw [if_pos (by omega), if_pos (by omega)]) this
theorem eqBookedS_ev (l : List (S54)) (h : l.length < 9223372036854775807) : Ev (fun k => laws_eqBookedS.f k l l) true := by
  have := eq_loop (fun k i => laws_eqBookedS.l0 k l l i) l.length true (fun k => by simp [laws_eqBookedS.l0]) (fun i hi => ⟨0, fun k _ => by
    have h1 : (i : Int) < (l.length : Int) := by omega
    have h2 : (0 : Int) ≤ (i : Int) := by omega
    simp only [laws_eqBookedS.l0, laws_eqBooked.f, h1, h2, if_true, Option.bind_some, wrap_succ i (by omega), bne_self_eq_false, Bool.false_eq_true, if_false]⟩)
  exact Ev.congr (fun k => by simp only [laws_eqBookedS.f, if_true]) this
theorem markBookedS_ev (l : List (S54)) (h : l.length ≤ 1000000000) : Ev (fun k => laws_markBookedS.f k l 1) (1 + ((4 : Nat) : Int) * (l.length : Int), (List.range l.length).map fun (j : Nat) => (fun m => (⟨m, m + 1, m + 2, m + 3⟩ : S54)) (1 + ((4 : Nat) : Int) * (j : Int))) := by
  refine mark_loop (fun k ys m i => laws_markBookedS.l0 k ys m i) (fun m => (⟨m, m + 1, m + 2, m + 3⟩ : S54)) 4 1 l (fun k ys m hy => by simp [laws_markBookedS.l0, hy]) (fun i hi => ⟨0, fun k _ ys hy => ?_⟩)
  have h1 : (i : Int) < (ys.length : Int) := by omega
  have h2 : (0 : Int) ≤ (i : Int) := by omega
  have hw1 : wrap64 ((1 + 4 * (i : Int)) + 1) = 1 + 4 * (i : Int) + 1 := (wrap_in (by omega) (by omega)).trans (by omega)
  have hw2 : wrap64 ((1 + 4 * (i : Int) + 1) + 1) = 1 + 4 * (i : Int) + 2 := (wrap_in (by omega) (by omega)).trans (by omega)
  have hw3 : wrap64 ((1 + 4 * (i : Int) + 2) + 1) = 1 + 4 * (i : Int) + 3 := (wrap_in (by omega) (by omega)).trans (by omega)
  have hw4 : wrap64 ((1 + 4 * (i : Int) + 3) + 1) = 1 + 4 * (i : Int) + 4 := (wrap_in (by omega) (by omega)).trans (by omega)
  simp only [Int.cast_ofNat_Int] at *
  simp only [laws_markBookedS.l0, h1, h2, if_true, wrap_succ i (by omega), toNat_i, Option.bind_some]
  have hs : ∀ (ys : List S54) (v : S54), ys.length = l.length → rd_T54 (ys.set i v) (i : Int) = v := by intro ys v hv; simp [rd_T54, List.getElem?_set, hv, hi]
  simp (disch := simp [hy]) only [hs, hw1, hw2, hw3, hw4, List.set_set]
  rw [show (1 + 4 * (i : Int) + 4) = 1 + 4 * ((i + 1 : Nat) : Int) by omega]
theorem heldBookedS_ev (n : Nat) (h : n ≤ 1000000000) : Ev (fun k => laws_heldBookedS.f k ((List.range n).map fun (j : Nat) => (fun m => (⟨m, m + 1, m + 2, m + 3⟩ : S54)) (1 + ((4 : Nat) : Int) * (j : Int))) 1) (1 + ((4 : Nat) : Int) * (n : Int)) := by
  refine held_loop (fun k m i => laws_heldBookedS.l0 k ((List.range n).map fun (j : Nat) => (fun m => (⟨m, m + 1, m + 2, m + 3⟩ : S54)) (1 + ((4 : Nat) : Int) * (j : Int))) m i) 4 1 n _ (fun k => by simp [laws_heldBookedS.l0]) (fun i hi => ⟨0, fun k _ => ?_⟩)
  have h1 : (i : Int) < ((((List.range n).map fun (j : Nat) => (fun m => (⟨m, m + 1, m + 2, m + 3⟩ : S54)) (1 + ((4 : Nat) : Int) * (j : Int))).length : Nat) : Int) := by simp; omega
  have h2 : (0 : Int) ≤ (i : Int) := by omega
  have h3 : rd_T54 ((List.range n).map fun (j : Nat) => (fun m => (⟨m, m + 1, m + 2, m + 3⟩ : S54)) (1 + ((4 : Nat) : Int) * (j : Int))) (i : Int) = (fun m => (⟨m, m + 1, m + 2, m + 3⟩ : S54)) (1 + ((4 : Nat) : Int) * (i : Int)) := by simp [rd_T54, hi]
  have hw1 : wrap64 ((1 + 4 * (i : Int)) + 1) = 1 + 4 * (i : Int) + 1 := (wrap_in (by omega) (by omega)).trans (by omega)
  have hw2 : wrap64 ((1 + 4 * (i : Int) + 1) + 1) = 1 + 4 * (i : Int) + 2 := (wrap_in (by omega) (by omega)).trans (by omega)
  have hw3 : wrap64 ((1 + 4 * (i : Int) + 2) + 1) = 1 + 4 * (i : Int) + 3 := (wrap_in (by omega) (by omega)).trans (by omega)
  have hw4 : wrap64 ((1 + 4 * (i : Int) + 3) + 1) = 1 + 4 * (i : Int) + 4 := (wrap_in (by omega) (by omega)).trans (by omega)
  simp only [Int.cast_ofNat_Int] at *
  simp only [laws_heldBookedS.l0, h1, h2, h3, if_true, wrap_succ i (by omega), bne_self_eq_false, Bool.false_eq_true, if_false, id]
  simp only [hw1, hw2, hw3, hw4, if_true]
  rw [show (1 + 4 * (i : Int) + 4) = 1 + 4 * ((i + 1 : Nat) : Int) by omega]
theorem between_eq (a lo hi : Int) : impl_between.f a lo hi = some (decide (lo ≤ a ∧ a ≤ hi)) := by
  unfold impl_between.f
  split <;> simp <;> omega
def okBook (x : S54) : Bool := decide (0 ≤ x.f0 ∧ x.f0 ≤ 9 ∧ 0 ≤ x.f3 ∧ x.f3 ≤ 9 ∧ 0 ≤ x.f1 ∧ x.f1 < x.f2 ∧ x.f2 ≤ 10000)
def okAt (l : List S54) (i : Nat) : Bool := okBook (rd_T54 l (i : Int)) && (decide (i = 0) || decide ((rd_T54 l ((i - 1 : Nat) : Int)).f0 < (rd_T54 l (i : Int)).f0 ∨ ((rd_T54 l ((i - 1 : Nat) : Int)).f0 = (rd_T54 l (i : Int)).f0 ∧ (rd_T54 l ((i - 1 : Nat) : Int)).f2 ≤ (rd_T54 l (i : Int)).f1)))
def goodBooks (l : List S54) : Bool := decide (l.length ≤ 40) && (List.range l.length).all (okAt l)
theorem spec_booked (a b c d : Int) : spec_l27Booked.f a b c d = some (okBook ⟨a, b, c, d⟩) := by
  unfold spec_l27Booked.f okBook
  repeat' split
  all_goals (simp only [Option.some.injEq]; first | (rw [eq_comm, decide_eq_false_iff_not]; omega) | (apply decide_eq_decide.2; omega))
theorem spec_books (l : List S54) (hb : l.length ≤ 1099511627776) : Ev (fun k => spec_GoodBooks.f k l) (goodBooks l) := by
  have hl := all_loop (fun k i => spec_GoodBooks.l0 k l l (l.length : Int) i) l.length (okAt l) true false
    (Ev.at 1 0 (fun k _ => by simp [spec_GoodBooks.l0]))
    (fun i hi hp => ⟨0, fun k _ => by
      have h1 : (i : Int) < (l.length : Int) := by omega
      have h2 : (0 : Int) ≤ (i : Int) := by omega
      simp only [okAt, Bool.and_eq_true, Bool.or_eq_true, decide_eq_true_eq] at hp
      have h3 : okBook ⟨(rd_T54 l (i : Int)).f0, (rd_T54 l (i : Int)).f1, (rd_T54 l (i : Int)).f2, (rd_T54 l (i : Int)).f3⟩ = true := hp.1
      simp only [spec_GoodBooks.l0, h1, h2, if_true, wrap_succ i (by omega), spec_booked, h3, Option.bind_some]
      by_cases h0 : i = 0
      · rw [if_pos (by omega)]
      · have h4 : (0 : Int) ≤ ((i - 1 : Nat) : Int) := by omega
        have h5 : ((i - 1 : Nat) : Int) < (l.length : Int) := by omega
        rw [if_neg (by omega)]
        simp only [wrap_pred i (by omega) (by omega), h4, h5, if_true]
        rw [if_neg (by omega)]
        split
        · rw [if_neg (by omega)]
        · rfl⟩)
    (fun i hi hp => ⟨0, fun k _ => by
      have h1 : (i : Int) < (l.length : Int) := by omega
      have h2 : (0 : Int) ≤ (i : Int) := by omega
      simp only [spec_GoodBooks.l0, h1, h2, if_true, spec_booked, Option.bind_some]
      have e3 : okBook ⟨(rd_T54 l (i : Int)).f0, (rd_T54 l (i : Int)).f1, (rd_T54 l (i : Int)).f2, (rd_T54 l (i : Int)).f3⟩ = okBook (rd_T54 l (i : Int)) := rfl
      rw [e3]
      simp only [okAt] at hp
      cases h3 : okBook (rd_T54 l (i : Int)) with
      | false => simp
      | true =>
        rw [h3, Bool.true_and, Bool.or_eq_false_iff, decide_eq_false_iff_not, decide_eq_false_iff_not] at hp
        have h4 : (0 : Int) ≤ ((i - 1 : Nat) : Int) := by omega
        have h5 : ((i - 1 : Nat) : Int) < (l.length : Int) := by omega
        rw [if_pos rfl, if_neg (by omega)]
        simp only [wrap_pred i (by omega) (by omega), h4, h5, if_true]
        split
        · rfl
        · rw [if_pos (by omega), if_pos (by omega)]⟩)
  obtain ⟨K, hK⟩ := hl
  refine ⟨K, fun k hk => ?_⟩
  have hk' := hK k hk
  simp only [spec_GoodBooks.f, hk', goodBooks]
  generalize (List.range l.length).all (okAt l) = q
  by_cases h40 : l.length ≤ 40
  · rw [if_neg (by omega), decide_eq_true h40]
    cases q <;> rfl
  · rw [if_pos (by omega), decide_eq_false h40]
    rfl
theorem impl_books (l : List S54) (hb : l.length ≤ 1099511627776) : Ev (fun k => impl_GoodBooks.f k l) (goodBooks l) := by
  have hj1 : ∀ (k i : Nat), i < l.length → ∀ b : Bool, b = false → okAt l i = true → okBook (rd_T54 l (i : Int)) = true →
      impl_GoodBooks.j1 (k + 1) l (i : Int) l (l.length : Int) (i : Int) b (rd_T54 l (i : Int)).f0 (rd_T54 l (i : Int)).f1 (rd_T54 l (i : Int)).f2 (rd_T54 l (i : Int)).f3 = impl_GoodBooks.l0 k l l (l.length : Int) ((i + 1 : Nat) : Int) := by
    intro k i hi b hbf hp hok
    subst hbf
    simp only [okAt, Bool.and_eq_true, Bool.or_eq_true, decide_eq_true_eq] at hp
    simp only [impl_GoodBooks.j1, Bool.false_eq_true, if_false, wrap_succ i (by omega)]
    by_cases h0 : i = 0
    · rw [if_neg (by omega)]
    · have h4 : (0 : Int) ≤ ((i - 1 : Nat) : Int) := by omega
      have h5 : ((i - 1 : Nat) : Int) < (l.length : Int) := by omega
      rw [if_pos (by omega)]
      simp only [wrap_pred i (by omega) (by omega), h4, h5, if_true]
      rw [if_neg (by omega)]
      split
      · rw [if_neg (by omega)]
      · rfl
  have hj2 : ∀ (k i : Nat), i < l.length → ∀ b : Bool, (b = true ∨ (b = false ∧ okAt l i = false ∧ okBook (rd_T54 l (i : Int)) = true)) →
      impl_GoodBooks.j1 (k + 1) l (i : Int) l (l.length : Int) (i : Int) b (rd_T54 l (i : Int)).f0 (rd_T54 l (i : Int)).f1 (rd_T54 l (i : Int)).f2 (rd_T54 l (i : Int)).f3 = some false := by
    intro k i hi b hc
    rcases hc with rfl | ⟨rfl, hp, hok⟩
    · simp only [impl_GoodBooks.j1, if_true]
    · rw [okAt, hok, Bool.true_and, Bool.or_eq_false_iff, decide_eq_false_iff_not, decide_eq_false_iff_not] at hp
      have h4 : (0 : Int) ≤ ((i - 1 : Nat) : Int) := by omega
      have h5 : ((i - 1 : Nat) : Int) < (l.length : Int) := by omega
      simp only [impl_GoodBooks.j1, Bool.false_eq_true, if_false]
      rw [if_pos (by omega)]
      simp only [wrap_pred i (by omega) (by omega), h4, h5, if_true]
      split
      · rfl
      · rw [if_pos (by omega), if_pos (by omega)]
  have hj0 : ∀ (k i : Nat), i < l.length → okBook (rd_T54 l (i : Int)) = false → impl_GoodBooks.l0 (k + 2) l l (l.length : Int) (i : Int) = some false := by
    intro k i hi hok
    have h1 : (i : Int) < (l.length : Int) := by omega
    have h2 : (0 : Int) ≤ (i : Int) := by omega
    have ht := hj2 k i hi true (.inl rfl)
    simp only [okBook, decide_eq_false_iff_not] at hok
    rw [impl_GoodBooks.l0]
    simp only [h1, h2, if_true, between_eq, Option.bind_some, decide_eq_true_eq]
    split
    · split
      · split
        · exact ht
        · split
          · exact ht
          · have e : decide ((rd_T54 l (i : Int)).f2 > 10000) = true := by rw [decide_eq_true_eq]; omega
            rw [e]
            exact ht
      · exact ht
    · exact ht
  have hj3 : ∀ (k i : Nat), i < l.length → okBook (rd_T54 l (i : Int)) = true → impl_GoodBooks.l0 (k + 2) l l (l.length : Int) (i : Int) =
      impl_GoodBooks.j1 (k + 1) l (i : Int) l (l.length : Int) (i : Int) false (rd_T54 l (i : Int)).f0 (rd_T54 l (i : Int)).f1 (rd_T54 l (i : Int)).f2 (rd_T54 l (i : Int)).f3 := by
    intro k i hi hok
    have h1 : (i : Int) < (l.length : Int) := by omega
    have h2 : (0 : Int) ≤ (i : Int) := by omega
    simp only [okBook, decide_eq_true_eq] at hok
    rw [impl_GoodBooks.l0]
    simp only [h1, h2, if_true, between_eq, Option.bind_some, decide_eq_true_eq]
    have e : decide ((rd_T54 l (i : Int)).f2 > 10000) = false := by rw [decide_eq_false_iff_not]; omega
    rw [if_pos (by omega), if_pos (by omega), if_neg (by omega), if_neg (by omega), e]
  have hend : Ev (fun k => impl_GoodBooks.l0 k l l (l.length : Int) (l.length : Int)) (decide (l.length ≤ 40)) := Ev.at 1 0 (fun k _ => by
    have h1 : ¬ ((l.length : Int) < (l.length : Int)) := by omega
    simp only [impl_GoodBooks.l0, h1, if_false, Option.some.injEq]
    apply decide_eq_decide.2
    omega)
  have key : ∀ (d i : Nat), i + d = l.length → Ev (fun k => impl_GoodBooks.l0 k l l (l.length : Int) (i : Int)) (if (List.range' i d).all (okAt l) = true then decide (l.length ≤ 40) else false) := by
    intro d
    induction d with
    | zero =>
      intro i hi
      obtain rfl : i = l.length := by omega
      simpa using hend
    | succ d ih =>
      intro i hi
      rw [List.range'_succ, List.all_cons]
      cases hp : okAt l i with
      | true =>
        have hok : okBook (rd_T54 l (i : Int)) = true := by
          simp only [okAt, Bool.and_eq_true] at hp
          exact hp.1
        have := ih (i + 1) (by omega)
        simp only [Bool.true_and]
        exact Ev.back 2 0 (fun k _ => by rw [hj3 k i (by omega) hok, hj1 k i (by omega) false rfl hp hok]) this
      | false =>
        simp only [Bool.false_and, Bool.false_eq_true, if_false]
        cases hok : okBook (rd_T54 l (i : Int)) with
        | true => exact Ev.at 2 0 (fun k _ => by rw [hj3 k i (by omega) hok, hj2 k i (by omega) false (.inr ⟨rfl, hp, hok⟩)])
        | false => exact Ev.at 2 0 (fun k _ => hj0 k i (by omega) hok)
  have := key l.length 0 (by omega)
  rw [← List.range_eq_range'] at this
  have e : (if (List.range l.length).all (okAt l) = true then decide (l.length ≤ 40) else false) = goodBooks l := by
    unfold goodBooks
    cases (List.range l.length).all (okAt l) <;> simp
  rw [e] at this
  exact this
theorem lane_same : ∀ (k : Nat), (∀ (a f : Int) (o l : List S54) (n i : Int), impl_FreeLane.l0 k a f o l n i = spec_FreeLane.l0 k a f o l n i) ∧
    (∀ (a f : Int) (o l : List S54) (n i : Int) (b : Bool) (p q r s : Int), impl_FreeLane.j1 k a f o l n i b p q r s = spec_FreeLane.j1 k a f o l n i b p q r s)
  | 0 => ⟨fun _ _ _ _ _ _ => rfl, fun _ _ _ _ _ _ _ _ _ _ _ => rfl⟩
  | k + 1 => by
    obtain ⟨h1, h2⟩ := lane_same k
    exact ⟨fun a f o l n i => by simp only [impl_FreeLane.l0, spec_FreeLane.l0, h2], fun a f o l n i b p q r s => by simp only [impl_FreeLane.j1, spec_FreeLane.j1, h1]⟩
theorem lane_ends (a f : Int) (l : List S54) (hb : l.length ≤ 1048576) : ∃ r : List S54 × Bool, r.1.length ≤ l.length ∧ Ev (fun k => spec_FreeLane.l0 k a f [] l (l.length : Int) 0) r := by
  obtain ⟨r, hp, h⟩ := one_while (fun k (s : List S54 × Int) => spec_FreeLane.l0 k a f s.1 l (l.length : Int) s.2) (fun d s => ∃ i : Nat, s.2 = (i : Int) ∧ i + d = l.length ∧ s.1.length ≤ i) (fun r => r.1.length ≤ l.length)
    (by
      rintro d ⟨s, j⟩ ⟨i, hj, hd, hs⟩
      obtain rfl : j = (i : Int) := hj
      simp only at hs
      by_cases hi : i < l.length
      · right
        have h1 : (i : Int) < (l.length : Int) := by omega
        have h2 : (0 : Int) ≤ (i : Int) := by omega
        have h3 : s.length < 4398046511104 := by omega
        have hj0 : ∀ k (b : Bool), b = false → ∀ p q r t, spec_FreeLane.j1 (k + 1) a f s l (l.length : Int) (i : Int) b p q r t = spec_FreeLane.l0 k a f (s ++ [⟨p, q, r, t⟩]) l (l.length : Int) ((i + 1 : Nat) : Int) := by
          intro k b hb p q r t
          subst hb
          simp only [spec_FreeLane.j1, h3, if_true, Bool.false_eq_true, if_false, wrap_succ i (by omega)]
        by_cases hc : (rd_T54 l (i : Int)).f3 = a ∧ (rd_T54 l (i : Int)).f2 > f
        · by_cases hq : (rd_T54 l (i : Int)).f1 ≥ f
          · refine ⟨d - 1, (s, ((i + 1 : Nat) : Int)), by omega, ⟨i + 1, rfl, by omega, by simp only; omega⟩, fun r hr => Ev.back 2 0 (fun k _ => ?_) hr⟩
            simp only [spec_FreeLane.l0, spec_FreeLane.j1, h1, h2, if_true, hc.1, hc.2, decide_true, hq, wrap_succ i (by omega)]
          · refine ⟨d - 1, (s ++ [⟨(rd_T54 l (i : Int)).f0, (rd_T54 l (i : Int)).f1, f, (rd_T54 l (i : Int)).f3⟩], ((i + 1 : Nat) : Int)), by omega, ⟨i + 1, rfl, by omega, by simp; omega⟩, fun r hr => Ev.back 2 0 (fun k _ => ?_) hr⟩
            simp only [spec_FreeLane.l0, spec_FreeLane.j1, h1, h2, h3, if_true, hc.1, hc.2, decide_true, hq, if_false, wrap_succ i (by omega)]
        · refine ⟨d - 1, (s ++ [⟨(rd_T54 l (i : Int)).f0, (rd_T54 l (i : Int)).f1, (rd_T54 l (i : Int)).f2, (rd_T54 l (i : Int)).f3⟩], ((i + 1 : Nat) : Int)), by omega, ⟨i + 1, rfl, by omega, by simp; omega⟩, fun r hr => Ev.back 2 0 (fun k _ => ?_) hr⟩
          rw [spec_FreeLane.l0]
          simp only [h1, h2, if_true]
          split
          · rw [hj0 _ _ (by rw [decide_eq_false_iff_not]; intro h; exact hc ⟨‹_›, h⟩)]
          · rw [hj0 _ _ rfl]
      · left
        have h1 : ¬ (i : Int) < (l.length : Int) := by omega
        exact ⟨(s, true), by simp only; omega, Ev.at 1 0 (fun k _ => by simp only [spec_FreeLane.l0, h1, if_false])⟩) l.length ([], 0) ⟨0, rfl, by omega, by simp⟩
  exact ⟨r, hp, h⟩
theorem FnExactFreeLane : ∀ (l0 : List (S52)) (a1 : Int) (a2 : Int), ((∀ (zl0 : S52), zl0 ∈ l0 → ((Lit.int .i64 zl0.f0).wf = true ∧ (Lit.int .i64 zl0.f1).wf = true ∧ (Lit.int .i64 zl0.f2).wf = true ∧ (Lit.int .i64 zl0.f3).wf = true)) ∧ l0.length * 32 ≤ 140737488351232) → (Lit.int .i64 a1).wf = true → (Lit.int .i64 a2).wf = true → ∃ k, laws_FnExactFreeLane.f k l0 a1 a2 = some true := by
  intro l a f ⟨_, hl⟩ _ _
  have hs := szBookedS_eq l (by omega) 1048576 (by omega) (by omega)
  by_cases hn : (l.length : Int) > 1048576
  · exact ⟨0, by simp [laws_FnExactFreeLane.f, hs, hn]⟩
  · have hn' : ¬ ((1048576 : Int) - l.length < 0) := by omega
    have hlm : (l.map cBookedS).length = l.length := List.length_map ..
    obtain ⟨K1, h1⟩ := toBookedS_ev l (by omega)
    generalize l.map cBookedS = L at *
    obtain ⟨K2, h2⟩ := spec_books L (by omega)
    obtain ⟨K3, h3⟩ := impl_books L (by omega)
    obtain ⟨K4, h4⟩ := eqBookedS_ev L (by omega)
    have both : ∃ r : List S54 × Bool, r.1.length ≤ L.length ∧ ∃ K, ∀ k, K ≤ k → spec_FreeLane.f k L a f = some r ∧ impl_FreeLane.f k L a f = some r := by
      by_cases hg : goodBooks L = true
      · obtain ⟨r, hr, K5, h5⟩ := lane_ends a f L (by omega)
        refine ⟨r, hr, K2 + K3 + K5, fun k hk => ?_⟩
        have h5' := h5 k (by omega)
        have h6' : impl_FreeLane.l0 k a f [] L (L.length : Int) 0 = some r := ((lane_same k).1 _ _ _ _ _ _).trans h5'
        simp (disch := omega) only [spec_FreeLane.f, impl_FreeLane.f, h2, h3, hg, Option.bind_some, if_true]
        exact ⟨h5', h6'⟩
      · refine ⟨([], false), by simp, K2 + K3, fun k hk => ?_⟩
        simp (disch := omega) only [spec_FreeLane.f, impl_FreeLane.f, h2, h3, hg, Option.bind_some, if_false, Bool.false_eq_true, and_self]
    obtain ⟨⟨G, b⟩, hG, K5, h5⟩ := both
    simp only at hG
    obtain ⟨K6, h6⟩ := eqBookedS_ev G (by omega)
    obtain ⟨K7, h7⟩ := markBookedS_ev L (by omega)
    obtain ⟨K8, h8⟩ := markBookedS_ev G (by omega)
    obtain ⟨K9, h9⟩ := heldBookedS_ev G.length (by omega)
    have h5a : ∀ k, K5 ≤ k → spec_FreeLane.f k L a f = some (G, b) := fun k hk => (h5 k hk).1
    have h5b : ∀ k, K5 ≤ k → impl_FreeLane.f k L a f = some (G, b) := fun k hk => (h5 k hk).2
    have hneg : ¬ ((1 : Int) + ((4 : Nat) : Int) * (L.length : Int) < 0) := by omega
    have hneg2 : ¬ ((1 : Int) + ((4 : Nat) : Int) * (G.length : Int) < 0) := by omega
    have e2 : ∀ k, K9 ≤ k → laws_FnExactFreeLane.j2 (k + 1) ((List.range G.length).map fun (j : Nat) => (fun m => (⟨m, m + 1, m + 2, m + 3⟩ : S54)) (1 + ((4 : Nat) : Int) * (j : Int))) (1 + ((4 : Nat) : Int) * (G.length : Int)) false = some true := by
      intro k hk
      have h9' := h9 k hk
      simp only at h9'
      simp only [laws_FnExactFreeLane.j2, Bool.false_eq_true, if_false, h9', Option.bind_some, hneg2, if_true]
    have e1 : ∀ k, K1 + K5 + K6 + K8 + K9 ≤ k → laws_FnExactFreeLane.j1 (k + 2) l a f G b G false = some true := by
      intro k hk
      have h8' := h8 (k + 1) (by omega)
      have h9' := h9 (k + 1) (by omega)
      have h1' := h1 (k + 1) (by omega)
      have h5' := h5b (k + 1) (by omega)
      have h6' := h6 (k + 1) (by omega)
      have e2' := e2 k (by omega)
      simp only at h8' h9' h1' h6' e2'
      simp only [laws_FnExactFreeLane.j1, Bool.false_eq_true, if_false, h8', h9', h1', h5', h6', Option.bind_some, hneg2, if_true, bne_self_eq_false, e2']
    have e0 : ∀ k, K1 + K4 + K5 + K6 + K7 + K8 + K9 ≤ k → laws_FnExactFreeLane.j0 (k + 3) l a f G b L G b false = some true := by
      intro k hk
      have h1' := h1 (k + 2) (by omega)
      have h4' := h4 (k + 2) (by omega)
      have h6' := h6 (k + 2) (by omega)
      have h7' := h7 (k + 2) (by omega)
      have e1' := e1 k (by omega)
      simp only at h1' h4' h6' h7'
      simp only [laws_FnExactFreeLane.j0, Bool.false_eq_true, if_false, h1', h4', h6', h7', Option.bind_some, hneg, if_true, bne_self_eq_false, e1']
    refine ⟨K1 + K2 + K3 + K4 + K5 + K6 + K7 + K8 + K9 + 3, ?_⟩
    have h1' := h1 (K1 + K2 + K3 + K4 + K5 + K6 + K7 + K8 + K9 + 3) (by omega)
    have h5c := h5a (K1 + K2 + K3 + K4 + K5 + K6 + K7 + K8 + K9 + 3) (by omega)
    have h5d := h5b (K1 + K2 + K3 + K4 + K5 + K6 + K7 + K8 + K9 + 3) (by omega)
    have h6' := h6 (K1 + K2 + K3 + K4 + K5 + K6 + K7 + K8 + K9 + 3) (by omega)
    have e0' := e0 (K1 + K2 + K3 + K4 + K5 + K6 + K7 + K8 + K9) (by omega)
    simp only at h1' h6'
    simp only [laws_FnExactFreeLane.f, hs, hn, if_false, Option.bind_some, hn', h1', h5c, h5d, h6', if_true, bne_self_eq_false, e0']

end Go.Proofs.Ythalklcgdibnkaa.Pure
