/- 'FnBooks': for every input: what is booked is good and has all; the first free time can be booked, an earlier one can't; what is given back leaves the others. No condition. -/
import Derived.Test.YtlhncdbflldmeaaQFnBooksx11
import Derived.Test.YtlhncdbflldmeaaPlain
namespace Go.Proofs.Ytlhncdbflldmeaa.Pure
open Go.RowKit Go.Proofs.Ytlhncdbflldmeaa.PFnBooks Go.Proofs.Ytlhncdbflldmeaa.Plain Go.Proofs.YtlhncdbflldmeaaW.PrintWords Go.Proofs.YtlhncdbflldmeaaW.PrintLast
set_option linter.unusedVariables false
set_option linter.unusedSimpArgs false

theorem between_eq (a lo hi : Int) : impl_between.f a lo hi = some (decide (lo ≤ a ∧ a ≤ hi)) := by
  unfold impl_between.f
  split <;> simp <;> omega
def okBook (x : S53) : Bool := decide (0 ≤ x.f0 ∧ x.f0 ≤ 9 ∧ 0 ≤ x.f3 ∧ x.f3 ≤ 9 ∧ 0 ≤ x.f1 ∧ x.f1 < x.f2 ∧ x.f2 ≤ 10000)
def okAt (l : List S53) (i : Nat) : Bool := okBook (rd_T53 l (i : Int)) && (decide (i = 0) || decide ((rd_T53 l ((i - 1 : Nat) : Int)).f0 < (rd_T53 l (i : Int)).f0 ∨ ((rd_T53 l ((i - 1 : Nat) : Int)).f0 = (rd_T53 l (i : Int)).f0 ∧ (rd_T53 l ((i - 1 : Nat) : Int)).f2 ≤ (rd_T53 l (i : Int)).f1)))
def goodBooks (l : List S53) : Bool := decide (l.length ≤ 40) && (List.range l.length).all (okAt l)
theorem spec_booked (a b c d : Int) : spec_l27Booked.f a b c d = some (okBook ⟨a, b, c, d⟩) := by
  unfold spec_l27Booked.f okBook
  repeat' split
  all_goals (simp only [Option.some.injEq]; first | (rw [eq_comm, decide_eq_false_iff_not]; omega) | (apply decide_eq_decide.2; omega))
theorem spec_books (l : List S53) (hb : l.length ≤ 1099511627776) : Ev (fun k => spec_GoodBooks.f k l) (goodBooks l) := by
  have hl := all_loop (fun k i => spec_GoodBooks.l0 k l l (l.length : Int) i) l.length (okAt l) true false
    (Ev.at 1 0 (fun k _ => by simp [spec_GoodBooks.l0]))
    (fun i hi hp => ⟨0, fun k _ => by
      have h1 : (i : Int) < (l.length : Int) := by omega
      have h2 : (0 : Int) ≤ (i : Int) := by omega
      simp only [okAt, Bool.and_eq_true, Bool.or_eq_true, decide_eq_true_eq] at hp
      have h3 : okBook ⟨(rd_T53 l (i : Int)).f0, (rd_T53 l (i : Int)).f1, (rd_T53 l (i : Int)).f2, (rd_T53 l (i : Int)).f3⟩ = true := hp.1
      simp only [spec_GoodBooks.l0, h1, h2, if_true, wrap_succ i (by omega), spec_booked, h3, Option.bind_some]
      by_cases h0 : i = 0
      · rw [if_pos (by omega)]
      · have h4 : (0 : Int) ≤ ((i - 1 : Nat) : Int) := by omega
        have h5 : ((i - 1 : Nat) : Int) < (l.length : Int) := by omega
        rw [if_neg (by omega)]
        simp only [wrap_pred i (by omega) (by omega), h4, h5, if_true]
        rw [if_neg (by omega)]
        split
        · rw [if_neg (by omega)]
        · rfl⟩)
    (fun i hi hp => ⟨0, fun k _ => by
      have h1 : (i : Int) < (l.length : Int) := by omega
      have h2 : (0 : Int) ≤ (i : Int) := by omega
      simp only [spec_GoodBooks.l0, h1, h2, if_true, spec_booked, Option.bind_some]
      have e3 : okBook ⟨(rd_T53 l (i : Int)).f0, (rd_T53 l (i : Int)).f1, (rd_T53 l (i : Int)).f2, (rd_T53 l (i : Int)).f3⟩ = okBook (rd_T53 l (i : Int)) := rfl
      rw [e3]
      simp only [okAt] at hp
      cases h3 : okBook (rd_T53 l (i : Int)) with
      | false => simp
      | true =>
        rw [h3, Bool.true_and, Bool.or_eq_false_iff, decide_eq_false_iff_not, decide_eq_false_iff_not] at hp
        have h4 : (0 : Int) ≤ ((i - 1 : Nat) : Int) := by omega
        have h5 : ((i - 1 : Nat) : Int) < (l.length : Int) := by omega
        rw [if_pos rfl, if_neg (by omega)]
        simp only [wrap_pred i (by omega) (by omega), h4, h5, if_true]
        split
        · rfl
        · rw [if_pos (by omega), if_pos (by omega)]⟩)
  obtain ⟨K, hK⟩ := hl
  refine ⟨K, fun k hk => ?_⟩
  have hk' := hK k hk
  simp only [spec_GoodBooks.f, hk', goodBooks]
  generalize (List.range l.length).all (okAt l) = q
  by_cases h40 : l.length ≤ 40
  · rw [if_neg (by omega), decide_eq_true h40]
    cases q <;> rfl
  · rw [if_pos (by omega), decide_eq_false h40]
    rfl
theorem impl_books (l : List S53) (hb : l.length ≤ 1099511627776) : Ev (fun k => impl_GoodBooks.f k l) (goodBooks l) := by
  have hj1 : ∀ (k i : Nat), i < l.length → ∀ b : Bool, b = false → okAt l i = true → okBook (rd_T53 l (i : Int)) = true →
      impl_GoodBooks.j1 (k + 1) l (i : Int) l (l.length : Int) (i : Int) b (rd_T53 l (i : Int)).f0 (rd_T53 l (i : Int)).f1 (rd_T53 l (i : Int)).f2 (rd_T53 l (i : Int)).f3 = impl_GoodBooks.l0 k l l (l.length : Int) ((i + 1 : Nat) : Int) := by
    intro k i hi b hbf hp hok
    subst hbf
    simp only [okAt, Bool.and_eq_true, Bool.or_eq_true, decide_eq_true_eq] at hp
    simp only [impl_GoodBooks.j1, Bool.false_eq_true, if_false, wrap_succ i (by omega)]
    by_cases h0 : i = 0
    · rw [if_neg (by omega)]
    · have h4 : (0 : Int) ≤ ((i - 1 : Nat) : Int) := by omega
      have h5 : ((i - 1 : Nat) : Int) < (l.length : Int) := by omega
      rw [if_pos (by omega)]
      simp only [wrap_pred i (by omega) (by omega), h4, h5, if_true]
      rw [if_neg (by omega)]
      split
      · rw [if_neg (by omega)]
      · rfl
  have hj2 : ∀ (k i : Nat), i < l.length → ∀ b : Bool, (b = true ∨ (b = false ∧ okAt l i = false ∧ okBook (rd_T53 l (i : Int)) = true)) →
      impl_GoodBooks.j1 (k + 1) l (i : Int) l (l.length : Int) (i : Int) b (rd_T53 l (i : Int)).f0 (rd_T53 l (i : Int)).f1 (rd_T53 l (i : Int)).f2 (rd_T53 l (i : Int)).f3 = some false := by
    intro k i hi b hc
    rcases hc with rfl | ⟨rfl, hp, hok⟩
    · simp only [impl_GoodBooks.j1, if_true]
    · rw [okAt, hok, Bool.true_and, Bool.or_eq_false_iff, decide_eq_false_iff_not, decide_eq_false_iff_not] at hp
      have h4 : (0 : Int) ≤ ((i - 1 : Nat) : Int) := by omega
      have h5 : ((i - 1 : Nat) : Int) < (l.length : Int) := by omega
      simp only [impl_GoodBooks.j1, Bool.false_eq_true, if_false]
      rw [if_pos (by omega)]
      simp only [wrap_pred i (by omega) (by omega), h4, h5, if_true]
      split
      · rfl
      · rw [if_pos (by omega), if_pos (by omega)]
  have hj0 : ∀ (k i : Nat), i < l.length → okBook (rd_T53 l (i : Int)) = false → impl_GoodBooks.l0 (k + 2) l l (l.length : Int) (i : Int) = some false := by
    intro k i hi hok
    have h1 : (i : Int) < (l.length : Int) := by omega
    have h2 : (0 : Int) ≤ (i : Int) := by omega
    have ht := hj2 k i hi true (.inl rfl)
    simp only [okBook, decide_eq_false_iff_not] at hok
    rw [impl_GoodBooks.l0]
    simp only [h1, h2, if_true, between_eq, Option.bind_some, decide_eq_true_eq]
    split
    · split
      · split
        · exact ht
        · split
          · exact ht
          · have e : decide ((rd_T53 l (i : Int)).f2 > 10000) = true := by rw [decide_eq_true_eq]; omega
            rw [e]
            exact ht
      · exact ht
    · exact ht
  have hj3 : ∀ (k i : Nat), i < l.length → okBook (rd_T53 l (i : Int)) = true → impl_GoodBooks.l0 (k + 2) l l (l.length : Int) (i : Int) =
      impl_GoodBooks.j1 (k + 1) l (i : Int) l (l.length : Int) (i : Int) false (rd_T53 l (i : Int)).f0 (rd_T53 l (i : Int)).f1 (rd_T53 l (i : Int)).f2 (rd_T53 l (i : Int)).f3 := by
    intro k i hi hok
    have h1 : (i : Int) < (l.length : Int) := by omega
    have h2 : (0 : Int) ≤ (i : Int) := by omega
    simp only [okBook, decide_eq_true_eq] at hok
    rw [impl_GoodBooks.l0]
    simp only [h1, h2, if_true, between_eq, Option.bind_some, decide_eq_true_eq]
    have e : decide ((rd_T53 l (i : Int)).f2 > 10000) = false := by rw [decide_eq_false_iff_not]; omega
    rw [if_pos (by omega), if_pos (by omega), if_neg (by omega), if_neg (by omega), e]
  have hend : Ev (fun k => impl_GoodBooks.l0 k l l (l.length : Int) (l.length : Int)) (decide (l.length ≤ 40)) := Ev.at 1 0 (fun k _ => by
    have h1 : ¬ ((l.length : Int) < (l.length : Int)) := by omega
    simp only [impl_GoodBooks.l0, h1, if_false, Option.some.injEq]
    apply decide_eq_decide.2
    omega)
  have key : ∀ (d i : Nat), i + d = l.length → Ev (fun k => impl_GoodBooks.l0 k l l (l.length : Int) (i : Int)) (if (List.range' i d).all (okAt l) = true then decide (l.length ≤ 40) else false) := by
    intro d
    induction d with
    | zero =>
      intro i hi
      obtain rfl : i = l.length := by omega
      simpa using hend
    | succ d ih =>
      intro i hi
      rw [List.range'_succ, List.all_cons]
      cases hp : okAt l i with
      | true =>
        have hok : okBook (rd_T53 l (i : Int)) = true := by
          simp only [okAt, Bool.and_eq_true] at hp
          exact hp.1
        have := ih (i + 1) (by omega)
        simp only [Bool.true_and]
        exact Ev.back 2 0 (fun k _ => by rw [hj3 k i (by omega) hok, hj1 k i (by omega) false rfl hp hok]) this
      | false =>
        simp only [Bool.false_and, Bool.false_eq_true, if_false]
        cases hok : okBook (rd_T53 l (i : Int)) with
        | true => exact Ev.at 2 0 (fun k _ => by rw [hj3 k i (by omega) hok, hj2 k i (by omega) false (.inr ⟨rfl, hp, hok⟩)])
        | false => exact Ev.at 2 0 (fun k _ => hj0 k i (by omega) hok)
  have := key l.length 0 (by omega)
  rw [← List.range_eq_range'] at this
  have e : (if (List.range l.length).all (okAt l) = true then decide (l.length ≤ 40) else false) = goodBooks l := by
    unfold goodBooks
    cases (List.range l.length).all (okAt l) <;> simp
  rw [e] at this
  exact this
def putIn (l : List S53) (b : S53) (j : Nat) : List S53 := l.take j ++ [b] ++ l.drop j
def booked (l : List S53) (b : S53) (j : Nat) : List S53 × Bool := if goodBooks (putIn l b j) = true then (putIn l b j, true) else ([], false)
def ahead (x b : S53) : Bool := decide (x.f0 < b.f0 ∨ (x.f0 = b.f0 ∧ x.f1 < b.f1))
theorem putIn_length (l : List S53) (b : S53) (j : Nat) (h : j ≤ l.length) : (putIn l b j).length = l.length + 1 := by
  simp only [putIn, List.length_append, List.length_take, List.length_drop, List.length_singleton]
  omega
theorem spec_done (l : List S53) (b0 b1 b2 b3 : Int) (i : Nat) (hi : i ≤ l.length) (hl : l.length ≤ 1000) (hx : i < l.length → ahead (rd_T53 l (i : Int)) ⟨b0, b1, b2, b3⟩ = false) :
    Ev (fun k => spec_BookLane.l0 k l (i : Int) b0 b1 b2 b3) (booked l ⟨b0, b1, b2, b3⟩ i) := by
  obtain ⟨K, hg⟩ := spec_books (putIn l ⟨b0, b1, b2, b3⟩ i) (by rw [putIn_length _ _ _ hi]; omega)
  refine Ev.next ⟨K, fun k hk => ?_⟩
  have hg' := hg k hk
  have t0 : ((i : Int)).toNat = i := by omega
  have h2 : (0 : Int) ≤ (i : Int) := by omega
  have h3 : (i : Int) ≤ (l.length : Int) := by omega
  have f1 : (l.take i).length < 4398046511104 := by rw [List.length_take]; omega
  have f3 : (l.take i ++ [(⟨b0, b1, b2, b3⟩ : S53)]).length + (l.drop i).length < 4398046511104 := by rw [List.length_append, List.length_take, List.length_drop, List.length_singleton]; omega
  have hg2 : spec_GoodBooks.f k (l.take i ++ [(⟨b0, b1, b2, b3⟩ : S53)] ++ l.drop i) = some (goodBooks (putIn l ⟨b0, b1, b2, b3⟩ i)) := hg'
  have fin : (if goodBooks (putIn l ⟨b0, b1, b2, b3⟩ i) = true then some (l.take i ++ [(⟨b0, b1, b2, b3⟩ : S53)] ++ l.drop i, true) else some ([], false)) = some (booked l ⟨b0, b1, b2, b3⟩ i) := by
    unfold booked
    split <;> rfl
  by_cases h1 : (i : Int) < (l.length : Int)
  · have ha := hx (by omega)
    simp only [ahead, decide_eq_false_iff_not] at ha
    have a1 : ¬ (rd_T53 l (i : Int)).f0 < b0 := by omega
    by_cases a2 : (rd_T53 l (i : Int)).f0 = b0
    · have a3 : ¬ (rd_T53 l (i : Int)).f1 < b1 := by omega
      simp only [spec_BookLane.l0, h1, h2, h3, a1, a2, a3, if_true, if_false, t0, Option.bind_some, List.length_nil, Nat.zero_add, List.nil_append, f1, f3, hg2]
      simp only [Int.lt_irrefl, if_false]
      exact fin
    · simp only [spec_BookLane.l0, h1, h2, h3, a1, a2, if_true, if_false, t0, Option.bind_some, List.length_nil, Nat.zero_add, List.nil_append, f1, f3, hg2]
      exact fin
  · simp only [spec_BookLane.l0, h1, h2, h3, if_true, if_false, t0, Option.bind_some, List.length_nil, Nat.zero_add, List.nil_append, f1, f3, hg2]
    exact fin
theorem impl_tail (l : List S53) (b0 b1 b2 b3 : Int) (i : Nat) (hi : i ≤ l.length) (hl : l.length ≤ 1000) : Ev (fun k => impl_BookLane.j1 k l (i : Int) b0 b1 b2 b3) (booked l ⟨b0, b1, b2, b3⟩ i) := by
  obtain ⟨K, hg⟩ := impl_books (putIn l ⟨b0, b1, b2, b3⟩ i) (by rw [putIn_length _ _ _ hi]; omega)
  refine Ev.next ⟨K, fun k hk => ?_⟩
  have hg2 : impl_GoodBooks.f k (l.take i ++ [(⟨b0, b1, b2, b3⟩ : S53)] ++ l.drop i) = some (goodBooks (putIn l ⟨b0, b1, b2, b3⟩ i)) := hg k hk
  have t0 : ((i : Int)).toNat = i := by omega
  have f1 : l.length < 4398046511104 := by omega
  have f2 : 0 ≤ (i : Int) ∧ (i : Int) ≤ (l.length : Int) ∧ ([(⟨b0, b1, b2, b3⟩ : S53)]).length = 1 ∧ l.length ≤ 1000000 := ⟨by omega, by omega, rfl, by omega⟩
  have e1 : impl_Booked_57.f l = some l := by
    unfold impl_Booked_57.f
    simp only [Option.bind_some, List.length_nil, Nat.zero_add, List.nil_append, f1, if_true]
  have e2 : impl_Booked_56.f l (i : Int) [(⟨b0, b1, b2, b3⟩ : S53)] = some (l.take i ++ [(⟨b0, b1, b2, b3⟩ : S53)] ++ l.drop i) := by
    unfold impl_Booked_56.f
    rw [if_pos f2, t0]
  simp only [impl_BookLane.j1, e1, e2, Option.bind_some, hg2]
  unfold booked
  split <;> rfl
theorem impl_done (l : List S53) (b0 b1 b2 b3 : Int) (i : Nat) (hi : i ≤ l.length) (hl : l.length ≤ 1000) (hx : i < l.length → ahead (rd_T53 l (i : Int)) ⟨b0, b1, b2, b3⟩ = false) :
    Ev (fun k => impl_BookLane.l0 k l (i : Int) b0 b1 b2 b3) (booked l ⟨b0, b1, b2, b3⟩ i) := by
  refine Ev.step (fun k => ?_) (impl_tail l b0 b1 b2 b3 i hi hl)
  have h2 : (0 : Int) ≤ (i : Int) := by omega
  by_cases h1 : (i : Int) < (l.length : Int)
  · have ha := hx (by omega)
    simp only [ahead, decide_eq_false_iff_not] at ha
    have a1 : ¬ (rd_T53 l (i : Int)).f0 < b0 := by omega
    by_cases a2 : (rd_T53 l (i : Int)).f0 = b0
    · have a3 : ¬ (rd_T53 l (i : Int)).f1 < b1 := by omega
      simp only [impl_BookLane.l0, h1, h2, a1, if_true, if_false]
      rw [if_pos a2, if_neg a3]
    · simp only [impl_BookLane.l0, h1, h2, a1, a2, if_true, if_false]
  · simp only [impl_BookLane.l0, h1, if_false]
theorem book_loops (l : List S53) (b0 b1 b2 b3 : Int) (hl : l.length ≤ 1000) : ∀ (d i : Nat), i + d = l.length → ∃ j, i ≤ j ∧ j ≤ l.length ∧ (∀ q : Nat, i ≤ q → q < j → ahead (rd_T53 l (q : Int)) ⟨b0, b1, b2, b3⟩ = true) ∧ (j < l.length → ahead (rd_T53 l (j : Int)) ⟨b0, b1, b2, b3⟩ = false) ∧
    Ev (fun k => spec_BookLane.l0 k l (i : Int) b0 b1 b2 b3) (booked l ⟨b0, b1, b2, b3⟩ j) ∧ Ev (fun k => impl_BookLane.l0 k l (i : Int) b0 b1 b2 b3) (booked l ⟨b0, b1, b2, b3⟩ j) := by
  intro d
  induction d with
  | zero =>
    intro i hi
    exact ⟨i, Nat.le_refl _, by omega, fun q h1 h2 => by omega, fun h => by omega, spec_done l b0 b1 b2 b3 i (by omega) hl (fun h => by omega), impl_done l b0 b1 b2 b3 i (by omega) hl (fun h => by omega)⟩
  | succ d ih =>
    intro i hi
    have h1 : (i : Int) < (l.length : Int) := by omega
    have h2 : (0 : Int) ≤ (i : Int) := by omega
    cases ha : ahead (rd_T53 l (i : Int)) ⟨b0, b1, b2, b3⟩ with
    | false => exact ⟨i, Nat.le_refl _, by omega, fun q h1 h2 => by omega, fun _ => ha, spec_done l b0 b1 b2 b3 i (by omega) hl (fun _ => ha), impl_done l b0 b1 b2 b3 i (by omega) hl (fun _ => ha)⟩
    | true =>
      obtain ⟨j, j1, j2, j3, j4, j5, j6⟩ := ih (i + 1) (by omega)
      have e := wrap_succ i (by omega)
      have ha2 := ha
      simp only [ahead, decide_eq_true_eq] at ha
      refine ⟨j, by omega, j2, fun q q1 q2 => ?_, j4, Ev.step (fun k => ?_) j5, Ev.step (fun k => ?_) j6⟩
      · by_cases hq : q = i
        · rw [hq]; exact ha2
        · exact j3 q (by omega) q2
      · by_cases a1 : (rd_T53 l (i : Int)).f0 < b0
        · simp only [spec_BookLane.l0, h1, h2, a1, if_true, e]
        · have a2 : (rd_T53 l (i : Int)).f0 = b0 := by omega
          have a3 : (rd_T53 l (i : Int)).f1 < b1 := by omega
          simp only [spec_BookLane.l0, h1, h2, a1, if_true, if_false, e]
          rw [if_pos a2, if_pos a3]
      · by_cases a1 : (rd_T53 l (i : Int)).f0 < b0
        · simp only [impl_BookLane.l0, h1, h2, a1, if_true, e]
        · have a2 : (rd_T53 l (i : Int)).f0 = b0 := by omega
          have a3 : (rd_T53 l (i : Int)).f1 < b1 := by omega
          simp only [impl_BookLane.l0, h1, h2, a1, if_true, if_false, e]
          rw [if_pos a2, if_pos a3]
theorem good_all (l : List S53) (h : goodBooks l = true) (i : Nat) (hi : i < l.length) : okBook (rd_T53 l (i : Int)) = true := by
  simp only [goodBooks, Bool.and_eq_true, List.all_eq_true, List.mem_range] at h
  have := h.2 i hi
  simp only [okAt, Bool.and_eq_true] at this
  exact this.1
theorem putIn_at (l : List S53) (b : S53) (j : Nat) (h : j ≤ l.length) : rd_T53 (putIn l b j) (j : Int) = b := by
  have hl : (l.take j).length = j := by rw [List.length_take]; omega
  simp only [rd_T53, putIn, Int.toNat_natCast, List.append_assoc, List.getD_eq_getElem?_getD]
  rw [List.getElem?_append_right (by omega), hl, Nat.sub_self]
  rfl
/-- What both answer. -/
theorem book_both (l : List S53) (b0 b1 b2 b3 : Int) (hl : l.length ≤ 1048576) : ∃ (G : List S53) (z : Bool), G.length ≤ 41 ∧ (z = true → goodBooks l = true ∧ goodBooks G = true ∧ ∃ j, j ≤ l.length ∧ G = putIn l ⟨b0, b1, b2, b3⟩ j ∧ (∀ q : Nat, q < j → ahead (rd_T53 l (q : Int)) ⟨b0, b1, b2, b3⟩ = true) ∧ (j < l.length → ahead (rd_T53 l (j : Int)) ⟨b0, b1, b2, b3⟩ = false)) ∧
    (z = false → goodBooks l = true → ∃ j, j ≤ l.length ∧ (∀ q : Nat, q < j → ahead (rd_T53 l (q : Int)) ⟨b0, b1, b2, b3⟩ = true) ∧ (j < l.length → ahead (rd_T53 l (j : Int)) ⟨b0, b1, b2, b3⟩ = false) ∧ goodBooks (putIn l ⟨b0, b1, b2, b3⟩ j) = false) ∧
    Ev (fun k => spec_BookLane.f k l b0 b1 b2 b3) (G, z) ∧ Ev (fun k => impl_BookLane.f k l b0 b1 b2 b3) (G, z) := by
  have hs := spec_books l (by omega)
  have hm := impl_books l (by omega)
  have stop : Ev (fun k => spec_BookLane.j0 k l true b0 b1 b2 b3) ([], false) := Ev.next ⟨0, fun k _ => by simp [spec_BookLane.j0]⟩
  cases hg : goodBooks l with
  | false =>
    rw [hg] at hs hm
    refine ⟨[], false, by simp, (fun h => by cases h), (fun _ h => by cases h), ?_, ?_⟩
    · simp only [spec_BookLane.f]
      refine Ev.bind hs ?_
      simp only [Bool.false_eq_true, if_false]
      exact stop
    · simp only [impl_BookLane.f]
      refine Ev.bind hm ?_
      simp only [Bool.false_eq_true, if_false]
      exact Ev.now _
  | true =>
    rw [hg] at hs hm
    have h40 : l.length ≤ 40 := by
      simp only [goodBooks, Bool.and_eq_true, decide_eq_true_eq] at hg
      exact hg.1
    obtain ⟨j, j1, j2, j3, j4, j5, j6⟩ := book_loops l b0 b1 b2 b3 (by omega) l.length 0 (by omega)
    have hlen := putIn_length l ⟨b0, b1, b2, b3⟩ j j2
    have hi : Ev (fun k => impl_BookLane.f k l b0 b1 b2 b3) (booked l ⟨b0, b1, b2, b3⟩ j) := by
      simp only [impl_BookLane.f]
      refine Ev.bind hm ?_
      simp only [if_true]
      exact j6
    have hsp : Ev (fun k => spec_BookLane.f k l b0 b1 b2 b3) (booked l ⟨b0, b1, b2, b3⟩ j) := by
      simp only [spec_BookLane.f]
      refine Ev.bind hs ?_
      simp only [if_true, spec_booked, Option.bind_some]
      cases hb : okBook ⟨b0, b1, b2, b3⟩ with
      | true =>
        refine Ev.next ?_
        simp only [spec_BookLane.j0, Bool.not_true, Bool.false_eq_true, if_false]
        exact j5
      | false =>
        have : goodBooks (putIn l ⟨b0, b1, b2, b3⟩ j) = false := by
          cases hq : goodBooks (putIn l ⟨b0, b1, b2, b3⟩ j) with
          | false => rfl
          | true =>
            have h5 := good_all _ hq j (by omega)
            rw [putIn_at _ _ _ j2, hb] at h5
            cases h5
        simp only [booked, this, Bool.not_false, Bool.false_eq_true, if_false]
        exact stop
    cases hq : goodBooks (putIn l ⟨b0, b1, b2, b3⟩ j) with
    | true =>
      have e : booked l ⟨b0, b1, b2, b3⟩ j = (putIn l ⟨b0, b1, b2, b3⟩ j, true) := by unfold booked; rw [if_pos hq]
      rw [e] at hi hsp
      exact ⟨_, true, by omega, fun _ => ⟨rfl, hq, j, j2, rfl, fun q hq => j3 q (by omega) hq, j4⟩, (fun h => by cases h), hsp, hi⟩
    | false =>
      have e : booked l ⟨b0, b1, b2, b3⟩ j = ([], false) := by unfold booked; rw [if_neg (by rw [hq]; simp)]
      rw [e] at hi hsp
      exact ⟨_, false, by simp, (fun h => by cases h), fun _ _ => ⟨j, j2, fun q hq => j3 q (by omega) hq, j4, hq⟩, hsp, hi⟩
theorem e_at (l : List S53) (i : Nat) (h : i < l.length) : rd_T53 l (i : Int) = l[i] := by simp [rd_T53, h]
/-- One stands whole ahead of the other. -/
def nxt (x y : S53) : Prop := x.f0 < y.f0 ∨ (x.f0 = y.f0 ∧ x.f2 ≤ y.f1)
theorem ok_spec (x : S53) : okBook x = true ↔ (0 ≤ x.f0 ∧ x.f0 ≤ 9 ∧ 0 ≤ x.f3 ∧ x.f3 ≤ 9 ∧ 0 ≤ x.f1 ∧ x.f1 < x.f2 ∧ x.f2 ≤ 10000) := by simp only [okBook, decide_eq_true_eq]
theorem nxt_trans {x y z : S53} (h1 : nxt x y) (hy : okBook y = true) (h2 : nxt y z) : nxt x z := by
  rw [ok_spec] at hy
  unfold nxt at *
  omega
theorem good_pw (l : List S53) (h : goodBooks l = true) : l.length ≤ 40 ∧ (∀ x ∈ l, okBook x = true) ∧ l.Pairwise nxt := by
  simp only [goodBooks, Bool.and_eq_true, decide_eq_true_eq, List.all_eq_true, List.mem_range] at h
  obtain ⟨h40, hall⟩ := h
  have hok : ∀ (i : Nat) (hi : i < l.length), okBook l[i] = true := fun i hi => by
    have := hall i hi
    simp only [okAt, Bool.and_eq_true] at this
    rw [← e_at l i hi]
    exact this.1
  have hadj : ∀ (i : Nat) (hi : i + 1 < l.length), nxt l[i] l[i + 1] := fun i hi => by
    have := hall (i + 1) hi
    simp only [okAt, Bool.and_eq_true, Bool.or_eq_true, decide_eq_true_eq] at this
    have h1 := this.2
    have h2 : i + 1 - 1 = i := by omega
    rw [h2, e_at l i (by omega), e_at l (i + 1) hi] at h1
    rcases h1 with h1 | h1
    · omega
    · unfold nxt
      omega
  refine ⟨h40, fun x hx => ?_, ?_⟩
  · obtain ⟨i, hi, rfl⟩ := List.getElem_of_mem hx
    exact hok i hi
  · rw [List.pairwise_iff_getElem]
    intro i j hi hj hij
    have key : ∀ (d : Nat) (hd : i + 1 + d < l.length), nxt l[i] l[i + 1 + d] := by
      intro d
      induction d with
      | zero => intro hd; exact hadj i hd
      | succ d ih =>
        intro hd
        exact nxt_trans (ih (by omega)) (hok _ _) (hadj (i + 1 + d) hd)
    have := key (j - i - 1) (by omega)
    have e : i + 1 + (j - i - 1) = j := by omega
    simp only [e] at this
    exact this
theorem pw_good (l : List S53) (h40 : l.length ≤ 40) (hok : ∀ x ∈ l, okBook x = true) (hp : l.Pairwise nxt) : goodBooks l = true := by
  simp only [goodBooks, Bool.and_eq_true, decide_eq_true_eq, List.all_eq_true, List.mem_range]
  refine ⟨h40, fun i hi => ?_⟩
  simp only [okAt, Bool.and_eq_true, Bool.or_eq_true, decide_eq_true_eq]
  rw [e_at l i hi]
  refine ⟨hok _ (List.getElem_mem hi), ?_⟩
  by_cases h0 : i = 0
  · exact .inl h0
  · right
    rw [e_at l (i - 1) (by omega)]
    rw [List.pairwise_iff_getElem] at hp
    have := hp (i - 1) i (by omega) hi (by omega)
    unfold nxt at this
    omega
theorem put_good (l : List S53) (b : S53) (j : Nat) (hj : j ≤ l.length) (hl : l.length < 40) (hg : goodBooks l = true) (hb : okBook b = true) (h1 : ∀ q : Nat, q < j → ahead (rd_T53 l (q : Int)) b = true) (h2 : j < l.length → ahead (rd_T53 l (j : Int)) b = false)
    (hno : ∀ q : Nat, q < l.length → (rd_T53 l (q : Int)).f0 = b.f0 → ¬ ((rd_T53 l (q : Int)).f2 > b.f1 ∧ (rd_T53 l (q : Int)).f1 < b.f2)) : goodBooks (putIn l b j) = true := by
  obtain ⟨_, hok, hp⟩ := good_pw l hg
  have hb' := (ok_spec b).1 hb
  have hp2 := hp
  rw [List.pairwise_iff_getElem] at hp2
  have htake : ∀ x ∈ l.take j, nxt x b := fun x hx => by
    obtain ⟨q, hq, rfl⟩ := List.mem_take_iff_getElem.1 hx
    have hql : q < l.length := by omega
    have a1 := h1 q (by omega)
    have a2 := hno q hql
    rw [e_at l q hql] at a1 a2
    simp only [ahead, decide_eq_true_eq] at a1
    unfold nxt
    omega
  have hjn : ∀ h : j < l.length, nxt b l[j] := fun h => by
    have a1 := h2 h
    have a2 := hno j h
    rw [e_at l j h] at a1 a2
    simp only [ahead, decide_eq_false_iff_not] at a1
    have a3 := (ok_spec _).1 (hok _ (List.getElem_mem h))
    unfold nxt
    omega
  have hdrop : ∀ y ∈ l.drop j, nxt b y := fun y hy => by
    obtain ⟨q, hq, rfl⟩ := List.mem_drop_iff_getElem.1 hy
    by_cases h0 : q = 0
    · subst h0
      exact hjn (by omega)
    · exact nxt_trans (hjn (by omega)) (hok _ (List.getElem_mem _)) (hp2 j (j + q) (by omega) (by omega) (by omega))
  refine pw_good _ (by rw [putIn_length _ _ _ hj]; omega) (fun x hx => ?_) ?_
  · simp only [putIn, List.mem_append, List.mem_singleton] at hx
    rcases hx with (hx | rfl) | hx
    · exact hok x (List.mem_of_mem_take hx)
    · exact hb
    · exact hok x (List.mem_of_mem_drop hx)
  · have hsplit : l.take j ++ l.drop j = l := List.take_append_drop j l
    have hpp : (l.take j ++ l.drop j).Pairwise nxt := by rw [hsplit]; exact hp
    rw [List.pairwise_append] at hpp
    simp only [putIn]
    rw [List.pairwise_append, List.pairwise_append]
    refine ⟨⟨hpp.1, List.pairwise_singleton _ _, fun x hx y hy => ?_⟩, hpp.2.1, fun x hx y hy => ?_⟩
    · rw [List.mem_singleton] at hy
      subst hy
      exact htake x hx
    · rw [List.mem_append, List.mem_singleton] at hx
      rcases hx with hx | rfl
      · exact hpp.2.2 x hx y hy
      · exact hdrop y hy
theorem put_bad (l : List S53) (b : S53) (j : Nat) (q : Nat) (hq : q < l.length) (h0 : (rd_T53 l (q : Int)).f0 = b.f0) (h1 : (rd_T53 l (q : Int)).f2 > b.f1) (h2 : (rd_T53 l (q : Int)).f1 < b.f2) : goodBooks (putIn l b j) = false := by
  cases hg : goodBooks (putIn l b j) with
  | false => rfl
  | true =>
    exfalso
    obtain ⟨_, _, hp⟩ := good_pw _ hg
    rw [e_at l q hq] at h0 h1 h2
    simp only [putIn] at hp
    rw [List.pairwise_append, List.pairwise_append] at hp
    have hm : l[q] ∈ l.take j ++ l.drop j := by rw [List.take_append_drop]; exact List.getElem_mem hq
    rcases List.mem_append.1 hm with hx | hx
    · have := hp.1.2.2 _ hx b (List.mem_singleton.2 rfl)
      unfold nxt at this
      omega
    · have := hp.2.2 b (List.mem_append.2 (.inr (List.mem_singleton.2 rfl))) _ hx
      unfold nxt at this
      omega
theorem free_same : ∀ (k : Nat) (a f g : Int) (l : List S53) (n i : Int), impl_FirstFree.l0 k a f g l n i = spec_FirstFree.l0 k a f g l n i
  | 0, _, _, _, _, _, _ => rfl
  | k + 1, a, f, g, l, n, i => by
    simp only [impl_FirstFree.l0, spec_FirstFree.l0, free_same k]
    repeat' split
    all_goals first | rfl | (exfalso; omega)
/-- From one time on nothing of a lane is in the way; any earlier time has something in its way. -/
def Free (l : List S53) (a f g t : Int) : Prop := f ≤ t ∧ t + g ≤ 10000 ∧ (∀ q : Nat, q < l.length → (rd_T53 l (q : Int)).f0 = a → ¬ ((rd_T53 l (q : Int)).f2 > t ∧ (rd_T53 l (q : Int)).f1 < t + g)) ∧
  (∀ x : Int, f ≤ x → x < t → ∃ q : Nat, q < l.length ∧ (rd_T53 l (q : Int)).f0 = a ∧ (rd_T53 l (q : Int)).f2 > x ∧ (rd_T53 l (q : Int)).f1 < x + g)
theorem free_loop (a f g : Int) (l : List S53) (hg : goodBooks l = true) (hf : 0 ≤ f) (h1 : 1 ≤ g) (h2 : g ≤ 10000) : ∀ (d i : Nat) (s : Int), i + d = l.length → f ≤ s → s ≤ 10000 →
    (∀ q : Nat, q < i → (rd_T53 l (q : Int)).f0 = a → ¬ ((rd_T53 l (q : Int)).f2 > s ∧ (rd_T53 l (q : Int)).f1 < s + g)) →
    (∀ x : Int, f ≤ x → x < s → ∃ q : Nat, q < i ∧ (rd_T53 l (q : Int)).f0 = a ∧ (rd_T53 l (q : Int)).f2 > x ∧ (rd_T53 l (q : Int)).f1 < x + g) →
    ∃ (t : Int) (z : Bool), Ev (fun k => spec_FirstFree.l0 k a s g l (l.length : Int) (i : Int)) (t, z) ∧ (z = true → Free l a f g t) := by
  obtain ⟨h40, hok, hp⟩ := good_pw l hg
  rw [List.pairwise_iff_getElem] at hp
  intro d
  induction d with
  | zero =>
    intro i s hi hs hs2 hno hcov
    obtain rfl : i = l.length := by omega
    have c0 : ¬ ((l.length : Int) < (l.length : Int)) := by omega
    have hw : wrap64 (s + g) = s + g := wrap_in (by omega) (by omega)
    by_cases hc : s + g > 10000
    · exact ⟨0, false, Ev.next ⟨0, fun k _ => by simp only [spec_FirstFree.l0, c0, if_false, hw, hc, if_true]⟩, fun h => by cases h⟩
    · exact ⟨s, true, Ev.next ⟨0, fun k _ => by simp only [spec_FirstFree.l0, c0, if_false, hw, hc]⟩, fun _ => ⟨hs, by omega, hno, hcov⟩⟩
  | succ d ih =>
    intro i s hi hs hs2 hno hcov
    have hil : i < l.length := by omega
    have c1 : (i : Int) < (l.length : Int) := by omega
    have c2 : (0 : Int) ≤ (i : Int) := by omega
    have hw : wrap64 (s + g) = s + g := wrap_in (by omega) (by omega)
    have e := wrap_succ i (by omega)
    by_cases hc : (rd_T53 l (i : Int)).f0 = a ∧ (rd_T53 l (i : Int)).f1 < s + g ∧ (rd_T53 l (i : Int)).f2 > s
    · have hoki := (ok_spec _).1 (hok _ (List.getElem_mem hil))
      rw [← e_at l i hil] at hoki
      obtain ⟨t, z, he, hz⟩ := ih (i + 1) (rd_T53 l (i : Int)).f2 (by omega) (by omega) (by omega) (fun q hq h0 => by
          by_cases hqi : q = i
          · subst hqi
            omega
          · have := hp q i (by omega) hil (by omega)
            rw [← e_at l i hil, ← e_at l q (by omega)] at this
            unfold nxt at this
            omega) (fun x hx1 hx2 => by
          by_cases hxs : x < s
          · obtain ⟨q, q1, q2⟩ := hcov x hx1 hxs
            exact ⟨q, by omega, q2⟩
          · exact ⟨i, by omega, hc.1, by omega, by omega⟩)
      refine ⟨t, z, Ev.step (fun k => ?_) he, hz⟩
      simp only [spec_FirstFree.l0, c1, c2, if_true, hc.1, hw, hc.2.1, hc.2.2, e]
    · obtain ⟨t, z, he, hz⟩ := ih (i + 1) s (by omega) hs hs2 (fun q hq h0 => by
          by_cases hqi : q = i
          · subst hqi
            exact fun hx => hc ⟨h0, hx.2, hx.1⟩
          · exact hno q (by omega) h0) (fun x hx1 hx2 => by
          obtain ⟨q, q1, q2⟩ := hcov x hx1 hx2
          exact ⟨q, by omega, q2⟩)
      refine ⟨t, z, Ev.step (fun k => ?_) he, hz⟩
      simp only [spec_FirstFree.l0, c1, c2, if_true, hw, e]
      repeat' split
      all_goals first | rfl | (exfalso; exact hc ⟨‹_›, ‹_›, ‹_›⟩)
theorem free_both (l : List S53) (a f g : Int) (hl : l.length ≤ 1048576) : ∃ (t : Int) (z : Bool), Ev (fun k => spec_FirstFree.f k l a f g) (t, z) ∧ Ev (fun k => impl_FirstFree.f k l a f g) (t, z) ∧ (z = true → goodBooks l = true ∧ 0 ≤ a ∧ a ≤ 9 ∧ 0 ≤ f ∧ 1 ≤ g ∧ g ≤ 10000 ∧ Free l a f g t) := by
  obtain ⟨K2, h2⟩ := spec_books l (by omega)
  obtain ⟨K3, h3⟩ := impl_books l (by omega)
  have hno : ∀ k, spec_FirstFree.j0 (k + 1) l a f g true = some (0, false) := fun k => by simp only [spec_FirstFree.j0, if_true]
  have hno' : ∀ k, impl_FirstFree.j0 (k + 1) l a f g true = some (0, false) := fun k => by simp only [impl_FirstFree.j0, if_true]
  by_cases hg : goodBooks l = true
  · by_cases hc : 0 ≤ a ∧ a ≤ 9 ∧ 0 ≤ f ∧ f ≤ 10000 ∧ 1 ≤ g ∧ g ≤ 10000
    · obtain ⟨t, z, ⟨K5, h5⟩, hz⟩ := free_loop a f g l hg hc.2.2.1 hc.2.2.2.2.1 hc.2.2.2.2.2 l.length 0 f (by omega) (by omega) (by omega) (fun q hq => by omega) (fun x h1 h2 => by omega)
      have hcases : ∀ k, K5 ≤ k → spec_FirstFree.j0 (k + 1) l a f g false = some (t, z) := fun k hk => by
        have := h5 k hk
        simp only [spec_FirstFree.j0, Bool.false_eq_true, if_false]
        exact this
      have hcases' : ∀ k, K5 ≤ k → impl_FirstFree.j0 (k + 1) l a f g false = some (t, z) := fun k hk => by
        have := h5 k hk
        simp only [impl_FirstFree.j0, Bool.false_eq_true, if_false, free_same]
        exact this
      have e1 : decide ((0 : Int) ≤ a ∧ a ≤ 9) = true := by rw [decide_eq_true_eq]; omega
      have e2 : decide ((0 : Int) ≤ f ∧ f ≤ 10000) = true := by rw [decide_eq_true_eq]; omega
      have e3 : decide ((1 : Int) ≤ g ∧ g ≤ 10000) = true := by rw [decide_eq_true_eq]; omega
      have e4 : decide (g > 10000) = false := by rw [decide_eq_false_iff_not]; omega
      refine ⟨t, z, ⟨K2 + K3 + K5 + 1, fun k hk => ?_⟩, ⟨K2 + K3 + K5 + 1, fun k hk => ?_⟩, fun h => ⟨hg, hc.1, hc.2.1, hc.2.2.1, hc.2.2.2.2.1, hc.2.2.2.2.2, hz h⟩⟩
      · obtain ⟨k, rfl⟩ : ∃ m, k = m + 1 := ⟨k - 1, by omega⟩
        simp (disch := omega) only [spec_FirstFree.f, h2, hg, Option.bind_some, if_true, e4, hcases]
        rw [if_neg (by omega), if_neg (by omega), if_neg (by omega), if_neg (by omega), if_neg (by omega)]
      · obtain ⟨k, rfl⟩ : ∃ m, k = m + 1 := ⟨k - 1, by omega⟩
        simp (disch := omega) only [impl_FirstFree.f, h3, hg, Option.bind_some, if_true, between_eq, e1, e2, e3, Bool.not_true, hcases']
    · refine ⟨0, false, ⟨K2 + K3 + 1, fun k hk => ?_⟩, ⟨K2 + K3 + 1, fun k hk => ?_⟩, fun h => by cases h⟩
      · obtain ⟨k, rfl⟩ : ∃ m, k = m + 1 := ⟨k - 1, by omega⟩
        simp (disch := omega) only [spec_FirstFree.f, h2, hg, Option.bind_some, if_true, hno]
        repeat' split
        all_goals first | rfl | skip
        rw [decide_eq_true (by omega), hno]
      · obtain ⟨k, rfl⟩ : ∃ m, k = m + 1 := ⟨k - 1, by omega⟩
        simp (disch := omega) only [impl_FirstFree.f, h3, hg, Option.bind_some, if_true, between_eq, hno', decide_eq_true_eq]
        repeat' split
        all_goals first | rfl | skip
        rw [decide_eq_false (by omega), Bool.not_false, hno']
  · refine ⟨0, false, ⟨K2 + K3 + 1, fun k hk => ?_⟩, ⟨K2 + K3 + 1, fun k hk => ?_⟩, fun h => by cases h⟩
    · obtain ⟨k, rfl⟩ : ∃ m, k = m + 1 := ⟨k - 1, by omega⟩
      simp (disch := omega) only [spec_FirstFree.f, h2, hg, Option.bind_some, if_false, Bool.false_eq_true, spec_FirstFree.j0, if_true]
    · obtain ⟨k, rfl⟩ : ∃ m, k = m + 1 := ⟨k - 1, by omega⟩
      simp (disch := omega) only [impl_FirstFree.f, h3, hg, Option.bind_some, if_false, Bool.false_eq_true, impl_FirstFree.j0, if_true]
/-- What is left of one where somebody gives back all from a time on. -/
def leave (w t : Int) (b : S53) : Option S53 := if b.f3 = w ∧ b.f2 > t then (if b.f1 ≥ t then none else some ⟨b.f0, b.f1, t, b.f3⟩) else some b
theorem leave_ok {w t : Int} {b c : S53} (hb : okBook b = true) (h : leave w t b = some c) : okBook c = true ∧ c.f0 = b.f0 ∧ c.f1 = b.f1 ∧ c.f2 ≤ b.f2 := by
  rw [ok_spec] at hb
  unfold leave at h
  split at h
  · split at h
    · cases h
    · obtain rfl := Option.some.inj h
      exact ⟨by rw [ok_spec]; simp only; omega, rfl, rfl, by simp only; omega⟩
  · obtain rfl := Option.some.inj h
    exact ⟨(ok_spec b).2 hb, rfl, rfl, by omega⟩
theorem left_good (l : List S53) (w t : Int) (hg : goodBooks l = true) : goodBooks (l.filterMap (leave w t)) = true := by
  obtain ⟨h40, hok, hp⟩ := good_pw l hg
  refine pw_good _ (Nat.le_trans (List.length_filterMap_le _ _) h40) (fun x hx => ?_) ?_
  · obtain ⟨y, hy, h⟩ := List.mem_filterMap.1 hx
    exact (leave_ok (hok y hy) h).1
  · rw [List.pairwise_filterMap]
    refine hp.imp_of_mem ?_
    intro x y hx hy hxy x' hx' y' hy'
    have a := leave_ok (hok x hx) hx'
    have b := leave_ok (hok y hy) hy'
    unfold nxt at *
    omega
theorem take_left (l : List S53) (w t : Int) (i : Nat) (hi : i < l.length) : (l.take (i + 1)).filterMap (leave w t) = (l.take i).filterMap (leave w t) ++ (leave w t l[i]).toList := by
  rw [List.take_succ_eq_append_getElem hi, List.filterMap_append]
  cases h : leave w t l[i] <;> simp [h]
theorem lane_loop (l : List S53) (w t : Int) (hl : l.length ≤ 1000) : ∀ (d i : Nat), i + d = l.length → Ev (fun k => impl_FreeLane.l0 k w t ((l.take i).filterMap (leave w t)) l (l.length : Int) (i : Int)) (l.filterMap (leave w t), true) := by
  intro d
  induction d with
  | zero =>
    intro i hi
    obtain rfl : i = l.length := by omega
    have c0 : ¬ ((l.length : Int) < (l.length : Int)) := by omega
    refine Ev.next ⟨0, fun k _ => ?_⟩
    simp only [impl_FreeLane.l0, c0, if_false, List.take_length]
  | succ d ih =>
    intro i hi
    have hil : i < l.length := by omega
    have he := ih (i + 1) (by omega)
    have c1 : (i : Int) < (l.length : Int) := by omega
    have c2 : (0 : Int) ≤ (i : Int) := by omega
    have e := wrap_succ i (by omega)
    have c3 : ((l.take i).filterMap (leave w t)).length < 4398046511104 := Nat.lt_of_le_of_lt (List.length_filterMap_le _ _) (by rw [List.length_take]; omega)
    rw [take_left l w t i hil] at he
    refine Ev.back 2 0 (fun k _ => ?_) he
    rw [impl_FreeLane.l0]
    simp only [c1, c2, if_true]
    rw [e_at l i hil]
    unfold leave
    by_cases h1 : (l[i]).f3 = w
    · rw [if_pos h1]
      by_cases h2 : (l[i]).f2 > t
      · rw [decide_eq_true h2]
        by_cases h3 : (l[i]).f1 ≥ t
        · simp only [impl_FreeLane.j1, if_true, h1, h2, h3, e, and_self, Option.toList_none, List.append_nil]
        · simp only [impl_FreeLane.j1, if_true, if_false, h1, h2, h3, e, and_self, Option.toList_some]
          rw [if_pos (by unfold leave at c3; exact c3)]
      · rw [decide_eq_false h2]
        simp only [impl_FreeLane.j1, Bool.false_eq_true, if_false, h1, h2, e, and_false, Option.toList_some]
        rw [if_pos (by unfold leave at c3; exact c3)]
        rw [← h1]
    · rw [if_neg h1]
      simp only [impl_FreeLane.j1, Bool.false_eq_true, if_false, h1, e, false_and, Option.toList_some]
      rw [if_pos (by unfold leave at c3; exact c3)]
theorem fine_loop (l : List S53) (w t : Int) (hg : goodBooks l = true) : ∀ (d i : Nat), i + d = l.length →
    Ev (fun k => spec_FreedFine.l0 k (l.filterMap (leave w t)) w t (((l.take i).filterMap (leave w t)).length : Int) l (l.length : Int) (i : Int)) true := by
  obtain ⟨h40, hok, _⟩ := good_pw l hg
  intro d
  induction d with
  | zero =>
    intro i hi
    obtain rfl : i = l.length := by omega
    have c0 : ¬ ((l.length : Int) < (l.length : Int)) := by omega
    refine Ev.next ⟨0, fun k _ => ?_⟩
    simp only [spec_FreedFine.l0, c0, if_false, List.take_length, beq_self_eq_true]
  | succ d ih =>
    intro i hi
    have hil : i < l.length := by omega
    have he := ih (i + 1) (by omega)
    have c1 : (i : Int) < (l.length : Int) := by omega
    have c2 : (0 : Int) ≤ (i : Int) := by omega
    have e := wrap_succ i (by omega)
    have hoki := (ok_spec _).1 (hok _ (List.getElem_mem hil))
    rw [take_left l w t i hil] at he
    have hsplit : l.filterMap (leave w t) = (l.take i).filterMap (leave w t) ++ ((leave w t l[i]).toList ++ (l.drop (i + 1)).filterMap (leave w t)) := by
      conv => lhs; rw [← List.take_append_drop (i + 1) l, List.filterMap_append, take_left l w t i hil, List.append_assoc]
    obtain ⟨F, hF⟩ : ∃ F, F = l.filterMap (leave w t) := ⟨_, rfl⟩
    obtain ⟨A, hA⟩ : ∃ A, A = (l.take i).filterMap (leave w t) := ⟨_, rfl⟩
    have hAl : A.length ≤ 40 := by rw [hA]; exact Nat.le_trans (List.length_filterMap_le _ _) (by rw [List.length_take]; omega)
    rw [← hF, ← hA] at he hsplit ⊢
    have hr : ∀ c, leave w t l[i] = some c → A.length < F.length ∧ rd_T53 F (A.length : Int) = c := fun c hc => by
      rw [hc, Option.toList_some] at hsplit
      have hlt : A.length < F.length := by rw [hsplit]; simp
      refine ⟨hlt, ?_⟩
      rw [e_at F _ hlt]
      simp [hsplit]
    by_cases h1 : (l[i]).f3 = w
    · by_cases h2 : (l[i]).f1 ≥ t
      · have hn : leave w t l[i] = none := by
          unfold leave
          rw [if_pos ⟨h1, by omega⟩, if_pos h2]
        rw [hn, Option.toList_none, List.append_nil] at he
        refine Ev.back 2 0 (fun k _ => ?_) he
        rw [spec_FreedFine.l0]
        simp only [c1, c2, if_true]
        rw [e_at l i hil, if_pos h1, decide_eq_true h2]
        simp only [spec_FreedFine.j1, if_true, e]
      · by_cases h3 : (l[i]).f2 > t
        · have hn : leave w t l[i] = some ⟨(l[i]).f0, (l[i]).f1, t, (l[i]).f3⟩ := by
            unfold leave
            rw [if_pos ⟨h1, h3⟩, if_neg h2]
          obtain ⟨hlt, hrd⟩ := hr _ hn
          rw [hn, Option.toList_some, List.length_append, List.length_singleton] at he
          refine Ev.back 3 0 (fun k _ => ?_) he
          have d1 : ¬ ((A.length : Int) ≥ (F.length : Int)) := by omega
          have d2 : (0 : Int) ≤ (A.length : Int) := by omega
          have d3 : (A.length : Int) < (F.length : Int) := by omega
          have d4 := wrap_succ A.length (by omega)
          rw [spec_FreedFine.l0]
          simp only [c1, c2, if_true]
          rw [e_at l i hil, if_pos h1, decide_eq_false h2]
          simp only [spec_FreedFine.j1, Bool.false_eq_true, if_false, h1, if_true, decide_eq_true h3, spec_FreedFine.j2, d1, d2, d3, hrd, beq_self_eq_true, Bool.not_true, Bool.or_self, d4, e]
        · have hn : leave w t l[i] = some l[i] := by
            unfold leave
            rw [if_neg (fun h => h3 h.2)]
          obtain ⟨hlt, hrd⟩ := hr _ hn
          rw [hn, Option.toList_some, List.length_append, List.length_singleton] at he
          refine Ev.back 3 0 (fun k _ => ?_) he
          have d1 : ¬ ((A.length : Int) ≥ (F.length : Int)) := by omega
          have d2 : (0 : Int) ≤ (A.length : Int) := by omega
          have d3 : (A.length : Int) < (F.length : Int) := by omega
          have d4 := wrap_succ A.length (by omega)
          rw [spec_FreedFine.l0]
          simp only [c1, c2, if_true]
          rw [e_at l i hil, if_pos h1, decide_eq_false h2]
          simp only [spec_FreedFine.j1, Bool.false_eq_true, if_false, h1, if_true, decide_eq_false h3, spec_FreedFine.j2, d1, d2, d3, hrd, beq_self_eq_true, Bool.not_true, Bool.or_self, d4, e]
    · have hn : leave w t l[i] = some l[i] := by
        unfold leave
        rw [if_neg (fun h => h1 h.1)]
      obtain ⟨hlt, hrd⟩ := hr _ hn
      rw [hn, Option.toList_some, List.length_append, List.length_singleton] at he
      refine Ev.back 3 0 (fun k _ => ?_) he
      have d1 : ¬ ((A.length : Int) ≥ (F.length : Int)) := by omega
      have d2 : (0 : Int) ≤ (A.length : Int) := by omega
      have d3 : (A.length : Int) < (F.length : Int) := by omega
      have d4 := wrap_succ A.length (by omega)
      rw [spec_FreedFine.l0]
      simp only [c1, c2, if_true]
      rw [e_at l i hil, if_neg h1]
      simp only [spec_FreedFine.j1, Bool.false_eq_true, if_false, h1, if_true, spec_FreedFine.j2, d1, d2, d3, hrd, beq_self_eq_true, Bool.not_true, Bool.or_self, d4, e]
theorem wraps_u64 (n : Int) (h₀ : 0 ≤ n) (h₁ : n < 2 ^ 64) : IntKind.u64.wrap n = n := by rw [IntKind.wrap_u64]; omega
theorem u64_rng (n : Int) : 0 ≤ IntKind.u64.wrap n ∧ IntKind.u64.wrap n < 18446744073709551616 := by rw [IntKind.wrap_u64]; omega
theorem u64_and255 (x : Int) (h₀ : 0 ≤ x) (h₁ : x < 2 ^ 64) : Go.bits .and .u64 x 255 = x % 256 := bits_mask .u64 64 (by decide) wraps_u64 8 (by decide) x h₀ h₁
/-- The bytes that the draws read. -/
def Bytes (c : List Int) : Prop := ∀ x ∈ c, 0 ≤ x ∧ x ≤ 255
theorem bytes_rd (c : List Int) (h : Bytes c) (i : Int) : 0 ≤ rd c i ∧ rd c i ≤ 255 := by
  unfold rd
  rw [List.getD_eq_getElem?_getD]
  by_cases hi : i.toNat < c.length
  · rw [List.getElem?_eq_getElem hi]
    exact h _ (List.getElem_mem _)
  · rw [List.getElem?_eq_none (by omega)]
    simp
theorem seed_byte (u : Int) : 0 ≤ wrap64 (Go.bits .and .u64 ((IntKind.u64.wrap u) / 1099511627776) 255) ∧ wrap64 (Go.bits .and .u64 ((IntKind.u64.wrap u) / 1099511627776) 255) ≤ 255 := by
  have h := u64_rng u
  have h1 : 0 ≤ (IntKind.u64.wrap u) / 1099511627776 := by omega
  have h2 : (IntKind.u64.wrap u) / 1099511627776 < 2 ^ 64 := by omega
  rw [u64_and255 _ h1 h2, wrap_in (by omega) (by omega)]
  omega
theorem next_ok (c : List Int) (hc : Bytes c) (a s : Int) (h0 : 0 ≤ a) (h1 : a < 4611686018427387904) : ∃ r s', spec_l1Cur_next.f c a s = some (r, a + 1, s') ∧ 0 ≤ r ∧ r ≤ 255 := by
  have hw : wrap64 (a + 1) = a + 1 := wrap_in (by omega) (by omega)
  have hb := bytes_rd c hc a
  have hwb : wrap64 (rd c a) = rd c a := wrap_in (by omega) (by omega)
  unfold spec_l1Cur_next.f
  simp only [hw, h0, if_true]
  split
  · split
    · exact ⟨_, _, rfl, by omega, by omega⟩
    · exact ⟨_, _, rfl, seed_byte _⟩
  · split
    · exact ⟨_, _, rfl, by omega, by omega⟩
    · exact ⟨_, _, rfl, seed_byte _⟩
theorem pick_ok (c : List Int) (hc : Bytes c) (a s n : Int) (h0 : 0 ≤ a) (h1 : a < 4611686018427387900) (hn : n < 9223372036854775808) :
    ∃ r a' s', spec_l1Cur_pick.f c a s n = some (r, a', s') ∧ 0 ≤ r ∧ (r < n ∨ r = 0) ∧ a ≤ a' ∧ a' ≤ a + 2 := by
  unfold spec_l1Cur_pick.f
  split
  · exact ⟨0, a, s, rfl, by omega, by omega, by omega, by omega⟩
  · obtain ⟨r1, s1, e1, h2, h3⟩ := next_ok c hc a s h0 (by omega)
    rw [e1]
    simp only [Option.bind_some]
    split
    · obtain ⟨r2, s2, e2, h4, h5⟩ := next_ok c hc (a + 1) s1 (by omega) (by omega)
      rw [e2]
      simp only [Option.bind_some]
      rw [if_neg (by omega)]
      have w1 : wrap64 (r1 * 256) = r1 * 256 := wrap_in (by omega) (by omega)
      have w2 : wrap64 (r1 * 256 + r2) = r1 * 256 + r2 := wrap_in (by omega) (by omega)
      rw [w1, w2]
      refine ⟨_, _, _, rfl, ?_, ?_, by omega, by omega⟩
      · rw [Int.tmod_eq_emod_of_nonneg (by omega)]
        exact Int.emod_nonneg _ (by omega)
      · rw [Int.tmod_eq_emod_of_nonneg (by omega)]
        exact .inl (Int.emod_lt_of_pos _ (by omega))
    · rw [if_neg (by omega)]
      refine ⟨_, _, _, rfl, ?_, ?_, by omega, by omega⟩
      · rw [Int.tmod_eq_emod_of_nonneg (by omega)]
        exact Int.emod_nonneg _ (by omega)
      · rw [Int.tmod_eq_emod_of_nonneg (by omega)]
        exact .inl (Int.emod_lt_of_pos _ (by omega))
theorem one_ok (c : List Int) (hc : Bytes c) (a s n : Int) (h0 : 0 ≤ a) (h1 : a < 4611686018427387900) (hn : n < 9223372036854775808) : ∃ b a' s', spec_l1Cur_one.f c a s n = some (b, a', s') ∧ a ≤ a' ∧ a' ≤ a + 2 := by
  obtain ⟨r, a', s', e, _, _, h2, h3⟩ := pick_ok c hc a s n h0 h1 hn
  unfold spec_l1Cur_one.f
  rw [e]
  exact ⟨_, _, _, rfl, h2, h3⟩
theorem wrap_lt (n : Int) : wrap64 n < 9223372036854775808 := by unfold wrap64; omega
theorem among_ok (c : List Int) (hc : Bytes c) (a s : Int) (l : List Int) (hl : 0 < l.length) (hl2 : l.length < 1000000) (h0 : 0 ≤ a) (h1 : a < 4611686018427387900) : ∃ r a' s', spec_l1Cur_among.f c a s l = some (r, a', s') ∧ r ∈ l ∧ a ≤ a' ∧ a' ≤ a + 2 := by
  obtain ⟨r, a', s', e, h2, h3, h4, h5⟩ := pick_ok c hc a s (l.length : Int) h0 h1 (by omega)
  have h6 : r < (l.length : Int) := by omega
  have h7 : rd l r ∈ l := by
    rw [show r = ((r.toNat : Nat) : Int) by omega, rd_get l r.toNat (by omega)]
    exact List.getElem_mem _
  refine ⟨rd l r, a', s', ?_, h7, h4, h5⟩
  simp only [spec_l1Cur_among.f, e, Option.bind_some, h2, h6, if_true]
theorem books_loop (c : List Int) (hc : Bytes c) : ∀ (d : Nat) (L : List S53) (x4 x5 a s : Int), L.length + d ≤ 1000 → 0 ≤ a → a + 20 * (d : Int) < 400000 →
    ∃ (M : List S53) (a' s' : Int), Ev (fun k => spec_l1Cur_books.l0 k L x4 x5 (d : Int) c a s) (M, a', s') ∧ M.length ≤ L.length + d ∧ 0 ≤ a' ∧ a' ≤ a + 20 * (d : Int) := by
  intro d
  induction d with
  | zero =>
    intro L x4 x5 a s _ h0 h1
    have hz : ¬ (((0 : Nat) : Int) > 0) := by omega
    exact ⟨L, a, s, Ev.next ⟨0, fun k _ => by simp only [spec_l1Cur_books.l0, hz, if_false]⟩, by omega, h0, by omega⟩
  | succ d ih =>
    intro L x4 x5 a s hl h0 h1
    obtain ⟨r1, a1, s1, e1, _, _, m1, n1⟩ := pick_ok c hc a s 6 h0 (by omega) (by omega)
    obtain ⟨r2, a2, s2, e2, _, _, m2, n2⟩ := pick_ok c hc a1 s1 4 (by omega) (by omega) (by omega)
    obtain ⟨b, a3, s3, e3, m3, n3⟩ := one_ok c hc a2 s2 60 (by omega) (by omega) (by omega)
    have hz : (((d + 1 : Nat) : Int) > 0) := by omega
    have hw : wrap64 (((d + 1 : Nat) : Int) - 1) = (d : Int) := by rw [wrap_in (by omega) (by omega)]; omega
    have hj3 : ∀ (M : List S53) (y4 y5 : Int) (z : Bool) (a s : Int), M.length + d ≤ 1000 → 0 ≤ a → a + 20 * (d : Int) + 4 < 400000 → ∃ (N : List S53) (a' s' : Int), Ev (fun k => spec_l1Cur_books.j3 k M y4 y5 ((d + 1 : Nat) : Int) z c a s) (N, a', s') ∧ N.length ≤ M.length + d ∧ 0 ≤ a' ∧ a' ≤ a + 4 + 20 * (d : Int) := by
      intro M y4 y5 z a s hM h0 h1
      cases z with
      | true =>
        obtain ⟨r4, a4, s4, e4, _, _, m4, n4⟩ := pick_ok c hc a s 2 h0 (by omega) (by omega)
        obtain ⟨r5, a5, s5, e5, _, _, m5, n5⟩ := pick_ok c hc a4 s4 6 (by omega) (by omega) (by omega)
        obtain ⟨N, a', s', he, q1, q2, q3⟩ := ih M (wrap64 (y4 + (wrap64 (1 + r4)))) r5 a5 s5 hM (by omega) (by omega)
        refine ⟨N, a', s', Ev.step (fun k => ?_) he, q1, q2, by omega⟩
        simp only [spec_l1Cur_books.j3, if_true, e4, e5, Option.bind_some, hw]
      | false =>
        obtain ⟨N, a', s', he, q1, q2, q3⟩ := ih M y4 y5 a s hM h0 (by omega)
        refine ⟨N, a', s', Ev.step (fun k => ?_) he, q1, q2, by omega⟩
        simp only [spec_l1Cur_books.j3, Bool.false_eq_true, if_false, hw]
    have hj2 : ∀ (b0 b1 b2 b3 a s : Int), 0 ≤ a → a + 20 * (d : Int) + 8 < 400000 → ∃ (N : List S53) (a' s' : Int), Ev (fun k => spec_l1Cur_books.j2 k L x4 ((d + 1 : Nat) : Int) c a s b0 b1 b2 b3) (N, a', s') ∧ N.length ≤ L.length + (d + 1) ∧ 0 ≤ a' ∧ a' ≤ a + 8 + 20 * (d : Int) := by
      intro b0 b1 b2 b3 a s h0 h1
      obtain ⟨r4, a4, s4, e4, _, _, m4, n4⟩ := pick_ok c hc a s 5 h0 (by omega) (by omega)
      obtain ⟨z, a5, s5, e5, m5, n5⟩ := one_ok c hc a4 s4 3 (by omega) (by omega) (by omega)
      have hlen : L.length < 4398046511104 := by omega
      cases z with
      | true =>
        obtain ⟨N, a', s', he, q1, q2, q3⟩ := hj3 (L ++ [⟨b0, b1, b2, b3⟩]) x4 (wrap64 (b2 + r4)) (decide (x4 < 9)) a5 s5 (by rw [List.length_append, List.length_singleton]; omega) (by omega) (by omega)
        rw [List.length_append, List.length_singleton] at q1
        refine ⟨N, a', s', Ev.step (fun k => ?_) he, by omega, q2, by omega⟩
        simp only [spec_l1Cur_books.j2, hlen, if_true, e4, e5, Option.bind_some]
      | false =>
        obtain ⟨N, a', s', he, q1, q2, q3⟩ := hj3 (L ++ [⟨b0, b1, b2, b3⟩]) x4 (wrap64 (b2 + r4)) false a5 s5 (by rw [List.length_append, List.length_singleton]; omega) (by omega) (by omega)
        rw [List.length_append, List.length_singleton] at q1
        refine ⟨N, a', s', Ev.step (fun k => ?_) he, by omega, q2, by omega⟩
        simp only [spec_l1Cur_books.j2, hlen, if_true, e4, e5, Option.bind_some, Bool.false_eq_true, if_false]
    cases b with
    | true =>
      obtain ⟨r4, a4, s4, e4, _, m4, n4⟩ := among_ok c hc a3 s3 [x5, 10000, 10001] (by simp) (by simp) (by omega) (by omega)
      obtain ⟨N, a', s', he, q1, q2, q3⟩ := hj2 x4 x5 r4 r2 a4 s4 (by omega) (by omega)
      refine ⟨N, a', s', Ev.step (fun k => ?_) he, q1, q2, by omega⟩
      simp only [spec_l1Cur_books.l0, hz, if_true, e1, e2, e3, e4, Option.bind_some]
    | false =>
      obtain ⟨N, a', s', he, q1, q2, q3⟩ := hj2 x4 x5 (wrap64 ((wrap64 (x5 + 1)) + r1)) r2 a3 s3 (by omega) (by omega)
      refine ⟨N, a', s', Ev.step (fun k => ?_) he, q1, q2, by omega⟩
      simp only [spec_l1Cur_books.l0, hz, if_true, e1, e2, e3, Option.bind_some, Bool.false_eq_true, if_false]
theorem draw_books (c : List Int) (hc : Bytes c) : ∃ (M : List S53) (a' s' : Int), Ev (fun k => spec_l1Cur_books.f k c 0 0) (M, a', s') ∧ M.length ≤ 50 ∧ 0 ≤ a' ∧ a' ≤ 2000 := by
  obtain ⟨r1, a1, s1, e1, _, _, m1, n1⟩ := pick_ok c hc 0 0 6 (by omega) (by omega) (by omega)
  obtain ⟨r2, a2, s2, e2, p2, q2, m2, n2⟩ := pick_ok c hc a1 s1 8 (by omega) (by omega) (by omega)
  obtain ⟨b, a3, s3, e3, m3, n3⟩ := one_ok c hc a2 s2 16 (by omega) (by omega) (by omega)
  cases b with
  | true =>
    obtain ⟨r4, a4, s4, e4, p4, q4, m4, n4⟩ := pick_ok c hc a3 s3 3 (by omega) (by omega) (by omega)
    obtain ⟨M, a', s', ⟨K, hM⟩, h1, h2, h3⟩ := books_loop c hc (39 + r4).toNat [] 0 r1 a4 s4 (by simp; omega) (by omega) (by omega)
    have hw : wrap64 (39 + r4) = ((39 + r4).toNat : Int) := by rw [wrap_in (by omega) (by omega)]; omega
    refine ⟨M, a', s', ⟨K + 1, fun k hk => ?_⟩, by simp at h1; omega, h2, by omega⟩
    obtain ⟨k, rfl⟩ : ∃ m, k = m + 1 := ⟨k - 1, by omega⟩
    have hM' := hM k (by omega)
    simp only [spec_l1Cur_books.f, e1, e2, e3, e4, Option.bind_some, if_true, spec_l1Cur_books.j0, hw]
    exact hM'
  | false =>
    obtain ⟨M, a', s', ⟨K, hM⟩, h1, h2, h3⟩ := books_loop c hc r2.toNat [] 0 r1 a3 s3 (by simp; omega) (by omega) (by omega)
    have hw : ((r2.toNat : Nat) : Int) = r2 := by omega
    rw [hw] at hM
    refine ⟨M, a', s', ⟨K + 1, fun k hk => ?_⟩, by simp at h1; omega, h2, by omega⟩
    obtain ⟨k, rfl⟩ : ∃ m, k = m + 1 := ⟨k - 1, by omega⟩
    have hM' := hM k (by omega)
    simp only [spec_l1Cur_books.f, e1, e2, e3, Option.bind_some, Bool.false_eq_true, if_false, spec_l1Cur_books.j0]
    exact hM'
theorem draw_lane (c : List Int) (hc : Bytes c) : ∃ (L : List S53) (b0 b1 b2 b3 : Int), Ev (fun k => spec_DrawBookLane.f k c) (L, b0, b1, b2, b3) ∧ L.length ≤ 50 := by
  obtain ⟨L, a0, s0, ⟨K0, h0⟩, hL, p0, q0⟩ := draw_books c hc
  obtain ⟨r1, a1, s1, e1, _, _, m1, n1⟩ := pick_ok c hc a0 s0 4 (by omega) (by omega) (by omega)
  obtain ⟨r2, a2, s2, e2, _, _, m2, n2⟩ := pick_ok c hc a1 s1 40 (by omega) (by omega) (by omega)
  obtain ⟨r3, a3, s3, e3, _, _, m3, n3⟩ := pick_ok c hc a2 s2 4 (by omega) (by omega) (by omega)
  obtain ⟨r4, a4, s4, e4, _, _, m4, n4⟩ := pick_ok c hc a3 s3 5 (by omega) (by omega) (by omega)
  obtain ⟨b, a5, s5, e5, m5, n5⟩ := one_ok c hc a4 s4 3 (by omega) (by omega) (by omega)
  have hj : ∀ (y0 y1 y2 y3 : Int), ∃ z0, ∀ k : Nat, spec_DrawBookLane.j0 (k + 1) L c a5 s5 y0 y1 y2 y3 = some (L, z0, y1, y2, y3) := by
    intro y0 y1 y2 y3
    obtain ⟨z, a6, s6, e6, m6, n6⟩ := one_ok c hc a5 s5 24 (by omega) (by omega) (by omega)
    cases z with
    | true =>
      obtain ⟨r7, a7, s7, e7, _, m7, n7⟩ := among_ok c hc a6 s6 [(-1), 10, 9] (by simp) (by simp) (by omega) (by omega)
      exact ⟨r7, fun k => by simp only [spec_DrawBookLane.j0, e6, e7, Option.bind_some, if_true]⟩
    | false => exact ⟨y0, fun k => by simp only [spec_DrawBookLane.j0, e6, Option.bind_some, Bool.false_eq_true, if_false]⟩
  cases b with
  | true =>
    obtain ⟨t, z, ⟨K1, h1⟩, _, _⟩ := free_both L r1 r2 3 (by omega)
    obtain ⟨z0, hz⟩ := hj r1 t (wrap64 (t + 3)) r3
    refine ⟨L, z0, t, wrap64 (t + 3), r3, ⟨K0 + K1 + 1, fun k hk => ?_⟩, hL⟩
    obtain ⟨k, rfl⟩ : ∃ m, k = m + 1 := ⟨k - 1, by omega⟩
    have h0' := h0 (k + 1) (by omega)
    have h1' := h1 (k + 1) (by omega)
    simp only at h0' h1'
    simp only [spec_DrawBookLane.f, h0', e1, e2, e3, e4, e5, Option.bind_some, if_true, h1', hz]
  | false =>
    obtain ⟨z0, hz⟩ := hj r1 r2 (wrap64 ((wrap64 (r2 + 1)) + r4)) r3
    refine ⟨L, z0, r2, wrap64 ((wrap64 (r2 + 1)) + r4), r3, ⟨K0 + 1, fun k hk => ?_⟩, hL⟩
    obtain ⟨k, rfl⟩ : ∃ m, k = m + 1 := ⟨k - 1, by omega⟩
    have h0' := h0 (k + 1) (by omega)
    simp only at h0'
    simp only [spec_DrawBookLane.f, h0', e1, e2, e3, e4, e5, Option.bind_some, Bool.false_eq_true, if_false, hz]
theorem draw_free (c : List Int) (hc : Bytes c) : ∃ (L : List S53) (x y z : Int), Ev (fun k => spec_DrawFirstFree.f k c) (L, x, y, z) := by
  obtain ⟨L, a0, s0, ⟨K0, h0⟩, hL, p0, q0⟩ := draw_books c hc
  obtain ⟨b, a1, s1, e1, m1, n1⟩ := one_ok c hc a0 s0 12 (by omega) (by omega) (by omega)
  cases b with
  | true =>
    obtain ⟨r2, a2, s2, e2, _, _, m2, n2⟩ := pick_ok c hc a1 s1 12 (by omega) (by omega) (by omega)
    obtain ⟨r3, a3, s3, e3, _, m3, n3⟩ := among_ok c hc a2 s2 [0, 9990, 10000, 10001, (-1)] (by simp) (by simp) (by omega) (by omega)
    obtain ⟨r4, a4, s4, e4, _, m4, n4⟩ := among_ok c hc a3 s3 [1, 10, 9990, 10000, 10001, 0] (by simp) (by simp) (by omega) (by omega)
    refine ⟨L, wrap64 (r2 - 1), r3, r4, ⟨K0, fun k hk => ?_⟩⟩
    have h0' := h0 k (by omega)
    simp only at h0'
    simp only [spec_DrawFirstFree.f, h0', e1, e2, e3, e4, Option.bind_some, if_true]
  | false =>
    obtain ⟨r2, a2, s2, e2, _, _, m2, n2⟩ := pick_ok c hc a1 s1 4 (by omega) (by omega) (by omega)
    obtain ⟨r3, a3, s3, e3, _, _, m3, n3⟩ := pick_ok c hc a2 s2 30 (by omega) (by omega) (by omega)
    obtain ⟨r4, a4, s4, e4, _, _, m4, n4⟩ := pick_ok c hc a3 s3 8 (by omega) (by omega) (by omega)
    refine ⟨L, r2, r3, wrap64 (1 + r4), ⟨K0, fun k hk => ?_⟩⟩
    have h0' := h0 k (by omega)
    simp only at h0'
    simp only [spec_DrawFirstFree.f, h0', e1, e2, e3, e4, Option.bind_some, Bool.false_eq_true, if_false]
theorem given_back (l : List S53) (hl : l.length ≤ 1000) (b0 b1 b2 b3 : Int) : Ev (fun k => laws_FnBooks.j5 k l b0 b1 b2 b3) true := by
  have hs := spec_books l (by omega)
  have hm := impl_books l (by omega)
  refine Ev.next ?_
  cases hg : goodBooks l with
  | false =>
    rw [hg] at hs hm
    have hf : Ev (fun k => impl_FreeLane.f k l b3 b1) ([], false) := by
      simp only [impl_FreeLane.f]
      refine Ev.bind hm ?_
      simp only [Bool.false_eq_true, if_false]
      exact Ev.now _
    simp only [laws_FnBooks.j5]
    refine Ev.bind hf ?_
    refine Ev.bind hs ?_
    simp only [beq_self_eq_true, if_true, Bool.false_eq_true, if_false]
    exact Ev.now _
  | true =>
    rw [hg] at hs hm
    have hf : Ev (fun k => impl_FreeLane.f k l b3 b1) (l.filterMap (leave b3 b1), true) := by
      simp only [impl_FreeLane.f]
      refine Ev.bind hm ?_
      simp only [if_true]
      exact lane_loop l b3 b1 hl l.length 0 (by omega)
    have hb := impl_books (l.filterMap (leave b3 b1)) (by have := List.length_filterMap_le (leave b3 b1) l; omega)
    rw [left_good l b3 b1 hg] at hb
    have hfine : Ev (fun k => spec_FreedFine.f k l (l.filterMap (leave b3 b1)) b3 b1) true := by
      simp only [spec_FreedFine.f]
      exact fine_loop l b3 b1 hg l.length 0 (by omega)
    simp only [laws_FnBooks.j5]
    refine Ev.bind hf ?_
    refine Ev.bind hs ?_
    simp only [beq_self_eq_true, if_true]
    refine Ev.bind hb ?_
    simp only [if_true]
    refine Ev.bind hfine ?_
    exact Ev.now _
theorem early_loop (l : List S53) (hl : l.length ≤ 1000) (hg : goodBooks l = true) (a f g t : Int) (hf : Free l a f g t) (h0 : 0 ≤ f) (h1 : 1 ≤ g) (b0 b1 b2 b3 : Int) : ∀ (d : Nat) (x : Int), f ≤ x → (t - x).toNat ≤ d →
    Ev (fun k => laws_FnBooks.l0 k l a g t x b0 b1 b2 b3) true := by
  obtain ⟨f1, f2, f3, f4⟩ := hf
  intro d
  induction d with
  | zero =>
    intro x hx hd
    refine Ev.step (fun k => ?_) (given_back l hl b0 b1 b2 b3)
    have c0 : ¬ x < t := by omega
    simp only [laws_FnBooks.l0, c0, if_false]
  | succ d ih =>
    intro x hx hd
    by_cases hxt : x < t
    · obtain ⟨q, q1, q2, q3, q4⟩ := f4 x hx hxt
      have hw : wrap64 (x + g) = x + g := wrap_in (by omega) (by omega)
      have hw2 : wrap64 (x + 1) = x + 1 := wrap_in (by omega) (by omega)
      obtain ⟨G, z, _, hz1, _, _, hi⟩ := book_both l a x (x + g) 0 (by omega)
      have hzf : z = false := by
        cases z with
        | false => rfl
        | true =>
          obtain ⟨_, hG, j, hj, hGe, _⟩ := hz1 rfl
          have := put_bad l ⟨a, x, x + g, 0⟩ j q q1 q2 q3 q4
          rw [hGe, this] at hG
          cases hG
      subst hzf
      refine Ev.next ?_
      simp only [laws_FnBooks.l0, hxt, if_true, hw]
      refine Ev.bind hi ?_
      simp only [Bool.false_eq_true, if_false, hw2]
      exact ih (x + 1) (by omega) (by omega)
    · refine Ev.step (fun k => ?_) (given_back l hl b0 b1 b2 b3)
      simp only [laws_FnBooks.l0, hxt, if_false]
theorem FnBooks : laws_FnBooks.Pure := by
  intro c c2 hc0 hc1 hc2 hd0 hd1 hd2
  have bytes : ∀ c : List Int, (∀ x ∈ c, (Lit.int .u8 x).wf = true) → Bytes c := fun c h x hx => by
    have := h x hx
    simp only [Lit.wf, IntKind.min, IntKind.max, IntKind.signed, IntKind.bits, Bool.and_eq_true, decide_eq_true_eq, Bool.false_eq_true, if_false] at this
    omega
  have hc := bytes c hc2
  have hd := bytes c2 hd2
  refine Ev.rounds (g := fun k => laws_FnBooks.f k c c2) ?_
  have stop : Ev (fun k => laws_FnBooks.j0 k c c2 true) true := Ev.next ⟨0, fun k _ => by simp only [laws_FnBooks.j0, if_true]⟩
  simp only [laws_FnBooks.f]
  by_cases hn : (c.length : Int) > 1048576
  · simp only [hn, if_true]
    exact stop
  simp only [hn, if_false]
  by_cases hn2 : (c2.length : Int) > 1048576
  · simp only [decide_eq_true hn2]
    exact stop
  simp only [decide_eq_false hn2]
  obtain ⟨l, b0, b1, b2, b3, hdr, hl⟩ := draw_lane c hc
  obtain ⟨L2, x, y, z, hdf⟩ := draw_free c2 hd
  obtain ⟨G, ok, hGl, hz1, _, hsp, him⟩ := book_both l b0 b1 b2 b3 (by omega)
  obtain ⟨t, is, hfs, hfi, hfz⟩ := free_both l x y z (by omega)
  have hj3 : ∀ w : Bool, (w = true → is = true ∧ l.length < 40) → Ev (fun k => laws_FnBooks.j3 k l x y z t w b0 b1 b2 b3) true := by
    intro w hw
    refine Ev.next ?_
    cases w with
    | false =>
      simp only [laws_FnBooks.j3, Bool.false_eq_true, if_false]
      exact given_back l (by omega) b0 b1 b2 b3
    | true =>
      obtain ⟨his, h40⟩ := hw rfl
      obtain ⟨hg, g1, g2, g3, g4, g5, hF⟩ := hfz his
      have hF' := hF
      obtain ⟨f1, f2, f3, f4⟩ := hF
      have hwr : wrap64 (t + z) = t + z := wrap_in (by omega) (by omega)
      have hwm : wrap64 (t - 100) = t - 100 := wrap_in (by omega) (by omega)
      obtain ⟨G2, z2, _, _, hz2, _, hi2⟩ := book_both l x t (t + z) 0 (by omega)
      have hzt : z2 = true := by
        cases z2 with
        | true => rfl
        | false =>
          obtain ⟨j, j1, j2, j3, j4⟩ := hz2 rfl hg
          have := put_good l ⟨x, t, t + z, 0⟩ j j1 h40 hg (by rw [ok_spec]; simp only; omega) j2 j3 f3
          rw [this] at j4
          cases j4
      subst hzt
      simp only [laws_FnBooks.j3, if_true, hwr, hwm]
      refine Ev.bind hi2 ?_
      simp only [if_true]
      exact early_loop l (by omega) hg x y z t hF' g3 g4 b0 b1 b2 b3 (t - mx y (t - 100)).toNat (mx y (t - 100)) (by unfold mx; split <;> omega) (Nat.le_refl _)
  have hj2 : Ev (fun k => laws_FnBooks.j2 k l x y z t is false b0 b1 b2 b3) true := by
    refine Ev.next ?_
    simp only [laws_FnBooks.j2, Bool.false_eq_true, if_false]
    cases is with
    | true =>
      simp only [if_true]
      exact hj3 _ (fun h => ⟨rfl, by simp only [decide_eq_true_eq] at h; omega⟩)
    | false =>
      simp only [Bool.false_eq_true, if_false]
      exact hj3 false (fun h => by cases h)
  have hj1 : Ev (fun k => laws_FnBooks.j1 k c2 l false b0 b1 b2 b3) true := by
    refine Ev.next ?_
    simp only [laws_FnBooks.j1, Bool.false_eq_true, if_false]
    refine Ev.bind hdf ?_
    refine Ev.bind hfi ?_
    refine Ev.bind hfs ?_
    simp only [bne_self_eq_false, Bool.false_eq_true, if_false]
    exact hj2
  refine Ev.next ?_
  simp only [laws_FnBooks.j0, Bool.false_eq_true, if_false]
  refine Ev.bind hdr ?_
  refine Ev.bind him ?_
  refine Ev.bind hsp ?_
  simp only [bne_self_eq_false, Bool.false_eq_true, if_false]
  cases ok with
  | false =>
    simp only [Bool.false_eq_true, if_false]
    exact hj1
  | true =>
    obtain ⟨_, hG, j, hj, hGe, _⟩ := hz1 rfl
    have hlen : (G.length : Int) = wrap64 ((l.length : Int) + 1) := by
      rw [wrap_in (by omega) (by omega), hGe, putIn_length _ _ _ hj]
      omega
    have hb := impl_books G (by omega)
    rw [hG] at hb
    simp only [if_true, ← hlen]
    refine Ev.bind hb ?_
    simp only [Bool.not_true]
    exact hj1

end Go.Proofs.Ytlhncdbflldmeaa.Pure
