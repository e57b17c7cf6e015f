/- 'FnExactFirstFree': what the program's function and the reference's answer, told over numbers and lists alone, meets the law at every input within the kinds' own bounds; no other condition. -/
import Derived.Test.YthalklcgdibnkaaPFnExactFirstFreex4
import Derived.Test.YthalklcgdibnkaaPlain
namespace Go.Proofs.Ythalklcgdibnkaa.Pure
open Go.RowKit Go.Proofs.Ythalklcgdibnkaa.PFnExactFirstFree Go.Proofs.Ythalklcgdibnkaa.Plain Go.Proofs.YthalklcgdibnkaaW.PrintWords Go.Proofs.YthalklcgdibnkaaW.PrintLast
set_option linter.unusedVariables false
set_option linter.unusedSimpArgs false

theorem szBookedS_eq (l : List (S52)) (h : l.length ≤ 140737488351232) (n : Int) (h0 : 0 ≤ n) (h1 : n ≤ 1048576) : laws_szBookedS.f l n = some (if (l.length : Int) > n then -1 else n - l.length) := by
  unfold laws_szBookedS.f
  rw [wrap_in (by omega) (by omega)]
  split <;> split <;> first | rfl | (exfalso; omega)
def cBookedS (x : S52) : S54 := ⟨x.f0, x.f1, x.f2, x.f3⟩
theorem toBookedS_ev (l : List S52) (h : l.length ≤ 1048576) : Ev (fun k => laws_toBookedS.f k l) (l.map cBookedS) := by
  have := to_loop (fun k acc i => laws_toBookedS.l0 k l acc i) cBookedS l z54 (fun k acc => by simp [laws_toBookedS.l0]) (fun i hi => ⟨0, fun k _ acc hacc => by
    have h1 : (i : Int) < (l.length : Int) := by omega
    have h2 : (0 : Int) ≤ (i : Int) := by omega
    have h3 : (i : Int) < (acc.length : Int) := by omega
    have h4 : rd_T52 l (i : Int) = l[i] := by simp [rd_T52, hi]
    simp only [laws_toBookedS.l0, laws_toBooked.f, h1, h2, h3, h4, if_true, Option.bind_some, wrap_succ i (by omega), toNat_i]
    rfl⟩)
  exact Ev.congr (fun k => by
    have h5 : l.length ≤ 100000000 := by omega
    simp only [laws_toBookedS.f, toNat_i]
    rw [if_pos (by omega), if_pos (by omega)]) this
theorem eqBookedS_ev (l : List (S54)) (h : l.length < 9223372036854775807) : Ev (fun k => laws_eqBookedS.f k l l) true := by
  have := eq_loop (fun k i => laws_eqBookedS.l0 k l l i) l.length true (fun k => by simp [laws_eqBookedS.l0]) (fun i hi => ⟨0, fun k _ => by
    have h1 : (i : Int) < (l.length : Int) := by omega
    have h2 : (0 : Int) ≤ (i : Int) := by omega
    simp only [laws_eqBookedS.l0, laws_eqBooked.f, h1, h2, if_true, Option.bind_some, wrap_succ i (by omega), bne_self_eq_false, Bool.false_eq_true, if_false]⟩)
  exact Ev.congr (fun k => by simp only [laws_eqBookedS.f, if_true]) this
theorem between_eq (a lo hi : Int) : impl_between.f a lo hi = some (decide (lo ≤ a ∧ a ≤ hi)) := by
  unfold impl_between.f
  split <;> simp <;> omega
def okBook (x : S54) : Bool := decide (0 ≤ x.f0 ∧ x.f0 ≤ 9 ∧ 0 ≤ x.f3 ∧ x.f3 ≤ 9 ∧ 0 ≤ x.f1 ∧ x.f1 < x.f2 ∧ x.f2 ≤ 10000)
def okAt (l : List S54) (i : Nat) : Bool := okBook (rd_T54 l (i : Int)) && (decide (i = 0) || decide ((rd_T54 l ((i - 1 : Nat) : Int)).f0 < (rd_T54 l (i : Int)).f0 ∨ ((rd_T54 l ((i - 1 : Nat) : Int)).f0 = (rd_T54 l (i : Int)).f0 ∧ (rd_T54 l ((i - 1 : Nat) : Int)).f2 ≤ (rd_T54 l (i : Int)).f1)))
def goodBooks (l : List S54) : Bool := decide (l.length ≤ 40) && (List.range l.length).all (okAt l)
theorem spec_booked (a b c d : Int) : spec_l27Booked.f a b c d = some (okBook ⟨a, b, c, d⟩) := by
  unfold spec_l27Booked.f okBook
  repeat' split
  all_goals (simp only [Option.some.injEq]; first | (rw [eq_comm, decide_eq_false_iff_not]; omega) | (apply decide_eq_decide.2; omega))
theorem spec_books (l : List S54) (hb : l.length ≤ 1099511627776) : Ev (fun k => spec_GoodBooks.f k l) (goodBooks l) := by
  have hl := all_loop (fun k i => spec_GoodBooks.l0 k l l (l.length : Int) i) l.length (okAt l) true false
    (Ev.at 1 0 (fun k _ => by simp [spec_GoodBooks.l0]))
    (fun i hi hp => ⟨0, fun k _ => by
      have h1 : (i : Int) < (l.length : Int) := by omega
      have h2 : (0 : Int) ≤ (i : Int) := by omega
      simp only [okAt, Bool.and_eq_true, Bool.or_eq_true, decide_eq_true_eq] at hp
      have h3 : okBook ⟨(rd_T54 l (i : Int)).f0, (rd_T54 l (i : Int)).f1, (rd_T54 l (i : Int)).f2, (rd_T54 l (i : Int)).f3⟩ = true := hp.1
      simp only [spec_GoodBooks.l0, h1, h2, if_true, wrap_succ i (by omega), spec_booked, h3, Option.bind_some]
      by_cases h0 : i = 0
      · rw [if_pos (by omega)]
      · have h4 : (0 : Int) ≤ ((i - 1 : Nat) : Int) := by omega
        have h5 : ((i - 1 : Nat) : Int) < (l.length : Int) := by omega
        rw [if_neg (by omega)]
        simp only [wrap_pred i (by omega) (by omega), h4, h5, if_true]
        rw [if_neg (by omega)]
        split
        · rw [if_neg (by omega)]
        · rfl⟩)
    (fun i hi hp => ⟨0, fun k _ => by
      have h1 : (i : Int) < (l.length : Int) := by omega
      have h2 : (0 : Int) ≤ (i : Int) := by omega
      simp only [spec_GoodBooks.l0, h1, h2, if_true, spec_booked, Option.bind_some]
      have e3 : okBook ⟨(rd_T54 l (i : Int)).f0, (rd_T54 l (i : Int)).f1, (rd_T54 l (i : Int)).f2, (rd_T54 l (i : Int)).f3⟩ = okBook (rd_T54 l (i : Int)) := rfl
      rw [e3]
      simp only [okAt] at hp
      cases h3 : okBook (rd_T54 l (i : Int)) with
      | false => simp
      | true =>
        rw [h3, Bool.true_and, Bool.or_eq_false_iff, decide_eq_false_iff_not, decide_eq_false_iff_not] at hp
        have h4 : (0 : Int) ≤ ((i - 1 : Nat) : Int) := by omega
        have h5 : ((i - 1 : Nat) : Int) < (l.length : Int) := by omega
        rw [if_pos rfl, if_neg (by omega)]
        simp only [wrap_pred i (by omega) (by omega), h4, h5, if_true]
        split
        · rfl
        · rw [if_pos (by omega), if_pos (by omega)]⟩)
  obtain ⟨K, hK⟩ := hl
  refine ⟨K, fun k hk => ?_⟩
  have hk' := hK k hk
  simp only [spec_GoodBooks.f, hk', goodBooks]
  generalize (List.range l.length).all (okAt l) = q
  by_cases h40 : l.length ≤ 40
  · rw [if_neg (by omega), decide_eq_true h40]
    cases q <;> rfl
  · rw [if_pos (by omega), decide_eq_false h40]
    rfl
theorem impl_books (l : List S54) (hb : l.length ≤ 1099511627776) : Ev (fun k => impl_GoodBooks.f k l) (goodBooks l) := by
  have hj1 : ∀ (k i : Nat), i < l.length → ∀ b : Bool, b = false → okAt l i = true → okBook (rd_T54 l (i : Int)) = true →
      impl_GoodBooks.j1 (k + 1) l (i : Int) l (l.length : Int) (i : Int) b (rd_T54 l (i : Int)).f0 (rd_T54 l (i : Int)).f1 (rd_T54 l (i : Int)).f2 (rd_T54 l (i : Int)).f3 = impl_GoodBooks.l0 k l l (l.length : Int) ((i + 1 : Nat) : Int) := by
    intro k i hi b hbf hp hok
    subst hbf
    simp only [okAt, Bool.and_eq_true, Bool.or_eq_true, decide_eq_true_eq] at hp
    simp only [impl_GoodBooks.j1, Bool.false_eq_true, if_false, wrap_succ i (by omega)]
    by_cases h0 : i = 0
    · rw [if_neg (by omega)]
    · have h4 : (0 : Int) ≤ ((i - 1 : Nat) : Int) := by omega
      have h5 : ((i - 1 : Nat) : Int) < (l.length : Int) := by omega
      rw [if_pos (by omega)]
      simp only [wrap_pred i (by omega) (by omega), h4, h5, if_true]
      rw [if_neg (by omega)]
      split
      · rw [if_neg (by omega)]
      · rfl
  have hj2 : ∀ (k i : Nat), i < l.length → ∀ b : Bool, (b = true ∨ (b = false ∧ okAt l i = false ∧ okBook (rd_T54 l (i : Int)) = true)) →
      impl_GoodBooks.j1 (k + 1) l (i : Int) l (l.length : Int) (i : Int) b (rd_T54 l (i : Int)).f0 (rd_T54 l (i : Int)).f1 (rd_T54 l (i : Int)).f2 (rd_T54 l (i : Int)).f3 = some false := by
    intro k i hi b hc
    rcases hc with rfl | ⟨rfl, hp, hok⟩
    · simp only [impl_GoodBooks.j1, if_true]
    · rw [okAt, hok, Bool.true_and, Bool.or_eq_false_iff, decide_eq_false_iff_not, decide_eq_false_iff_not] at hp
      have h4 : (0 : Int) ≤ ((i - 1 : Nat) : Int) := by omega
      have h5 : ((i - 1 : Nat) : Int) < (l.length : Int) := by omega
      simp only [impl_GoodBooks.j1, Bool.false_eq_true, if_false]
      rw [if_pos (by omega)]
      simp only [wrap_pred i (by omega) (by omega), h4, h5, if_true]
      split
      · rfl
      · rw [if_pos (by omega), if_pos (by omega)]
  have hj0 : ∀ (k i : Nat), i < l.length → okBook (rd_T54 l (i : Int)) = false → impl_GoodBooks.l0 (k + 2) l l (l.length : Int) (i : Int) = some false := by
    intro k i hi hok
    have h1 : (i : Int) < (l.length : Int) := by omega
    have h2 : (0 : Int) ≤ (i : Int) := by omega
    have ht := hj2 k i hi true (.inl rfl)
    simp only [okBook, decide_eq_false_iff_not] at hok
    rw [impl_GoodBooks.l0]
    simp only [h1, h2, if_true, between_eq, Option.bind_some, decide_eq_true_eq]
    split
    · split
      · split
        · exact ht
        · split
          · exact ht
          · have e : decide ((rd_T54 l (i : Int)).f2 > 10000) = true := by rw [decide_eq_true_eq]; omega
            rw [e]
            exact ht
      · exact ht
    · exact ht
  have hj3 : ∀ (k i : Nat), i < l.length → okBook (rd_T54 l (i : Int)) = true → impl_GoodBooks.l0 (k + 2) l l (l.length : Int) (i : Int) =
      impl_GoodBooks.j1 (k + 1) l (i : Int) l (l.length : Int) (i : Int) false (rd_T54 l (i : Int)).f0 (rd_T54 l (i : Int)).f1 (rd_T54 l (i : Int)).f2 (rd_T54 l (i : Int)).f3 := by
    intro k i hi hok
    have h1 : (i : Int) < (l.length : Int) := by omega
    have h2 : (0 : Int) ≤ (i : Int) := by omega
    simp only [okBook, decide_eq_true_eq] at hok
    rw [impl_GoodBooks.l0]
    simp only [h1, h2, if_true, between_eq, Option.bind_some, decide_eq_true_eq]
    have e : decide ((rd_T54 l (i : Int)).f2 > 10000) = false := by rw [decide_eq_false_iff_not]; omega
    rw [if_pos (by omega), if_pos (by omega), if_neg (by omega), if_neg (by omega), e]
  have hend : Ev (fun k => impl_GoodBooks.l0 k l l (l.length : Int) (l.length : Int)) (decide (l.length ≤ 40)) := Ev.at 1 0 (fun k _ => by
    have h1 : ¬ ((l.length : Int) < (l.length : Int)) := by omega
    simp only [impl_GoodBooks.l0, h1, if_false, Option.some.injEq]
    apply decide_eq_decide.2
    omega)
  have key : ∀ (d i : Nat), i + d = l.length → Ev (fun k => impl_GoodBooks.l0 k l l (l.length : Int) (i : Int)) (if (List.range' i d).all (okAt l) = true then decide (l.length ≤ 40) else false) := by
    intro d
    induction d with
    | zero =>
      intro i hi
      obtain rfl : i = l.length := by omega
      simpa using hend
    | succ d ih =>
      intro i hi
      rw [List.range'_succ, List.all_cons]
      cases hp : okAt l i with
      | true =>
        have hok : okBook (rd_T54 l (i : Int)) = true := by
          simp only [okAt, Bool.and_eq_true] at hp
          exact hp.1
        have := ih (i + 1) (by omega)
        simp only [Bool.true_and]
        exact Ev.back 2 0 (fun k _ => by rw [hj3 k i (by omega) hok, hj1 k i (by omega) false rfl hp hok]) this
      | false =>
        simp only [Bool.false_and, Bool.false_eq_true, if_false]
        cases hok : okBook (rd_T54 l (i : Int)) with
        | true => exact Ev.at 2 0 (fun k _ => by rw [hj3 k i (by omega) hok, hj2 k i (by omega) false (.inr ⟨rfl, hp, hok⟩)])
        | false => exact Ev.at 2 0 (fun k _ => hj0 k i (by omega) hok)
  have := key l.length 0 (by omega)
  rw [← List.range_eq_range'] at this
  have e : (if (List.range l.length).all (okAt l) = true then decide (l.length ≤ 40) else false) = goodBooks l := by
    unfold goodBooks
    cases (List.range l.length).all (okAt l) <;> simp
  rw [e] at this
  exact this
theorem free_same : ∀ (k : Nat) (a f g : Int) (l : List S54) (n i : Int), impl_FirstFree.l0 k a f g l n i = spec_FirstFree.l0 k a f g l n i
  | 0, _, _, _, _, _, _ => rfl
  | k + 1, a, f, g, l, n, i => by
    simp only [impl_FirstFree.l0, spec_FirstFree.l0, free_same k]
    repeat' split
    all_goals first | rfl | (exfalso; omega)
theorem free_ends (a f g : Int) (l : List S54) (hb : l.length ≤ 1099511627776) : ∃ r, Ev (fun k => spec_FirstFree.l0 k a f g l (l.length : Int) 0) r := by
  obtain ⟨r, _, h⟩ := one_while (fun k (s : Int × Int) => spec_FirstFree.l0 k a s.1 g l (l.length : Int) s.2) (fun d s => ∃ i : Nat, s.2 = (i : Int) ∧ i + d = l.length) (fun _ => True)
    (by
      rintro d ⟨s, j⟩ ⟨i, hj, hd⟩
      obtain rfl : j = (i : Int) := hj
      by_cases hi : i < l.length
      · right
        have h1 : (i : Int) < (l.length : Int) := by omega
        have h2 : (0 : Int) ≤ (i : Int) := by omega
        by_cases hc : (rd_T54 l (i : Int)).f0 = a ∧ (rd_T54 l (i : Int)).f1 < wrap64 (s + g) ∧ (rd_T54 l (i : Int)).f2 > s
        · refine ⟨d - 1, ((rd_T54 l (i : Int)).f2, ((i + 1 : Nat) : Int)), by omega, ⟨i + 1, rfl, by omega⟩, fun r hr => Ev.back 1 0 (fun k _ => ?_) hr⟩
          simp only [spec_FirstFree.l0, h1, h2, if_true, hc.1, hc.2.1, hc.2.2, wrap_succ i (by omega)]
        · refine ⟨d - 1, (s, ((i + 1 : Nat) : Int)), by omega, ⟨i + 1, rfl, by omega⟩, fun r hr => Ev.back 1 0 (fun k _ => ?_) hr⟩
          simp only [spec_FirstFree.l0, h1, h2, if_true, wrap_succ i (by omega)]
          repeat' split
          all_goals first | rfl | (exfalso; exact hc ⟨‹_›, ‹_›, ‹_›⟩)
      · left
        have h1 : ¬ (i : Int) < (l.length : Int) := by omega
        by_cases hc : wrap64 (s + g) > 10000
        · exact ⟨_, trivial, Ev.at 1 0 (fun k _ => by simp only [spec_FirstFree.l0, h1, if_false]; rw [if_pos hc])⟩
        · exact ⟨_, trivial, Ev.at 1 0 (fun k _ => by simp only [spec_FirstFree.l0, h1, if_false]; rw [if_neg hc])⟩) l.length (f, 0) ⟨0, rfl, by omega⟩
  exact ⟨r, h⟩
theorem FnExactFirstFree : ∀ (l0 : List (S52)) (a1 : Int) (a2 : Int) (a3 : Int), ((∀ (zl0 : S52), zl0 ∈ l0 → ((Lit.int .i64 zl0.f0).wf = true ∧ (Lit.int .i64 zl0.f1).wf = true ∧ (Lit.int .i64 zl0.f2).wf = true ∧ (Lit.int .i64 zl0.f3).wf = true)) ∧ l0.length * 32 ≤ 140737488351232) → (Lit.int .i64 a1).wf = true → (Lit.int .i64 a2).wf = true → (Lit.int .i64 a3).wf = true → ∃ k, laws_FnExactFirstFree.f k l0 a1 a2 a3 = some true := by
  intro l a f g ⟨_, hl⟩ _ _ _
  have hs := szBookedS_eq l (by omega) 1048576 (by omega) (by omega)
  by_cases hn : (l.length : Int) > 1048576
  · exact ⟨0, by simp [laws_FnExactFirstFree.f, hs, hn]⟩
  · have hn' : ¬ ((1048576 : Int) - l.length < 0) := by omega
    obtain ⟨K1, h1⟩ := toBookedS_ev l (by omega)
    obtain ⟨K2, h2⟩ := spec_books (l.map cBookedS) (by rw [List.length_map]; omega)
    obtain ⟨K3, h3⟩ := impl_books (l.map cBookedS) (by rw [List.length_map]; omega)
    obtain ⟨K4, h4⟩ := eqBookedS_ev (l.map cBookedS) (by rw [List.length_map]; omega)
    have hj : ∀ k, K1 + K4 ≤ k → laws_FnExactFirstFree.j0 (k + 1) l (l.map cBookedS) false = some true := by
      intro k hk
      simp (disch := omega) only [laws_FnExactFirstFree.j0, h1, h4, Option.bind_some, Bool.false_eq_true, if_false, if_true]
    have both : ∃ r K, ∀ k, K ≤ k → spec_FirstFree.f k (l.map cBookedS) a f g = some r ∧ impl_FirstFree.f k (l.map cBookedS) a f g = some r := by
      by_cases hg : goodBooks (l.map cBookedS) = true
      · obtain ⟨r, K5, h5⟩ := free_ends a f g (l.map cBookedS) (by rw [List.length_map]; omega)
        have hcases : ∀ k, K5 ≤ k → spec_FirstFree.j0 (k + 1) (l.map cBookedS) a f g false = some r := fun k hk => by
          have := h5 k hk
          simp only [spec_FirstFree.j0, Bool.false_eq_true, if_false]
          exact this
        have hcases' : ∀ k, K5 ≤ k → impl_FirstFree.j0 (k + 1) (l.map cBookedS) a f g false = some r := fun k hk => by
          have := h5 k hk
          simp only [impl_FirstFree.j0, Bool.false_eq_true, if_false, free_same]
          exact this
        have hno : ∀ k, spec_FirstFree.j0 (k + 1) (l.map cBookedS) a f g true = some (0, false) := fun k => by simp only [spec_FirstFree.j0, if_true]
        have hno' : ∀ k, impl_FirstFree.j0 (k + 1) (l.map cBookedS) a f g true = some (0, false) := fun k => by simp only [impl_FirstFree.j0, if_true]
        by_cases hc : 0 ≤ a ∧ a ≤ 9 ∧ 0 ≤ f ∧ f ≤ 10000 ∧ 1 ≤ g ∧ g ≤ 10000
        · refine ⟨r, K2 + K3 + K5 + 1, fun k hk => ?_⟩
          obtain ⟨k, rfl⟩ : ∃ m, k = m + 1 := ⟨k - 1, by omega⟩
          have e1 : decide ((0 : Int) ≤ a ∧ a ≤ 9) = true := by rw [decide_eq_true_eq]; omega
          have e2 : decide ((0 : Int) ≤ f ∧ f ≤ 10000) = true := by rw [decide_eq_true_eq]; omega
          have e3 : decide ((1 : Int) ≤ g ∧ g ≤ 10000) = true := by rw [decide_eq_true_eq]; omega
          have e4 : decide (g > 10000) = false := by rw [decide_eq_false_iff_not]; omega
          simp (disch := omega) only [spec_FirstFree.f, impl_FirstFree.f, h2, h3, hg, Option.bind_some, if_true, between_eq, e1, e2, e3, e4, Bool.not_true, hcases, hcases']
          rw [if_neg (by omega), if_neg (by omega), if_neg (by omega), if_neg (by omega), if_neg (by omega)]
          simp
        · refine ⟨(0, false), K2 + K3 + 1, fun k hk => ?_⟩
          obtain ⟨k, rfl⟩ : ∃ m, k = m + 1 := ⟨k - 1, by omega⟩
          simp (disch := omega) only [spec_FirstFree.f, impl_FirstFree.f, h2, h3, hg, Option.bind_some, if_true, between_eq, hno, hno', decide_eq_true_eq]
          constructor
          · repeat' split
            all_goals first | rfl | skip
            rw [decide_eq_true (by omega), hno]
          · repeat' split
            all_goals first | rfl | skip
            rw [decide_eq_false (by omega), Bool.not_false, hno']
      · refine ⟨(0, false), K2 + K3 + 1, fun k hk => ?_⟩
        obtain ⟨k, rfl⟩ : ∃ m, k = m + 1 := ⟨k - 1, by omega⟩
        simp (disch := omega) only [spec_FirstFree.f, impl_FirstFree.f, h2, h3, hg, Option.bind_some, if_false, Bool.false_eq_true, spec_FirstFree.j0, impl_FirstFree.j0, if_true, and_self]
    obtain ⟨⟨r1, r2⟩, K5, h5⟩ := both
    refine ⟨K1 + K2 + K3 + K4 + K5 + 1, ?_⟩
    have hj' := hj (K1 + K2 + K3 + K4 + K5) (by omega)
    have h5' := h5 (K1 + K2 + K3 + K4 + K5 + 1) (by omega)
    simp (disch := omega) only [laws_FnExactFirstFree.f, hs, hn, if_false, Option.bind_some, hn', h1, h5', if_true, bne_self_eq_false, hj']

end Go.Proofs.Ythalklcgdibnkaa.Pure
