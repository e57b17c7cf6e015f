/- 'FnKept': for every input what is kept of a drawn queue ends with the word behind and has the last ones ahead of it. No condition. -/
import Derived.Test.YtmlejakajcmbdaaQFnKeptx2
import Derived.Test.YtmlejakajcmbdaaPlain
namespace Go.Proofs.Ytmlejakajcmbdaa.Pure
open Go.RowKit Go.Proofs.Ytmlejakajcmbdaa.PFnKept Go.Proofs.Ytmlejakajcmbdaa.Plain Go.Proofs.YtmlejakajcmbdaaW.PrintWords Go.Proofs.YtmlejakajcmbdaaW.PrintLast
set_option linter.unusedVariables false
set_option linter.unusedSimpArgs false

theorem between_eq (a lo hi : Int) : impl_between.f a lo hi = some (decide (lo ≤ a ∧ a ≤ hi)) := by
  unfold impl_between.f
  split <;> simp <;> omega
def keepRes (q : List Int) (depth w : Int) : List Int × Bool :=
  if 1 ≤ depth ∧ depth ≤ 10 ∧ (q.length : Int) ≤ depth then (if (q.length : Int) + 1 > depth then (q ++ [w]).drop 1 else q ++ [w], true) else ([], false)
theorem impl_keep (q : List Int) (depth w : Int) (hq : q.length ≤ 1048576) : Ev (fun k => impl_KeepLast.f k q depth w) (keepRes q depth w) := by
  refine Ev.at 1 0 (fun k _ => ?_)
  have l1 : q.length < 17592186044416 := by omega
  have l2 : ([] : List Int).length + q.length < 17592186044416 := by simp; omega
  have l3 : (1 : Int) ≤ ((q ++ [w]).length : Int) := by simp; omega
  by_cases h : 1 ≤ depth ∧ depth ≤ 10 ∧ (q.length : Int) ≤ depth
  · have e1 : decide ((1 : Int) ≤ depth ∧ depth ≤ 10) = true := by rw [decide_eq_true_eq]; omega
    have e2 : decide ((q.length : Int) > depth) = false := by rw [decide_eq_false_iff_not]; omega
    simp only [impl_KeepLast.f, between_eq, Option.bind_some, e1, e2, if_true, impl_KeepLast.j0, Bool.false_eq_true, if_false, slices_Clone_int_int.f, l2, List.nil_append, l1, l3, keepRes, h, and_self]
    by_cases hd : (q.length : Int) + 1 > depth
    · have c1 : ((q ++ [w]).length : Int) > depth := by simp; omega
      simp only [c1, hd, if_true, decide_true]
      rfl
    · have c1 : ¬ ((q ++ [w]).length : Int) > depth := by simp; omega
      simp only [c1, hd, if_false, decide_true, if_true]
  · simp only [keepRes, h, if_false]
    simp only [impl_KeepLast.f, between_eq, Option.bind_some]
    cases e1 : decide ((1 : Int) ≤ depth ∧ depth ≤ 10) with
    | false => simp [impl_KeepLast.j0]
    | true =>
      rw [decide_eq_true_eq] at e1
      have e2 : decide ((q.length : Int) > depth) = true := by rw [decide_eq_true_eq]; omega
      simp only [e2, if_true, impl_KeepLast.j0]
theorem spec_keep (q : List Int) (depth w : Int) (hq : q.length ≤ 1048576) : Ev (fun k => spec_KeepLast.f k q depth w) (keepRes q depth w) := by
  refine Ev.at 1 0 (fun k _ => ?_)
  have l1 : q.length < 17592186044416 := by omega
  have l2 : ([] : List Int).length + q.length < 17592186044416 := by simp; omega
  have l3 : (1 : Int) ≤ ((q ++ [w]).length : Int) := by simp; omega
  have l4 : ([] : List Int).length + ((q ++ [w]).drop 1).length < 17592186044416 := by simp; omega
  by_cases h : 1 ≤ depth ∧ depth ≤ 10 ∧ (q.length : Int) ≤ depth
  · have e2 : decide ((q.length : Int) > depth) = false := by rw [decide_eq_false_iff_not]; omega
    have n1 : ¬ depth < 1 := by omega
    have n2 : ¬ depth > 10 := by omega
    simp only [spec_KeepLast.f, n1, n2, if_false, e2, spec_KeepLast.j0, Bool.false_eq_true, Option.bind_some, l2, if_true, List.nil_append, l1, l3, l4, keepRes, h, and_self]
    by_cases hd : (q.length : Int) + 1 > depth
    · have c1 : ((q ++ [w]).length : Int) > depth := by simp; omega
      simp only [c1, hd, if_true]
    · have c1 : ¬ ((q ++ [w]).length : Int) > depth := by simp; omega
      simp only [c1, hd, if_false, decide_true, if_true]
  · simp only [keepRes, h, if_false]
    simp only [spec_KeepLast.f]
    split
    · simp [spec_KeepLast.j0]
    · split
      · simp [spec_KeepLast.j0]
      · have e2 : decide ((q.length : Int) > depth) = true := by rw [decide_eq_true_eq]; omega
        simp only [e2, spec_KeepLast.j0, if_true]
theorem wraps_u64 (n : Int) (h₀ : 0 ≤ n) (h₁ : n < 2 ^ 64) : IntKind.u64.wrap n = n := by rw [IntKind.wrap_u64]; omega
theorem u64_rng (n : Int) : 0 ≤ IntKind.u64.wrap n ∧ IntKind.u64.wrap n < 18446744073709551616 := by rw [IntKind.wrap_u64]; omega
theorem u64_and255 (x : Int) (h₀ : 0 ≤ x) (h₁ : x < 2 ^ 64) : Go.bits .and .u64 x 255 = x % 256 := bits_mask .u64 64 (by decide) wraps_u64 8 (by decide) x h₀ h₁
/-- The bytes that the draws read. -/
def Bytes (c : List Int) : Prop := ∀ x ∈ c, 0 ≤ x ∧ x ≤ 255
theorem bytes_rd (c : List Int) (h : Bytes c) (i : Int) : 0 ≤ rd c i ∧ rd c i ≤ 255 := by
  unfold rd
  rw [List.getD_eq_getElem?_getD]
  by_cases hi : i.toNat < c.length
  · rw [List.getElem?_eq_getElem hi]
    exact h _ (List.getElem_mem _)
  · rw [List.getElem?_eq_none (by omega)]
    simp
theorem seed_byte (u : Int) : 0 ≤ wrap64 (Go.bits .and .u64 ((IntKind.u64.wrap u) / 1099511627776) 255) ∧ wrap64 (Go.bits .and .u64 ((IntKind.u64.wrap u) / 1099511627776) 255) ≤ 255 := by
  have h := u64_rng u
  have h1 : 0 ≤ (IntKind.u64.wrap u) / 1099511627776 := by omega
  have h2 : (IntKind.u64.wrap u) / 1099511627776 < 2 ^ 64 := by omega
  rw [u64_and255 _ h1 h2, wrap_in (by omega) (by omega)]
  omega
theorem next_ok (c : List Int) (hc : Bytes c) (a s : Int) (h0 : 0 ≤ a) (h1 : a < 4611686018427387904) : ∃ r s', spec_l1Cur_next.f c a s = some (r, a + 1, s') ∧ 0 ≤ r ∧ r ≤ 255 := by
  have hw : wrap64 (a + 1) = a + 1 := wrap_in (by omega) (by omega)
  have hb := bytes_rd c hc a
  have hwb : wrap64 (rd c a) = rd c a := wrap_in (by omega) (by omega)
  unfold spec_l1Cur_next.f
  simp only [hw, h0, if_true]
  split
  · split
    · exact ⟨_, _, rfl, by omega, by omega⟩
    · exact ⟨_, _, rfl, seed_byte _⟩
  · split
    · exact ⟨_, _, rfl, by omega, by omega⟩
    · exact ⟨_, _, rfl, seed_byte _⟩
theorem pick_ok (c : List Int) (hc : Bytes c) (a s n : Int) (h0 : 0 ≤ a) (h1 : a < 4611686018427387900) (hn : n < 9223372036854775808) :
    ∃ r a' s', spec_l1Cur_pick.f c a s n = some (r, a', s') ∧ 0 ≤ r ∧ (r < n ∨ r = 0) ∧ a ≤ a' ∧ a' ≤ a + 2 := by
  unfold spec_l1Cur_pick.f
  split
  · exact ⟨0, a, s, rfl, by omega, by omega, by omega, by omega⟩
  · obtain ⟨r1, s1, e1, h2, h3⟩ := next_ok c hc a s h0 (by omega)
    rw [e1]
    simp only [Option.bind_some]
    split
    · obtain ⟨r2, s2, e2, h4, h5⟩ := next_ok c hc (a + 1) s1 (by omega) (by omega)
      rw [e2]
      simp only [Option.bind_some]
      rw [if_neg (by omega)]
      have w1 : wrap64 (r1 * 256) = r1 * 256 := wrap_in (by omega) (by omega)
      have w2 : wrap64 (r1 * 256 + r2) = r1 * 256 + r2 := wrap_in (by omega) (by omega)
      rw [w1, w2]
      refine ⟨_, _, _, rfl, ?_, ?_, by omega, by omega⟩
      · rw [Int.tmod_eq_emod_of_nonneg (by omega)]
        exact Int.emod_nonneg _ (by omega)
      · rw [Int.tmod_eq_emod_of_nonneg (by omega)]
        exact .inl (Int.emod_lt_of_pos _ (by omega))
    · rw [if_neg (by omega)]
      refine ⟨_, _, _, rfl, ?_, ?_, by omega, by omega⟩
      · rw [Int.tmod_eq_emod_of_nonneg (by omega)]
        exact Int.emod_nonneg _ (by omega)
      · rw [Int.tmod_eq_emod_of_nonneg (by omega)]
        exact .inl (Int.emod_lt_of_pos _ (by omega))
theorem one_ok (c : List Int) (hc : Bytes c) (a s n : Int) (h0 : 0 ≤ a) (h1 : a < 4611686018427387900) (hn : n < 9223372036854775808) : ∃ b a' s', spec_l1Cur_one.f c a s n = some (b, a', s') ∧ a ≤ a' ∧ a' ≤ a + 2 := by
  obtain ⟨r, a', s', e, _, _, h2, h3⟩ := pick_ok c hc a s n h0 h1 hn
  unfold spec_l1Cur_one.f
  rw [e]
  exact ⟨_, _, _, rfl, h2, h3⟩
theorem wide_ok (c : List Int) (hc : Bytes c) (a s : Int) (h0 : 0 ≤ a) (h1 : a < 4611686018427387000) : ∃ r a' s', Ev (fun k => spec_l1Cur_wide.f k c a s) (r, a', s') ∧ a ≤ a' ∧ a' ≤ a + 8 := by
  obtain ⟨⟨r, a', s'⟩, hp, h⟩ := one_while (fun k (z : Int × Int × Int × Int) => spec_l1Cur_wide.l0 k z.1 z.2.1 c z.2.2.1 z.2.2.2) (fun d z => ∃ i : Nat, z.2.1 = (i : Int) ∧ i + d = 8 ∧ z.2.2.1 = a + (i : Int)) (fun r => a ≤ r.2.1 ∧ r.2.1 ≤ a + 8)
    (by
      rintro d ⟨n, j, x, y⟩ ⟨i, hj, hd, hx⟩
      obtain rfl : j = (i : Int) := hj
      obtain rfl : x = a + (i : Int) := hx
      by_cases hi : i < 8
      · right
        obtain ⟨r1, s1, e1, _, _⟩ := next_ok c hc (a + (i : Int)) y (by omega) (by omega)
        refine ⟨d - 1, (Go.bits .or .i64 (wrap64 (n * 256)) r1, ((i + 1 : Nat) : Int), a + (i : Int) + 1, s1), by omega, ⟨i + 1, rfl, by omega, by simp only; omega⟩, fun r hr => Ev.back 1 0 (fun k _ => ?_) hr⟩
        have h2 : (i : Int) < 8 := by omega
        simp only [spec_l1Cur_wide.l0, h2, if_true, e1, Option.bind_some, wrap_succ i (by omega)]
      · left
        have h2 : ¬ (i : Int) < 8 := by omega
        exact ⟨(n, a + (i : Int), y), by simp only; omega, Ev.at 1 0 (fun k _ => by simp only [spec_l1Cur_wide.l0, h2, if_false])⟩) 8 (0, 0, a, s) ⟨0, rfl, by omega, by simp⟩
  exact ⟨r, a', s', h, hp.1, hp.2⟩
theorem sized_ok (c : List Int) (hc : Bytes c) (a s : Int) (h0 : 0 ≤ a) (h1 : a < 4611686018427380000) : ∃ r a' s', Ev (fun k => spec_l1Cur_sized.f k c a s) (r, a', s') ∧ a ≤ a' ∧ a' ≤ a + 30 := by
  obtain ⟨r1, a1, s1, e1, _, _, b1, b1'⟩ := pick_ok c hc a s 5 h0 (by omega) (by omega)
  obtain ⟨r2, a2, s2, e2, _, _, b2, b2'⟩ := pick_ok c hc a1 s1 8 (by omega) (by omega) (by omega)
  have fin : ∀ (n a3 s3 : Int), 0 ≤ a3 → a3 ≤ a + 20 → a ≤ a3 → ∃ r a' s', (spec_l1Cur_one.f c a3 s3 3).bind (fun bt => if bt.1 = true then some (wrap64 (-n), bt.2.1, bt.2.2) else some (n, bt.2.1, bt.2.2)) = some (r, a', s') ∧ a ≤ a' ∧ a' ≤ a + 30 := by
    intro n a3 s3 h2 h3 h4
    obtain ⟨b, a4, s4, e4, b4, b4'⟩ := one_ok c hc a3 s3 3 h2 (by omega) (by omega)
    rw [e4]
    cases b
    · exact ⟨n, a4, s4, rfl, by omega, by omega⟩
    · exact ⟨wrap64 (-n), a4, s4, rfl, by omega, by omega⟩
  obtain ⟨rw, aw, sw, ⟨Kw, ew⟩, bw, bw'⟩ := wide_ok c hc a2 s2 (by omega) (by omega)
  obtain ⟨r3, a3, s3, e3, _, _, b3, b3'⟩ := pick_ok c hc a2 s2 300 (by omega) (by omega) (by omega)
  obtain ⟨r4, a4, s4, e4, _, _, b4, b4'⟩ := pick_ok c hc aw sw 64 (by omega) (by omega) (by omega)
  obtain ⟨r5, a5, s5, e5, _, _, b5, b5'⟩ := pick_ok c hc a2 s2 64 (by omega) (by omega) (by omega)
  have hu4 := (u64_rng r4).1
  have hu5 := (u64_rng r5).1
  by_cases c0 : r2 = 0
  · obtain ⟨r, a', s', e, f1, f2⟩ := fin r3 a3 s3 (by omega) (by omega) (by omega)
    refine ⟨r, a', s', ⟨0, fun k _ => ?_⟩, f1, f2⟩
    simp only [spec_l1Cur_sized.f, e1, e2, Option.bind_some, c0, if_true, e3]
    exact e
  · by_cases c1 : r2 = 1
    · obtain ⟨r, a', s', e, f1, f2⟩ := fin (shr .i64 rw (IntKind.u64.wrap r4)) a4 s4 (by omega) (by omega) (by omega)
      refine ⟨r, a', s', ⟨Kw, fun k hk => ?_⟩, f1, f2⟩
      have ew' := ew k hk
      simp only at ew'
      simp only [spec_l1Cur_sized.f, e1, e2, Option.bind_some, c0, if_false, c1, if_true, ew', e4, hu4]
      exact e
    · by_cases c2 : r2 = 2
      · obtain ⟨r, a', s', e, f1, f2⟩ := fin (shl .i64 1 (IntKind.u64.wrap r5)) a5 s5 (by omega) (by omega) (by omega)
        refine ⟨r, a', s', ⟨0, fun k _ => ?_⟩, f1, f2⟩
        simp only [spec_l1Cur_sized.f, e1, e2, Option.bind_some, c0, if_false, c1, c2, if_true, e5, hu5]
        exact e
      · by_cases c3 : r2 = 3
        · obtain ⟨r, a', s', e, f1, f2⟩ := fin (wrap64 (shl .i64 1 (IntKind.u64.wrap r5) - 1)) a5 s5 (by omega) (by omega) (by omega)
          refine ⟨r, a', s', ⟨0, fun k _ => ?_⟩, f1, f2⟩
          simp only [spec_l1Cur_sized.f, e1, e2, Option.bind_some, c0, if_false, c1, c2, c3, if_true, e5, hu5]
          exact e
        · obtain ⟨r, a', s', e, f1, f2⟩ := fin r1 a2 s2 (by omega) (by omega) (by omega)
          refine ⟨r, a', s', ⟨0, fun k _ => ?_⟩, f1, f2⟩
          simp only [spec_l1Cur_sized.f, e1, e2, Option.bind_some, c0, if_false, c1, c2, c3]
          exact e
theorem words_ok (c : List Int) (hc : Bytes c) (a s n : Int) (h0 : 0 ≤ a) (h1 : a < 4611686018427000000) (hn : 0 ≤ n ∧ n ≤ 10000) : ∃ l a' s', Ev (fun k => spec_l1Cur_words.f k c a s n) (l, a', s') ∧ (l.length : Int) ≤ n ∧ a ≤ a' ∧ a' ≤ a + 2 + 2 * n := by
  have hw : wrap64 (n + 1) = n + 1 := wrap_in (by omega) (by omega)
  obtain ⟨m, a1, s1, e1, hm0, hm, b1, b1'⟩ := pick_ok c hc a s (n + 1) h0 (by omega) (by omega)
  obtain ⟨⟨l, a', s'⟩, hp, h⟩ := one_while (fun k (z : List Int × Int × Int × Int) => spec_l1Cur_words.l0 k z.1 z.2.1 c z.2.2.1 z.2.2.2) (fun d z => z.2.1 = (d : Int) ∧ (z.1.length : Int) + d = m ∧ a1 ≤ z.2.2.1 ∧ z.2.2.1 ≤ a1 + 2 * (m - d)) (fun r => (r.1.length : Int) = m ∧ a1 ≤ r.2.1 ∧ r.2.1 ≤ a1 + 2 * m)
    (by
      rintro d ⟨l, j, x, y⟩ ⟨hj, hl, hx, hx'⟩
      simp only at hj hl hx hx'
      by_cases hd : 0 < d
      · right
        obtain ⟨r2, a2, s2, e2, _, _, b2, b2'⟩ := pick_ok c hc x y 100 (by omega) (by omega) (by omega)
        refine ⟨d - 1, (l ++ [r2], ((d - 1 : Nat) : Int), a2, s2), by omega, ⟨rfl, by simp only [List.length_append, List.length_singleton]; omega, by simp only; omega, by simp only; omega⟩, fun r hr => Ev.back 1 0 (fun k _ => ?_) hr⟩
        have h2 : j > 0 := by omega
        have h3 : l.length < 17592186044416 := by omega
        have h4 : wrap64 (j - 1) = ((d - 1 : Nat) : Int) := (wrap_in (by omega) (by omega)).trans (by omega)
        simp only [spec_l1Cur_words.l0, h2, if_true, e2, Option.bind_some, h3, h4]
      · left
        have h2 : ¬ j > 0 := by omega
        exact ⟨(l, x, y), ⟨by simp only; omega, by simp only; omega, by simp only; omega⟩, Ev.at 1 0 (fun k _ => by simp only [spec_l1Cur_words.l0, h2, if_false])⟩) m.toNat ([], m, a1, s1) ⟨by simp only; omega, by simp; omega, by simp only; omega, by simp only; omega⟩
  refine ⟨l, a', s', Ev.congr (fun k => ?_) h, by simp only at hp; omega, by simp only at hp; omega, by simp only at hp; omega⟩
  simp only [spec_l1Cur_words.f, hw, e1, Option.bind_some]
theorem same_ev (l : List Int) (h : l.length ≤ 1048576) : Ev (fun k => spec_SameInts.f k l l) true := by
  have := eq_loop (fun k i => spec_SameInts.l0 k l l (l.length : Int) i) l.length true (fun k => by simp [spec_SameInts.l0]) (fun i hi => ⟨0, fun k _ => by
    have h1 : (i : Int) < (l.length : Int) := by omega
    have h2 : (0 : Int) ≤ (i : Int) := by omega
    simp only [spec_SameInts.l0, h1, h2, if_true, wrap_succ i (by omega)]⟩)
  exact Ev.congr (fun k => by simp only [spec_SameInts.f, if_true]) this
theorem draw_ok (c : List Int) (hc : Bytes c) : ∃ q depth w, Ev (fun k => spec_DrawKeepLast.f k c) (q, depth, w) ∧ (q.length : Int) ≤ 5 := by
  obtain ⟨q, a1, s1, ⟨K1, e1⟩, hl, b1, b1'⟩ := words_ok c hc 0 0 5 (by omega) (by omega) (by omega)
  obtain ⟨d, a2, s2, e2, _, _, b2, b2'⟩ := pick_ok c hc a1 s1 12 (by omega) (by omega) (by omega)
  obtain ⟨w, a3, s3, ⟨K3, e3⟩, b3, b3'⟩ := sized_ok c hc a2 s2 (by omega) (by omega)
  refine ⟨q, d, w, ⟨K1 + K3, fun k hk => ?_⟩, hl⟩
  have e1' := e1 k (by omega)
  have e3' := e3 k (by omega)
  simp only at e1' e3'
  simp only [spec_DrawKeepLast.f, e1', e2, e3', Option.bind_some]
theorem FnKept : laws_FnKept.Pure := by
  intro c hc0 hc1 hc2
  by_cases hn : (c.length : Int) > 1048576
  · exact ⟨0, by simp only [laws_FnKept.f, hn, if_true]⟩
  have hc : Bytes c := fun x hx => by
    have := hc2 x hx
    simp only [Lit.wf, IntKind.min, IntKind.max, IntKind.signed, IntKind.bits, Bool.and_eq_true, decide_eq_true_eq, Bool.false_eq_true, if_false] at this
    omega
  obtain ⟨q, d, w, ⟨K1, e1⟩, hq⟩ := draw_ok c hc
  obtain ⟨K2, e2⟩ := impl_keep q d w (by omega)
  obtain ⟨K3, e3⟩ := spec_keep q d w (by omega)
  have h1 : wrap64 ((q.length : Int) + 1) = (q.length : Int) + 1 := wrap_in (by omega) (by omega)
  by_cases h : 1 ≤ d ∧ d ≤ 10 ∧ (q.length : Int) ≤ d
  · by_cases hd : (q.length : Int) + 1 > d
    · have hL : keepRes q d w = ((q ++ [w]).drop 1, true) := by
        unfold keepRes
        rw [if_pos h, if_pos hd]
      obtain ⟨K4, e4⟩ := same_ev (q.drop 1) (by rw [List.length_drop]; omega)
      have hm : mn ((q.length : Int) + 1) d = (q.length : Int) := by unfold mn; split <;> omega
      have h2 : wrap64 ((q.length : Int) - 1) = ((q.length - 1 : Nat) : Int) := (wrap_in (by omega) (by omega)).trans (by omega)
      have h3 : wrap64 ((q.length : Int) - (q.length : Int)) = 0 := (wrap_in (by omega) (by omega)).trans (by omega)
      have h4 : wrap64 ((0 : Int) + 1) = 1 := wrap_in (by omega) (by omega)
      obtain ⟨x, xs, rfl⟩ : ∃ x xs, q = x :: xs := by
        cases q with
        | nil => simp at hd; omega
        | cons x xs => exact ⟨x, xs, rfl⟩
      have hLl : ((x :: xs ++ [w]).drop 1) = xs ++ [w] := rfl
      rw [hLl] at hL
      have r1 : rd (xs ++ [w]) (((x :: xs).length - 1 : Nat) : Int) = w := by simp [rd]
      have t1 : (xs ++ [w]).take (((x :: xs).length - 1 : Nat) : Int).toNat = xs := by simp
      have t2 : (x :: xs).drop (1 : Int).toNat = xs := rfl
      have e4' : (x :: xs).drop 1 = xs := rfl
      rw [e4'] at e4
      refine ⟨K1 + K2 + K3 + K4, ?_⟩
      have e1' := e1 (K1 + K2 + K3 + K4) (by omega)
      have e2' := e2 (K1 + K2 + K3 + K4) (by omega)
      have e3' := e3 (K1 + K2 + K3 + K4) (by omega)
      have e5' := e4 (K1 + K2 + K3 + K4) (by omega)
      rw [hL] at e2' e3'
      simp only at e1' e2' e3' e5'
      have c1 : ((xs ++ [w]).length : Int) = ((x :: xs).length : Int) := by simp
      have c2 : (0 : Int) ≤ (((x :: xs).length - 1 : Nat) : Int) := by omega
      have c3 : (((x :: xs).length - 1 : Nat) : Int) < ((xs ++ [w]).length : Int) := by simp; omega
      have c4 : (((x :: xs).length - 1 : Nat) : Int) ≤ ((xs ++ [w]).length : Int) := by omega
      have c5 : (1 : Int) ≤ ((x :: xs).length : Int) := by simp; omega
      simp only [laws_FnKept.f, hn, if_false, e1', e2', e3', Option.bind_some, bne_self_eq_false, Bool.false_eq_true, if_true, h1, hm, h2, h3, h4, r1, t1, t2, e5', c1]
      rw [if_pos c2, if_pos (by rw [← c1]; exact c3), if_pos (by rw [← c1]; exact c4), if_pos (by omega), if_pos c5]
    · have hL : keepRes q d w = (q ++ [w], true) := by
        unfold keepRes
        rw [if_pos h, if_neg hd]
      obtain ⟨K4, e4⟩ := same_ev q (by omega)
      have hm : mn ((q.length : Int) + 1) d = (q.length : Int) + 1 := by unfold mn; split <;> omega
      have h2 : wrap64 ((q.length : Int) + 1 - 1) = (q.length : Int) := (wrap_in (by omega) (by omega)).trans (by omega)
      have h3 : wrap64 ((q.length : Int) - ((q.length : Int) + 1)) = -1 := (wrap_in (by omega) (by omega)).trans (by omega)
      have h4 : wrap64 ((-1 : Int) + 1) = 0 := wrap_in (by omega) (by omega)
      have r1 : rd (q ++ [w]) (q.length : Int) = w := by simp [rd]
      have t1 : (q ++ [w]).take (q.length : Int).toNat = q := by simp
      have t2 : q.drop (0 : Int).toNat = q := by simp
      refine ⟨K1 + K2 + K3 + K4, ?_⟩
      have e1' := e1 (K1 + K2 + K3 + K4) (by omega)
      have e2' := e2 (K1 + K2 + K3 + K4) (by omega)
      have e3' := e3 (K1 + K2 + K3 + K4) (by omega)
      have e5' := e4 (K1 + K2 + K3 + K4) (by omega)
      rw [hL] at e2' e3'
      simp only at e1' e2' e3' e5'
      have c1 : ((q ++ [w]).length : Int) = (q.length : Int) + 1 := by simp
      have c2 : (0 : Int) ≤ (q.length : Int) := by omega
      have c3 : (q.length : Int) < (q.length : Int) + 1 := by omega
      have c4 : (q.length : Int) ≤ (q.length : Int) + 1 := by omega
      simp only [laws_FnKept.f, hn, if_false, e1', e2', e3', Option.bind_some, bne_self_eq_false, Bool.false_eq_true, if_true, h1, hm, h2, h3, h4, r1, t1, t2, e5', c1, c2, c3, c4, Int.le_refl]
  · have hL : keepRes q d w = ([], false) := by
      unfold keepRes
      rw [if_neg h]
    refine ⟨K1 + K2 + K3, ?_⟩
    have e1' := e1 (K1 + K2 + K3) (by omega)
    have e2' := e2 (K1 + K2 + K3) (by omega)
    have e3' := e3 (K1 + K2 + K3) (by omega)
    rw [hL] at e2' e3'
    simp only at e1' e2' e3'
    simp only [laws_FnKept.f, hn, if_false, e1', e2', e3', Option.bind_some, bne_self_eq_false, Bool.false_eq_true]

end Go.Proofs.Ytmlejakajcmbdaa.Pure
