/- 'FnRanked': for every input: the drawn chores, run by rank, begin and end their slices without a tick in common, no tick is idle while there is a job, and none whose answer time is told takes longer. No condition. -/
import Derived.Test.YtdbcoojibbboiaaQFnRankedx10
import Derived.Test.YtdbcoojibbboiaaPlain
namespace Go.Proofs.Ytdbcoojibbboiaa.Pure
open Go.RowKit Go.Proofs.Ytdbcoojibbboiaa.PFnRanked Go.Proofs.Ytdbcoojibbboiaa.Plain Go.Proofs.YtdbcoojibbboiaaW.PrintWords Go.Proofs.YtdbcoojibbboiaaW.PrintLast
set_option linter.unusedVariables false
set_option linter.unusedSimpArgs false

theorem wraps_u64 (n : Int) (h₀ : 0 ≤ n) (h₁ : n < 2 ^ 64) : IntKind.u64.wrap n = n := by rw [IntKind.wrap_u64]; omega
theorem u64_rng (n : Int) : 0 ≤ IntKind.u64.wrap n ∧ IntKind.u64.wrap n < 18446744073709551616 := by rw [IntKind.wrap_u64]; omega
theorem u64_and255 (x : Int) (h₀ : 0 ≤ x) (h₁ : x < 2 ^ 64) : Go.bits .and .u64 x 255 = x % 256 := bits_mask .u64 64 (by decide) wraps_u64 8 (by decide) x h₀ h₁
/-- The bytes that the draws read. -/
def Bytes (c : List Int) : Prop := ∀ x ∈ c, 0 ≤ x ∧ x ≤ 255
theorem bytes_rd (c : List Int) (h : Bytes c) (i : Int) : 0 ≤ rd c i ∧ rd c i ≤ 255 := by
  unfold rd
  rw [List.getD_eq_getElem?_getD]
  by_cases hi : i.toNat < c.length
  · rw [List.getElem?_eq_getElem hi]
    exact h _ (List.getElem_mem _)
  · rw [List.getElem?_eq_none (by omega)]
    simp
theorem seed_byte (u : Int) : 0 ≤ wrap64 (Go.bits .and .u64 ((IntKind.u64.wrap u) / 1099511627776) 255) ∧ wrap64 (Go.bits .and .u64 ((IntKind.u64.wrap u) / 1099511627776) 255) ≤ 255 := by
  have h := u64_rng u
  have h1 : 0 ≤ (IntKind.u64.wrap u) / 1099511627776 := by omega
  have h2 : (IntKind.u64.wrap u) / 1099511627776 < 2 ^ 64 := by omega
  rw [u64_and255 _ h1 h2, wrap_in (by omega) (by omega)]
  omega
theorem next_ok (c : List Int) (hc : Bytes c) (a s : Int) (h0 : 0 ≤ a) (h1 : a < 4611686018427387904) : ∃ r s', spec_l1Cur_next.f c a s = some (r, a + 1, s') ∧ 0 ≤ r ∧ r ≤ 255 := by
  have hw : wrap64 (a + 1) = a + 1 := wrap_in (by omega) (by omega)
  have hb := bytes_rd c hc a
  have hwb : wrap64 (rd c a) = rd c a := wrap_in (by omega) (by omega)
  unfold spec_l1Cur_next.f
  simp only [hw, h0, if_true]
  split
  · split
    · exact ⟨_, _, rfl, by omega, by omega⟩
    · exact ⟨_, _, rfl, seed_byte _⟩
  · split
    · exact ⟨_, _, rfl, by omega, by omega⟩
    · exact ⟨_, _, rfl, seed_byte _⟩
theorem pick_ok (c : List Int) (hc : Bytes c) (a s n : Int) (h0 : 0 ≤ a) (h1 : a < 4611686018427387900) (hn : n < 9223372036854775808) :
    ∃ r a' s', spec_l1Cur_pick.f c a s n = some (r, a', s') ∧ 0 ≤ r ∧ (r < n ∨ r = 0) ∧ a ≤ a' ∧ a' ≤ a + 2 := by
  unfold spec_l1Cur_pick.f
  split
  · exact ⟨0, a, s, rfl, by omega, by omega, by omega, by omega⟩
  · obtain ⟨r1, s1, e1, h2, h3⟩ := next_ok c hc a s h0 (by omega)
    rw [e1]
    simp only [Option.bind_some]
    split
    · obtain ⟨r2, s2, e2, h4, h5⟩ := next_ok c hc (a + 1) s1 (by omega) (by omega)
      rw [e2]
      simp only [Option.bind_some]
      rw [if_neg (by omega)]
      have w1 : wrap64 (r1 * 256) = r1 * 256 := wrap_in (by omega) (by omega)
      have w2 : wrap64 (r1 * 256 + r2) = r1 * 256 + r2 := wrap_in (by omega) (by omega)
      rw [w1, w2]
      refine ⟨_, _, _, rfl, ?_, ?_, by omega, by omega⟩
      · rw [Int.tmod_eq_emod_of_nonneg (by omega)]
        exact Int.emod_nonneg _ (by omega)
      · rw [Int.tmod_eq_emod_of_nonneg (by omega)]
        exact .inl (Int.emod_lt_of_pos _ (by omega))
    · rw [if_neg (by omega)]
      refine ⟨_, _, _, rfl, ?_, ?_, by omega, by omega⟩
      · rw [Int.tmod_eq_emod_of_nonneg (by omega)]
        exact Int.emod_nonneg _ (by omega)
      · rw [Int.tmod_eq_emod_of_nonneg (by omega)]
        exact .inl (Int.emod_lt_of_pos _ (by omega))
theorem one_ok (c : List Int) (hc : Bytes c) (a s n : Int) (h0 : 0 ≤ a) (h1 : a < 4611686018427387900) (hn : n < 9223372036854775808) : ∃ b a' s', spec_l1Cur_one.f c a s n = some (b, a', s') ∧ a ≤ a' ∧ a' ≤ a + 2 := by
  obtain ⟨r, a', s', e, _, _, h2, h3⟩ := pick_ok c hc a s n h0 h1 hn
  unfold spec_l1Cur_one.f
  rw [e]
  exact ⟨_, _, _, rfl, h2, h3⟩
theorem wrap_lt (n : Int) : wrap64 n < 9223372036854775808 := by unfold wrap64; omega
theorem among_ok (c : List Int) (hc : Bytes c) (a s : Int) (l : List Int) (hl : 0 < l.length) (hl2 : l.length < 1000000) (h0 : 0 ≤ a) (h1 : a < 4611686018427387900) : ∃ r a' s', spec_l1Cur_among.f c a s l = some (r, a', s') ∧ r ∈ l ∧ a ≤ a' ∧ a' ≤ a + 2 := by
  obtain ⟨r, a', s', e, h2, h3, h4, h5⟩ := pick_ok c hc a s (l.length : Int) h0 h1 (by omega)
  have h6 : r < (l.length : Int) := by omega
  have h7 : rd l r ∈ l := by
    rw [show r = ((r.toNat : Nat) : Int) by omega, rd_get l r.toNat (by omega)]
    exact List.getElem_mem _
  refine ⟨rd l r, a', s', ?_, h7, h4, h5⟩
  simp only [spec_l1Cur_among.f, e, Option.bind_some, h2, h6, if_true]
/-! ### The draws end -/
theorem j4_ok (c : List Int) (hc : Bytes c) (X : List S62) (n a s P N V : Int) (h0 : 0 ≤ a) (h1 : a < 1000000) (hX : X.length ≤ 100) : ∃ y a' s', (∀ k, spec_l1Cur_chores.j4 (k + 1) X n c a s P N V = spec_l1Cur_chores.l0 k (X ++ [y]) (wrap64 (n - 1)) c a' s') ∧ a ≤ a' ∧ a' ≤ a + 6 := by
  obtain ⟨r1, a1, s1, e1, _, _, b1, b2⟩ := pick_ok c hc a s (wrap64 ((wrap64 (P - N)) + 1)) h0 (by omega) (wrap_lt _)
  obtain ⟨r2, a2, s2, e2, b3, b4⟩ := one_ok c hc a1 s1 3 (by omega) (by omega) (by omega)
  obtain ⟨r3, a3, s3, e3, b5, b6⟩ := one_ok c hc a2 s2 60 (by omega) (by omega) (by omega)
  have hx : X.length < 5864062014805 := by omega
  cases r2 with
  | true =>
    cases r3 with
    | true => exact ⟨⟨P, N, wrap64 (P + 1)⟩, a3, s3, fun k => by simp only [spec_l1Cur_chores.j4, e1, e2, e3, Option.bind_some, if_true, hx], by omega, by omega⟩
    | false => exact ⟨⟨P, N, P⟩, a3, s3, fun k => by simp only [spec_l1Cur_chores.j4, e1, e2, e3, Option.bind_some, if_true, Bool.false_eq_true, if_false, hx], by omega, by omega⟩
  | false =>
    cases r3 with
    | true => exact ⟨⟨P, N, wrap64 (P + 1)⟩, a3, s3, fun k => by simp only [spec_l1Cur_chores.j4, e1, e2, e3, Option.bind_some, if_true, Bool.false_eq_true, if_false, hx], by omega, by omega⟩
    | false => exact ⟨⟨P, N, wrap64 (N + r1)⟩, a3, s3, fun k => by simp only [spec_l1Cur_chores.j4, e1, e2, e3, Option.bind_some, Bool.false_eq_true, if_false, hx, if_true], by omega, by omega⟩
theorem j3_ok (c : List Int) (hc : Bytes c) (X : List S62) (n a s P N V : Int) (h0 : 0 ≤ a) (h1 : a < 1000000) (hX : X.length ≤ 100) : ∃ y a' s', (∀ k, spec_l1Cur_chores.j3 (k + 2) X n c a s P N V = spec_l1Cur_chores.l0 k (X ++ [y]) (wrap64 (n - 1)) c a' s') ∧ a ≤ a' ∧ a' ≤ a + 6 := by
  by_cases h : N > P
  · obtain ⟨y, a', s', e, b1, b2⟩ := j4_ok c hc X n a s P P V h0 h1 hX
    refine ⟨y, a', s', fun k => ?_, b1, b2⟩
    rw [spec_l1Cur_chores.j3, if_pos h]
    exact e k
  · obtain ⟨y, a', s', e, b1, b2⟩ := j4_ok c hc X n a s P N V h0 h1 hX
    refine ⟨y, a', s', fun k => ?_, b1, b2⟩
    rw [spec_l1Cur_chores.j3, if_neg h]
    exact e k
theorem j2_ok (c : List Int) (hc : Bytes c) (X : List S62) (n a s P N V : Int) (h0 : 0 ≤ a) (h1 : a < 900000) (hX : X.length ≤ 100) (hP : P < 9223372036854775808) : ∃ y a' s', (∀ k, spec_l1Cur_chores.j2 (k + 3) X n c a s P N V = spec_l1Cur_chores.l0 k (X ++ [y]) (wrap64 (n - 1)) c a' s') ∧ a ≤ a' ∧ a' ≤ a + 12 := by
  obtain ⟨r1, a1, s1, e1, _, _, b1, b2⟩ := pick_ok c hc a s P h0 (by omega) hP
  obtain ⟨r2, a2, s2, e2, b3, b4⟩ := one_ok c hc a1 s1 3 (by omega) (by omega) (by omega)
  obtain ⟨r3, a3, s3, e3, _, _, b5, b6⟩ := pick_ok c hc a2 s2 (wrap64 ((wrap64 (Int.tdiv P 3)) + 1)) (by omega) (by omega) (wrap_lt _)
  cases r2 with
  | true =>
    obtain ⟨y, a', s', e, b7, b8⟩ := j3_ok c hc X n a2 s2 P (wrap64 (1 + r1)) V (by omega) (by omega) hX
    exact ⟨y, a', s', fun k => by rw [spec_l1Cur_chores.j2]; simp only [e1, e2, Option.bind_some, if_true]; exact e k, by omega, by omega⟩
  | false =>
    obtain ⟨y, a', s', e, b7, b8⟩ := j3_ok c hc X n a3 s3 P (wrap64 (1 + r3)) V (by omega) (by omega) hX
    exact ⟨y, a', s', fun k => by rw [spec_l1Cur_chores.j2]; simp only [e1, e2, e3, Option.bind_some, Bool.false_eq_true, if_false]; exact e k, by omega, by omega⟩
theorem cl_ok (c : List Int) (hc : Bytes c) : ∀ (d : Nat) (X : List S62) (a s : Int), d ≤ 20 → X.length + d ≤ 50 → 0 ≤ a → a + 30 * d < 800000 →
    ∃ L a' s', Ev (fun k => spec_l1Cur_chores.l0 k X (d : Int) c a s) (L, a', s') ∧ L.length ≤ X.length + d ∧ a ≤ a' ∧ a' ≤ a + 30 * d := by
  intro d
  induction d with
  | zero =>
    intro X a s _ _ h0 h1
    refine ⟨X, a, s, Ev.at 1 0 (fun k _ => ?_), by omega, by omega, by omega⟩
    have e1 : ¬ (((0 : Nat) : Int) > 0) := by omega
    simp only [spec_l1Cur_chores.l0, e1, if_false]
  | succ d ih =>
    intro X a s hd hX h0 h1
    have e0 : ((d + 1 : Nat) : Int) > 0 := by omega
    have ew : wrap64 (((d + 1 : Nat) : Int) - 1) = (d : Int) := by rw [wrap_in (by omega) (by omega)]; omega
    obtain ⟨r1, a1, s1, e1, b0, b0', b1, b2⟩ := pick_ok c hc a s 12 h0 (by omega) (by omega)
    obtain ⟨r2, a2, s2, e2, b3, b4⟩ := one_ok c hc a1 s1 10 (by omega) (by omega) (by omega)
    cases r2 with
    | true =>
      obtain ⟨r3, a3, s3, e3, hm, b5, b6⟩ := among_ok c hc a2 s2 [60, 59, 53, 47, 43] (by simp) (by simp) (by omega) (by omega)
      have hr3 : r3 < 9223372036854775808 := by
        simp only [List.mem_cons, List.mem_nil_iff, or_false] at hm
        omega
      obtain ⟨y, a4, s4, e4, b7, b8⟩ := j2_ok c hc X ((d + 1 : Nat) : Int) a3 s3 r3 0 0 (by omega) (by omega) (by omega) hr3
      obtain ⟨L, a', s', he, hl, b9, b10⟩ := ih (X ++ [y]) a4 s4 (by omega) (by simp; omega) (by omega) (by omega)
      refine ⟨L, a', s', Ev.back 4 0 (fun k _ => ?_) he, by simp at hl; omega, by omega, by omega⟩
      rw [spec_l1Cur_chores.l0]
      simp only [e0, if_true, e1, e2, e3, Option.bind_some]
      rw [e4 k, ew]
    | false =>
      obtain ⟨y, a4, s4, e4, b7, b8⟩ := j2_ok c hc X ((d + 1 : Nat) : Int) a2 s2 (wrap64 (1 + r1)) 0 0 (by omega) (by omega) (by omega) (wrap_lt _)
      obtain ⟨L, a', s', he, hl, b9, b10⟩ := ih (X ++ [y]) a4 s4 (by omega) (by simp; omega) (by omega) (by omega)
      refine ⟨L, a', s', Ev.back 4 0 (fun k _ => ?_) he, by simp at hl; omega, by omega, by omega⟩
      rw [spec_l1Cur_chores.l0]
      simp only [e0, if_true, e1, e2, Option.bind_some, Bool.false_eq_true, if_false]
      rw [e4 k, ew]
theorem chores_ok (c : List Int) (hc : Bytes c) : ∃ L a' s', Ev (fun k => spec_l1Cur_chores.f k c 0 0) (L, a', s') ∧ L.length ≤ 10 ∧ 0 ≤ a' ∧ a' ≤ 1000 := by
  obtain ⟨r1, a1, s1, e1, b0, b0', b1, b2⟩ := pick_ok c hc 0 0 4 (by omega) (by omega) (by omega)
  obtain ⟨r2, a2, s2, e2, b3, b4⟩ := one_ok c hc a1 s1 12 (by omega) (by omega) (by omega)
  cases r2 with
  | true =>
    obtain ⟨r3, a3, s3, e3, hm, b5, b6⟩ := among_ok c hc a2 s2 [0, 6, 7] (by simp) (by simp) (by omega) (by omega)
    simp only [List.mem_cons, List.mem_nil_iff, or_false] at hm
    obtain ⟨L, a', s', he, hl, b7, b8⟩ := cl_ok c hc r3.toNat [] a3 s3 (by omega) (by simp; omega) (by omega) (by omega)
    rw [show ((r3.toNat : Nat) : Int) = r3 by omega] at he
    refine ⟨L, a', s', Ev.back 1 0 (fun k _ => ?_) he, by simp at hl; omega, by omega, by omega⟩
    simp only [spec_l1Cur_chores.f, e1, e2, e3, Option.bind_some, if_true, spec_l1Cur_chores.j0]
  | false =>
    obtain ⟨L, a', s', he, hl, b7, b8⟩ := cl_ok c hc (1 + r1).toNat [] a2 s2 (by omega) (by simp; omega) (by omega) (by omega)
    rw [show (((1 + r1).toNat : Nat) : Int) = 1 + r1 by omega] at he
    refine ⟨L, a', s', Ev.back 1 0 (fun k _ => ?_) he, by simp at hl; omega, by omega, by omega⟩
    simp only [spec_l1Cur_chores.f, e1, e2, Option.bind_some, Bool.false_eq_true, if_false, spec_l1Cur_chores.j0, wrap_in (n := 1 + r1) (by omega) (by omega)]
theorem dr_end (c : List Int) (hc : Bytes c) (L : List S62) (F : List Int) (a s : Int) (h0 : 0 ≤ a) (h1 : a < 900000) : ∃ n, ∀ k, spec_DrawRunRanked.j2 (k + 1) L F c a s = some (L, F, n) := by
  obtain ⟨r1, a1, s1, e1, b0, b0', b1, b2⟩ := pick_ok c hc a s 120 h0 (by omega) (by omega)
  obtain ⟨r2, a2, s2, e2, b3, b4⟩ := one_ok c hc a1 s1 12 (by omega) (by omega) (by omega)
  cases r2 with
  | true =>
    obtain ⟨r3, a3, s3, e3, hm, b5, b6⟩ := among_ok c hc a2 s2 [(-1), 2000, 2001] (by simp) (by simp) (by omega) (by omega)
    exact ⟨r3, fun k => by simp only [spec_DrawRunRanked.j2, e1, e2, e3, Option.bind_some, if_true]⟩
  | false => exact ⟨r1, fun k => by simp only [spec_DrawRunRanked.j2, e1, e2, Option.bind_some, Bool.false_eq_true, if_false]⟩
theorem dr_loop (c : List Int) (hc : Bytes c) (L : List S62) (none : Bool) (hL : L.length ≤ 10) : ∀ (d : Nat) (i : Nat) (F : List Int) (a s : Int), i + d = L.length → F.length ≤ i → 0 ≤ a → a + 10 * d < 800000 →
    ∃ F' n, Ev (fun k => spec_DrawRunRanked.l0 k L F none (L.length : Int) (i : Int) c a s) (L, F', n) ∧ F'.length ≤ 20 := by
  intro d
  induction d with
  | zero =>
    intro i F a s hi hF h0 h1
    have e0 : ¬ ((i : Int) < (L.length : Int)) := by omega
    obtain ⟨r1, a1, s1, e1, b1, b2⟩ := one_ok c hc a s 30 h0 (by omega) (by omega)
    cases r1 with
    | true =>
      obtain ⟨n, hn⟩ := dr_end c hc L (F ++ [0]) a1 s1 (by omega) (by omega)
      have e2 : F.length < 17592186044416 := by omega
      refine ⟨F ++ [0], n, Ev.at 2 0 (fun k _ => ?_), by simp; omega⟩
      rw [spec_DrawRunRanked.l0]
      simp only [e0, if_false, e1, Option.bind_some, if_true, e2, hn]
    | false =>
      obtain ⟨n, hn⟩ := dr_end c hc L F a1 s1 (by omega) (by omega)
      refine ⟨F, n, Ev.at 2 0 (fun k _ => ?_), by omega⟩
      rw [spec_DrawRunRanked.l0]
      simp only [e0, if_false, e1, Option.bind_some, Bool.false_eq_true, hn]
  | succ d ih =>
    intro i F a s hi hF h0 h1
    have e0 : (i : Int) < (L.length : Int) := by omega
    have e9 : F.length < 17592186044416 := by omega
    have hj : ∀ (v a s : Int), 0 ≤ a → a + 6 + 10 * d < 800000 → ∃ F' n, Ev (fun k => spec_DrawRunRanked.j1 k L F none v (L.length : Int) (i : Int) c a s) (L, F', n) ∧ F'.length ≤ 20 := by
      intro v a s h0 h1
      obtain ⟨r1, a1, s1, e1, b1, b2⟩ := one_ok c hc a s 60 h0 (by omega) (by omega)
      cases r1 with
      | true =>
        obtain ⟨r3, a3, s3, e3, hm, b5, b6⟩ := among_ok c hc a1 s1 [(-1), 60, 61] (by simp) (by simp) (by omega) (by omega)
        obtain ⟨F', n, he, hl⟩ := ih (i + 1) (F ++ [r3]) a3 s3 (by omega) (by simp; omega) (by omega) (by omega)
        refine ⟨F', n, Ev.back 1 0 (fun k _ => ?_) he, hl⟩
        simp only [spec_DrawRunRanked.j1, e1, e3, Option.bind_some, if_true, e9, wrap_succ i (by omega)]
      | false =>
        obtain ⟨F', n, he, hl⟩ := ih (i + 1) (F ++ [v]) a1 s1 (by omega) (by simp; omega) (by omega) (by omega)
        refine ⟨F', n, Ev.back 1 0 (fun k _ => ?_) he, hl⟩
        simp only [spec_DrawRunRanked.j1, e1, Option.bind_some, Bool.false_eq_true, if_false, e9, if_true, wrap_succ i (by omega)]
    cases none with
    | true =>
      obtain ⟨F', n, he, hl⟩ := hj 0 a s h0 (by omega)
      refine ⟨F', n, Ev.back 1 0 (fun k _ => ?_) he, hl⟩
      simp only [spec_DrawRunRanked.l0, e0, if_true]
    | false =>
      obtain ⟨r1, a1, s1, e1, b0, b0', b1, b2⟩ := pick_ok c hc a s 12 h0 (by omega) (by omega)
      obtain ⟨F', n, he, hl⟩ := hj r1 a1 s1 (by omega) (by omega)
      refine ⟨F', n, Ev.back 1 0 (fun k _ => ?_) he, hl⟩
      simp only [spec_DrawRunRanked.l0, e0, if_true, Bool.false_eq_true, if_false, e1, Option.bind_some]
theorem draw_ok (c : List Int) (hc : Bytes c) : ∃ L F n, Ev (fun k => spec_DrawRunRanked.f k c) (L, F, n) ∧ L.length ≤ 10 ∧ F.length ≤ 20 := by
  obtain ⟨L, a1, s1, ⟨K1, h1⟩, hl, b1, b2⟩ := chores_ok c hc
  obtain ⟨r2, a2, s2, e2, b3, b4⟩ := one_ok c hc a1 s1 3 (by omega) (by omega) (by omega)
  obtain ⟨F, n, ⟨K2, h2⟩, hF⟩ := dr_loop c hc L r2 hl L.length 0 [] a2 s2 (by omega) (by simp) (by omega) (by omega)
  refine ⟨L, F, n, ⟨K1 + K2, fun k hk => ?_⟩, hl, hF⟩
  have h1' := h1 k (by omega)
  have h2' := h2 k (by omega)
  simp only at h1' h2'
  simp only [spec_DrawRunRanked.f, h1', Option.bind_some, e2]
  exact h2'
theorem between_eq (a lo hi : Int) : impl_between.f a lo hi = some (decide (lo ≤ a ∧ a ≤ hi)) := by
  unfold impl_between.f
  split <;> simp <;> omega
def okChore (x : S62) : Bool := decide (1 ≤ x.f0 ∧ x.f0 ≤ 60 ∧ 1 ≤ x.f1 ∧ x.f1 ≤ x.f0 ∧ x.f1 ≤ x.f2 ∧ x.f2 ≤ x.f0)
def goodChores (l : List S62) : Bool := decide (1 ≤ l.length ∧ l.length ≤ 6) && (List.range l.length).all (fun i => okChore (rd_T62 l i))
theorem spec_chores (l : List S62) (hb : l.length ≤ 1099511627776) : Ev (fun k => spec_GoodChores.f k l) (goodChores l) := by
  have hl := all_loop (fun k i => spec_GoodChores.l0 k l (l.length : Int) i) l.length (fun i => okChore (rd_T62 l i)) true false
    (Ev.next ⟨0, fun k _ => by simp [spec_GoodChores.l0]⟩)
    (fun i hi hp => ⟨0, fun k _ => by
      have h1 : (i : Int) < (l.length : Int) := by omega
      have h2 : (0 : Int) ≤ (i : Int) := by omega
      simp only [okChore, decide_eq_true_eq] at hp
      simp only [spec_GoodChores.l0, h1, h2, if_true, wrap_succ i (by omega)]
      rw [if_neg (by omega), if_neg (by omega), if_neg (by omega), if_neg (by omega), if_neg (by omega), if_neg (by omega)]⟩)
    (fun i hi hp => ⟨0, fun k _ => by
      have h1 : (i : Int) < (l.length : Int) := by omega
      have h2 : (0 : Int) ≤ (i : Int) := by omega
      simp only [okChore, decide_eq_false_iff_not] at hp
      simp only [spec_GoodChores.l0, h1, h2, if_true]
      repeat' split
      all_goals first | rfl | (exfalso; omega)⟩)
  obtain ⟨K, hK⟩ := hl
  refine ⟨K + 1, fun k hk => ?_⟩
  obtain ⟨m, rfl⟩ : ∃ m, k = m + 1 := ⟨k - 1, by omega⟩
  have hk' := hK m (by omega)
  simp only [spec_GoodChores.f, spec_GoodChores.j0, hk', goodChores]
  generalize (List.range l.length).all (fun (i : Nat) => okChore (rd_T62 l (i : Int))) = q
  by_cases h1 : 1 ≤ l.length
  · by_cases h6 : l.length ≤ 6
    · have e1 : ¬ ((l.length : Int) < 1) := by omega
      have e2 : ¬ ((l.length : Int) > 6) := by omega
      cases q <;> simp [e1, e2, h1, h6]
    · have e1 : ¬ ((l.length : Int) < 1) := by omega
      have e2 : ((l.length : Int) > 6) := by omega
      cases q <;> simp [e1, e2, h1, h6]
  · have e1 : ((l.length : Int) < 1) := by omega
    simp [e1, h1]
theorem impl_chores (l : List S62) (hb : l.length ≤ 1099511627776) : Ev (fun k => impl_GoodChores.f k l) (goodChores l) := by
  have hl := all_loop (fun k i => impl_GoodChores.l0 k l l (l.length : Int) i) l.length (fun i => okChore (rd_T62 l i)) (decide (1 ≤ l.length ∧ l.length ≤ 6)) false
    (Ev.next ⟨0, fun k _ => by
      have h1 : ¬ (l.length : Int) < (l.length : Int) := by omega
      simp only [impl_GoodChores.l0, h1, if_false, between_eq, Option.bind_some, Option.some.injEq]
      apply decide_eq_decide.2
      omega⟩)
    (fun i hi hp => ⟨0, fun k _ => by
      have h1 : (i : Int) < (l.length : Int) := by omega
      have h2 : (0 : Int) ≤ (i : Int) := by omega
      simp only [okChore, decide_eq_true_eq] at hp
      simp only [impl_GoodChores.l0, h1, h2, if_true, wrap_succ i (by omega), between_eq, Option.bind_some, decide_eq_true_eq]
      rw [if_pos (by omega), if_pos (by omega), if_pos (by omega)]⟩)
    (fun i hi hp => ⟨0, fun k _ => by
      have h1 : (i : Int) < (l.length : Int) := by omega
      have h2 : (0 : Int) ≤ (i : Int) := by omega
      simp only [okChore, decide_eq_false_iff_not] at hp
      simp only [impl_GoodChores.l0, h1, h2, if_true, between_eq, Option.bind_some, decide_eq_true_eq]
      repeat' split
      all_goals first | rfl | (exfalso; omega)⟩)
  refine Ev.congr (f := fun k => impl_GoodChores.l0 k l l (l.length : Int) 0) (fun k => rfl) ?_
  have e : (if (List.range l.length).all (fun i => okChore (rd_T62 l i)) = true then decide (1 ≤ l.length ∧ l.length ≤ 6) else false) = goodChores l := by
    unfold goodChores
    cases (List.range l.length).all (fun i => okChore (rd_T62 l i)) <;> simp
  rw [← e]
  exact hl
/-! ### The run, tick by tick, over numbers and lists alone -/
structure RS where
  d : List Int
  s : List Int
  w : List Int
  o : List S59
def cm (l : List S62) (F d : List Int) (i : Nat) : Int := rd F (i : Int) + rd d (i : Int) * (rd_T62 l (i : Int)).f0
def pk (u : Bool) (l : List S62) (F d : List Int) (t : Int) : Nat → Int × Int
  | 0 => (-1, 0)
  | m + 1 => if cm l F d m > t then pk u l F d t m else if 0 ≤ (pk u l F d t m).1 ∧ (u = false ∨ (pk u l F d t m).2 ≤ cm l F d m + (rd_T62 l (m : Int)).f2) then pk u l F d t m else ((m : Int), cm l F d m + (rd_T62 l (m : Int)).f2)
def put (o : List S59) (t w : Int) : List S59 := if 0 < o.length ∧ (rd_T59 o ((o.length - 1 : Nat) : Int)).f2 = w ∧ (rd_T59 o ((o.length - 1 : Nat) : Int)).f1 = t then o.set (o.length - 1) ⟨(rd_T59 o ((o.length - 1 : Nat) : Int)).f0, t + 1, w⟩ else o ++ [⟨t, t + 1, w⟩]
def fin (l : List S62) (F : List Int) (t : Int) (S : RS) (j : Nat) : RS :=
  if rd S.s (j : Int) + 1 < (rd_T62 l (j : Int)).f1 then ⟨S.d, S.s.set j (rd S.s (j : Int) + 1), S.w, put S.o t (j : Int)⟩
  else ⟨S.d.set j (rd S.d (j : Int) + 1), S.s.set j 0, S.w.set j (mx (rd S.w (j : Int)) (t + 1 - cm l F S.d j)), put S.o t (j : Int)⟩
def stp (u : Bool) (l : List S62) (F : List Int) (t : Int) (S : RS) : RS := if (pk u l F S.d t l.length).1 < 0 then S else fin l F t S (pk u l F S.d t l.length).1.toNat
def run (u : Bool) (l : List S62) (F : List Int) : Nat → RS
  | 0 => ⟨List.replicate l.length 0, List.replicate l.length 0, List.replicate l.length 0, []⟩
  | t + 1 => stp u l F (t : Int) (run u l F t)
theorem rd_set (xs : List Int) (i j : Nat) (v : Int) (h : i < xs.length) : rd (xs.set i v) (j : Int) = if i = j then v else rd xs (j : Int) := by
  unfold rd
  rw [toNat_i, List.getD_eq_getElem?_getD, List.getD_eq_getElem?_getD, List.getElem?_set]
  by_cases e : i = j
  · subst e
    simp [h]
  · simp [e]
theorem rdL_set (xs : List (List S55)) (i j : Nat) (v : List S55) (h : i < xs.length) : rd_L3 (xs.set i v) (j : Int) = if i = j then v else rd_L3 xs (j : Int) := by
  unfold rd_L3
  rw [toNat_i, List.getD_eq_getElem?_getD, List.getD_eq_getElem?_getD, List.getElem?_set]
  by_cases e : i = j
  · subst e
    simp [h]
  · simp [e]
theorem rd_rep (n i : Nat) (h : i < n) : rd (List.replicate n 0) (i : Int) = 0 := by
  unfold rd
  simp [toNat_i, h]
theorem rdL_rep (n i : Nat) (h : i < n) : rd_L3 (List.replicate n []) (i : Int) = [] := by
  unfold rd_L3
  simp [toNat_i, h]
structure Okr (l : List S62) (F : List Int) : Prop where
  n6 : l.length ≤ 6
  lf : F.length = l.length
  ch : ∀ i : Nat, i < l.length → 1 ≤ (rd_T62 l (i : Int)).f0 ∧ (rd_T62 l (i : Int)).f0 ≤ 60 ∧ 1 ≤ (rd_T62 l (i : Int)).f1 ∧ (rd_T62 l (i : Int)).f1 ≤ (rd_T62 l (i : Int)).f0 ∧ (rd_T62 l (i : Int)).f1 ≤ (rd_T62 l (i : Int)).f2 ∧ (rd_T62 l (i : Int)).f2 ≤ (rd_T62 l (i : Int)).f0
  fr : ∀ i : Nat, i < l.length → 0 ≤ rd F (i : Int) ∧ rd F (i : Int) ≤ 60
structure Inv (l : List S62) (F : List Int) (t : Int) (S : RS) : Prop where
  ld : S.d.length = l.length
  ls : S.s.length = l.length
  lw : S.w.length = l.length
  lo : (S.o.length : Int) ≤ t
  dn : ∀ i : Nat, i < l.length → 0 ≤ rd S.d (i : Int) ∧ rd S.d (i : Int) ≤ t ∧ (rd S.d (i : Int) = 0 ∨ cm l F S.d i - (rd_T62 l (i : Int)).f0 < t)
  sp : ∀ i : Nat, i < l.length → 0 ≤ rd S.s (i : Int) ∧ rd S.s (i : Int) < (rd_T62 l (i : Int)).f1 ∧ (rd S.s (i : Int) = 0 ∨ cm l F S.d i < t)
theorem cm_set (l : List S62) (F d : List Int) (i j : Nat) (h : i < d.length) : cm l F (d.set i (rd d (i : Int) + 1)) j = if i = j then cm l F d j + (rd_T62 l (j : Int)).f0 else cm l F d j := by
  unfold cm
  rw [rd_set _ _ _ _ h]
  by_cases e : i = j
  · subst e
    simp only [if_true]
    rw [Int.add_mul, Int.one_mul]
    omega
  · simp only [if_neg e]
theorem put_length (o : List S59) (t w : Int) : (put o t w).length ≤ o.length + 1 ∧ 0 < (put o t w).length := by
  unfold put
  split
  · rename_i h
    rw [List.length_set]
    omega
  · simp
theorem pk_at (u : Bool) (l : List S62) (F d : List Int) (t : Int) : ∀ m, ((pk u l F d t m).1 = -1 ∧ ∀ i, i < m → t < cm l F d i) ∨
    ∃ j, j < m ∧ pk u l F d t m = ((j : Int), cm l F d j + (rd_T62 l (j : Int)).f2) ∧ cm l F d j ≤ t ∧ (u = false → ∀ i, i < j → t < cm l F d i) := by
  intro m
  induction m with
  | zero => exact .inl ⟨rfl, fun i hi => absurd hi (Nat.not_lt_zero _)⟩
  | succ m ih =>
    rcases ih with ⟨h1, h2⟩ | ⟨j, hj, he, hc, hf⟩
    · by_cases c : cm l F d m > t
      · refine .inl ⟨by simp only [pk, c, if_true, h1], fun i hi => ?_⟩
        by_cases e : i = m
        · subst e
          omega
        · exact h2 i (by omega)
      · refine .inr ⟨m, by omega, ?_, by omega, fun _ => h2⟩
        have c1 : ¬ (0 ≤ (pk u l F d t m).1 ∧ (u = false ∨ (pk u l F d t m).2 ≤ cm l F d m + (rd_T62 l (m : Int)).f2)) := by omega
        simp only [pk, c, if_false, c1]
    · by_cases c : cm l F d m > t
      · exact .inr ⟨j, by omega, by simp only [pk, c, if_true, he], hc, hf⟩
      · by_cases c1 : 0 ≤ (pk u l F d t m).1 ∧ (u = false ∨ (pk u l F d t m).2 ≤ cm l F d m + (rd_T62 l (m : Int)).f2)
        · refine .inr ⟨j, by omega, ?_, hc, hf⟩
          simp only [pk, c, if_false]
          rw [if_pos c1, he]
        · refine .inr ⟨m, by omega, ?_, by omega, fun hu => ?_⟩
          · simp only [pk, c, if_false]
            rw [if_neg c1]
          · exact absurd ⟨by rw [he]; exact Int.natCast_nonneg j, .inl hu⟩ c1
theorem cm_range {l : List S62} {F : List Int} {t : Int} {S : RS} (hO : Okr l F) (hI : Inv l F t S) (ht : 0 ≤ t) (i : Nat) (hi : i < l.length) : 0 ≤ rd S.d (i : Int) * (rd_T62 l (i : Int)).f0 ∧ rd S.d (i : Int) * (rd_T62 l (i : Int)).f0 ≤ t + 60 ∧ 0 ≤ cm l F S.d i ∧ cm l F S.d i ≤ t + 60 := by
  obtain ⟨p1, p2, _⟩ := hO.ch i hi
  obtain ⟨f1, f2⟩ := hO.fr i hi
  obtain ⟨d1, d2, d3⟩ := hI.dn i hi
  have h0 : 0 ≤ rd S.d (i : Int) * (rd_T62 l (i : Int)).f0 := Int.mul_nonneg d1 (by omega)
  unfold cm at d3 ⊢
  rcases d3 with d3 | d3
  · rw [d3, Int.zero_mul]
    omega
  · omega
theorem Inv_fin {l : List S62} {F : List Int} {t : Int} {S : RS} (hO : Okr l F) (hI : Inv l F t S) (ht : 0 ≤ t) (j : Nat) (hj : j < l.length) (hc : cm l F S.d j ≤ t) : Inv l F (t + 1) (fin l F t S j) := by
  have hl := put_length S.o t (j : Int)
  have hlo := hI.lo
  have hd := hI.ld
  have hs := hI.ls
  unfold fin
  split
  · rename_i hn
    refine ⟨hI.ld, by rw [List.length_set]; exact hI.ls, hI.lw, by simp only; omega, fun i hi => ?_, fun i hi => ?_⟩
    · obtain ⟨d1, d2, d3⟩ := hI.dn i hi
      dsimp only
      exact ⟨d1, by omega, by omega⟩
    · obtain ⟨s1, s2, s3⟩ := hI.sp i hi
      simp only
      rw [rd_set _ _ _ _ (by omega)]
      by_cases e : j = i
      · subst e
        simp only [if_true]
        exact ⟨by omega, by omega, by first | omega | simp⟩
      · simp only [if_neg e]
        exact ⟨by omega, by omega, by first | omega | simp⟩
  · rename_i hn
    refine ⟨by rw [List.length_set]; exact hI.ld, by rw [List.length_set]; exact hI.ls, by rw [List.length_set]; exact hI.lw, by simp only; omega, fun i hi => ?_, fun i hi => ?_⟩
    · obtain ⟨d1, d2, d3⟩ := hI.dn i hi
      simp only
      rw [cm_set _ _ _ _ _ (by omega), rd_set _ _ _ _ (by omega)]
      by_cases e : j = i
      · subst e
        simp only [if_true]
        exact ⟨by omega, by omega, by first | omega | simp⟩
      · simp only [if_neg e]
        exact ⟨by omega, by omega, by first | omega | simp⟩
    · obtain ⟨s1, s2, s3⟩ := hI.sp i hi
      have hp := hO.ch i hi
      simp only
      rw [cm_set _ _ _ _ _ (by omega), rd_set _ _ _ _ (by omega)]
      by_cases e : j = i
      · subst e
        simp only [if_true]
        exact ⟨by omega, by omega, by first | omega | simp⟩
      · simp only [if_neg e]
        exact ⟨by omega, by omega, by first | omega | simp⟩
theorem Inv_stp {u : Bool} {l : List S62} {F : List Int} {t : Int} {S : RS} (hO : Okr l F) (hI : Inv l F t S) (ht : 0 ≤ t) : Inv l F (t + 1) (stp u l F t S) := by
  unfold stp
  rcases pk_at u l F S.d t l.length with ⟨h1, h2⟩ | ⟨j, hj, he, hc, hf⟩
  · rw [if_pos (by omega)]
    have hlo := hI.lo
    exact ⟨hI.ld, hI.ls, hI.lw, by omega, fun i hi => by have := hI.dn i hi; omega, fun i hi => by have := hI.sp i hi; omega⟩
  · rw [he, if_neg (by simp only; omega)]
    simp only [toNat_i]
    exact Inv_fin hO hI ht j hj hc
theorem Inv_run {u : Bool} {l : List S62} {F : List Int} (hO : Okr l F) : ∀ t : Nat, Inv l F (t : Int) (run u l F t) := by
  intro t
  induction t with
  | zero =>
    refine ⟨by simp [run], by simp [run], by simp [run], by simp [run], fun i hi => ?_, fun i hi => ?_⟩
    · simp only [run]
      rw [rd_rep _ _ hi]
      exact ⟨by omega, by omega, .inl rfl⟩
    · have hp := hO.ch i hi
      simp only [run]
      rw [rd_rep _ _ hi]
      exact ⟨by omega, by omega, .inl rfl⟩
  | succ t ih =>
    have := Inv_stp (u := u) hO ih (by omega)
    rw [show ((t + 1 : Nat) : Int) = (t : Int) + 1 by omega]
    exact this
/-! ### The reference's run -/
theorem cm_wrap {l : List S62} {F : List Int} {t : Int} {S : RS} (hO : Okr l F) (hI : Inv l F t S) (ht : 0 ≤ t) (hT : t ≤ 2000) (i : Nat) (hi : i < l.length) : wrap64 (rd F (i : Int) + wrap64 (rd S.d (i : Int) * (rd_T62 l (i : Int)).f0)) = cm l F S.d i := by
  obtain ⟨c1, c2, c3, c4⟩ := cm_range hO hI ht i hi
  rw [wrap_in (n := rd S.d (i : Int) * (rd_T62 l (i : Int)).f0) (by omega) (by omega)]
  unfold cm at *
  exact wrap_in (by omega) (by omega)
theorem spec_pick {u : Bool} {l : List S62} {F : List Int} {t T : Int} {S : RS} (hO : Okr l F) (hI : Inv l F t S) (ht : 0 ≤ t) (hT : t ≤ 2000) (res : List S59 × List Int × Bool)
    (h : Ev (fun k => spec_l25Run.l2 k l F T u S.d S.s S.w S.o t (pk u l F S.d t l.length).1 (pk u l F S.d t l.length).2 l (l.length : Int) (l.length : Int)) res) :
    Ev (fun k => spec_l25Run.l2 k l F T u S.d S.s S.w S.o t (-1) 0 l (l.length : Int) 0) res := by
  have := run_loop2 (fun k i (s : Int × Int) => spec_l25Run.l2 k l F T u S.d S.s S.w S.o t s.1 s.2 l (l.length : Int) i) l.length (fun m => pk u l F S.d t m) res h
    (fun m hm r he => by
      have hn := hO.n6
      have hcm := cm_wrap hO hI ht hT m hm
      obtain ⟨_, _, c3, c4⟩ := cm_range hO hI ht m hm
      have hch := hO.ch m hm
      have e1 : (m : Int) < (l.length : Int) := by omega
      have e2 : (0 : Int) ≤ (m : Int) := by omega
      have e3 : (m : Int) < (F.length : Int) := by rw [hO.lf]; omega
      have e4 : (m : Int) < (S.d.length : Int) := by rw [hI.ld]; omega
      have e5 : wrap64 ((m : Int) + 1) = ((m + 1 : Nat) : Int) := wrap_succ m (by omega)
      have e6 : wrap64 (cm l F S.d m + (rd_T62 l (m : Int)).f2) = cm l F S.d m + (rd_T62 l (m : Int)).f2 := wrap_in (by omega) (by omega)
      refine Ev.back 2 0 (fun k _ => ?_) he
      by_cases c : cm l F S.d m > t
      · have hp : pk u l F S.d t (m + 1) = pk u l F S.d t m := by simp only [pk]; rw [if_pos c]
        simp only [spec_l25Run.l2, spec_l25Run.j4, e1, e2, e3, e4, if_true, hcm, c, e5, hp]
      · by_cases c1 : 0 ≤ (pk u l F S.d t m).1
        · have c1' : (pk u l F S.d t m).1 ≥ 0 := c1
          cases u with
          | false =>
            have hp : pk false l F S.d t (m + 1) = pk false l F S.d t m := by simp only [pk]; rw [if_neg c, if_pos ⟨c1, .inl trivial⟩]
            simp only [spec_l25Run.l2, spec_l25Run.j4, e1, e2, e3, e4, if_true, hcm, c, if_false, c1', Bool.false_eq_true, e5, hp]
          | true =>
            by_cases c2 : (pk true l F S.d t m).2 ≤ cm l F S.d m + (rd_T62 l (m : Int)).f2
            · have hp : pk true l F S.d t (m + 1) = pk true l F S.d t m := by simp only [pk]; rw [if_neg c, if_pos ⟨c1, .inr c2⟩]
              have c2' : (cm l F S.d m + (rd_T62 l (m : Int)).f2 ≥ (pk true l F S.d t m).2) := c2
              simp only [spec_l25Run.l2, spec_l25Run.j4, e1, e2, e3, e4, if_true, hcm, c, if_false, c1', e6, c2', decide_true, e5, hp]
            · have hp : pk true l F S.d t (m + 1) = ((m : Int), cm l F S.d m + (rd_T62 l (m : Int)).f2) := by
                simp only [pk]
                rw [if_neg c, if_neg (fun hh => c2 (hh.2.resolve_left (by simp)))]
              have c2' : ¬ (cm l F S.d m + (rd_T62 l (m : Int)).f2 ≥ (pk true l F S.d t m).2) := c2
              simp only [spec_l25Run.l2, spec_l25Run.j4, e1, e2, e3, e4, if_true, hcm, c, if_false, c1', e6, c2', decide_false, Bool.false_eq_true, e5, hp]
        · have c1' : ¬ (pk u l F S.d t m).1 ≥ 0 := c1
          have hp : pk u l F S.d t (m + 1) = ((m : Int), cm l F S.d m + (rd_T62 l (m : Int)).f2) := by
            simp only [pk]
            rw [if_neg c, if_neg (fun hh => c1 hh.1)]
          simp only [spec_l25Run.l2, spec_l25Run.j4, e1, e2, e3, e4, if_true, hcm, c, if_false, c1', e6, Bool.false_eq_true, e5, hp]) 0 (Nat.zero_le _)
  exact this
theorem spec_put {u : Bool} {l : List S62} {F d s w : List Int} {o : List S59} {t T z : Int} (ht : 0 ≤ t) (hT : t ≤ 2000) (ho : (o.length : Int) ≤ t) (j : Nat) (res : List S59 × List Int × Bool)
    (h : Ev (fun k => spec_l25Run.j6 k l F T u d s w (put o t (j : Int)) t (j : Int)) res) :
    Ev (fun k => spec_l25Run.l2 k l F T u d s w o t (j : Int) z l (l.length : Int) (l.length : Int)) res := by
  have e1 : ¬ ((l.length : Int) < (l.length : Int)) := by omega
  have e2 : ¬ ((j : Int) < 0) := by omega
  have e3 : wrap64 (t + 1) = t + 1 := wrap_in (by omega) (by omega)
  have e4 : o.length < 5864062014805 := by omega
  refine Ev.back 2 0 (fun k _ => ?_) h
  by_cases c : 0 < o.length
  · have c' : (o.length : Int) > 0 := by omega
    have e5 : wrap64 ((o.length : Int) - 1) = ((o.length - 1 : Nat) : Int) := wrap_pred _ (by omega) c
    have e6 : (0 : Int) ≤ ((o.length - 1 : Nat) : Int) := by omega
    have e7 : ((o.length - 1 : Nat) : Int) < (o.length : Int) := by omega
    by_cases c1 : (rd_T59 o ((o.length - 1 : Nat) : Int)).f2 = (j : Int)
    · by_cases c2 : (rd_T59 o ((o.length - 1 : Nat) : Int)).f1 = t
      · have hp : put o t (j : Int) = o.set (o.length - 1) ⟨(rd_T59 o ((o.length - 1 : Nat) : Int)).f0, t + 1, (j : Int)⟩ := by unfold put; rw [if_pos ⟨c, c1, c2⟩]
        simp only [spec_l25Run.l2, spec_l25Run.j5, e1, e2, if_false, c', if_true, e5, e6, e7, c1, c2, beq_self_eq_true, toNat_i, e3, hp]
      · have hp : put o t (j : Int) = o ++ [⟨t, t + 1, (j : Int)⟩] := by unfold put; rw [if_neg (fun hh => c2 hh.2.2)]
        have c2' : ((rd_T59 o ((o.length - 1 : Nat) : Int)).f1 == t) = false := beq_eq_false_iff_ne.mpr c2
        simp only [spec_l25Run.l2, spec_l25Run.j5, e1, e2, if_false, c', if_true, e5, e6, e7, c1, c2', Bool.false_eq_true, e3, e4, hp]
    · have hp : put o t (j : Int) = o ++ [⟨t, t + 1, (j : Int)⟩] := by unfold put; rw [if_neg (fun hh => c1 hh.2.1)]
      simp only [spec_l25Run.l2, spec_l25Run.j5, e1, e2, if_false, c', if_true, e5, e6, e7, c1, Bool.false_eq_true, e3, e4, hp]
  · have hp : put o t (j : Int) = o ++ [⟨t, t + 1, (j : Int)⟩] := by unfold put; rw [if_neg (fun hh => c hh.1)]
    have c' : ¬ (o.length : Int) > 0 := by omega
    simp only [spec_l25Run.l2, spec_l25Run.j5, e1, e2, if_false, c', Bool.false_eq_true, e3, e4, if_true, hp]
theorem mx_self (w : List Int) (j : Nat) (v : Int) (hj : j < w.length) (h : ¬ v > rd w (j : Int)) : w.set j (mx (rd w (j : Int)) v) = w := by
  have e : mx (rd w (j : Int)) v = w[j] := by
    unfold mx
    rw [if_neg (by omega)]
    exact rd_get w j hj
  rw [e]
  exact List.set_getElem_self hj
theorem spec_tick {u : Bool} {l : List S62} {F : List Int} {t T : Int} {S : RS} (hO : Okr l F) (hI : Inv l F t S) (ht : 0 ≤ t) (htT : t < T) (hT : T ≤ 2000) (res : List S59 × List Int × Bool)
    (h : Ev (fun k => spec_l25Run.l1 k l F T u (stp u l F t S).d (stp u l F t S).s (stp u l F t S).w (stp u l F t S).o (t + 1)) res) :
    Ev (fun k => spec_l25Run.l1 k l F T u S.d S.s S.w S.o t) res := by
  have e0 : wrap64 (t + 1) = t + 1 := wrap_in (by omega) (by omega)
  have hp := spec_pick (u := u) (T := T) hO hI ht (by omega) res
  refine Ev.back 1 0 (fun k _ => by simp only [spec_l25Run.l1, htT, if_true]) (hp ?_)
  clear hp
  have e1 : ¬ ((l.length : Int) < (l.length : Int)) := by omega
  unfold stp at h
  rcases pk_at u l F S.d t l.length with ⟨h1, h2⟩ | ⟨j, hj, he, hc, hf⟩
  · rw [if_pos (by omega)] at h
    refine Ev.back 1 0 (fun k _ => ?_) h
    have e2 : (-1 : Int) < 0 := by omega
    simp only [spec_l25Run.l2, e1, if_false, h1, e2, if_true, e0]
  · rw [he, if_neg (by simp only; omega)] at h
    rw [he]
    simp only [toNat_i] at h
    have hlo := hI.lo
    refine spec_put ht (by omega) hlo j res ?_
    have hl := hI.ld
    have hl2 := hI.ls
    have hl3 := hI.lw
    have hlf := hO.lf
    have hch := hO.ch j hj
    have hcm := cm_wrap hO hI ht (by omega) j hj
    obtain ⟨_, _, c3, c4⟩ := cm_range hO hI ht j hj
    obtain ⟨d1, d2, d3⟩ := hI.dn j hj
    obtain ⟨s1, s2, s3⟩ := hI.sp j hj
    have b1 : (0 : Int) ≤ (j : Int) := by omega
    have b2 : (j : Int) < (S.s.length : Int) := by omega
    have b3 : (j : Int) < (l.length : Int) := by omega
    have b4 : (j : Int) < (F.length : Int) := by omega
    have b5 : (j : Int) < (S.d.length : Int) := by omega
    have b6 : (j : Int) < (S.w.length : Int) := by omega
    have b7 : wrap64 (rd S.s (j : Int) + 1) = rd S.s (j : Int) + 1 := wrap_in (by omega) (by omega)
    have b8 : rd (S.s.set j (rd S.s (j : Int) + 1)) (j : Int) = rd S.s (j : Int) + 1 := by rw [rd_set _ _ _ _ (by omega), if_pos rfl]
    have b9 : wrap64 (t + 1 - cm l F S.d j) = t + 1 - cm l F S.d j := wrap_in (by omega) (by omega)
    have b10 : wrap64 (rd S.d (j : Int) + 1) = rd S.d (j : Int) + 1 := wrap_in (by omega) (by omega)
    refine Ev.back 1 0 (fun k _ => ?_) h
    unfold fin
    by_cases c : rd S.s (j : Int) + 1 < (rd_T62 l (j : Int)).f1
    · simp only [spec_l25Run.j6, b1, b2, b3, if_true, toNat_i, b7, Option.bind_some, b8, c, e0]
    · by_cases c2 : t + 1 - cm l F S.d j > rd S.w (j : Int)
      · have hm : mx (rd S.w (j : Int)) (t + 1 - cm l F S.d j) = t + 1 - cm l F S.d j := by unfold mx; rw [if_pos (by omega)]
        simp only [spec_l25Run.j6, b1, b2, b3, b4, b5, b6, if_true, toNat_i, b7, Option.bind_some, b8, c, if_false, e0, hcm, b9, b10, c2, List.set_set, hm]
      · have hm := mx_self S.w j (t + 1 - cm l F S.d j) (by omega) c2
        simp only [spec_l25Run.j6, b1, b2, b3, b4, b5, b6, if_true, toNat_i, b7, Option.bind_some, b8, c, if_false, e0, hcm, b9, b10, c2, List.set_set, hm]
theorem spec_run {u : Bool} {l : List S62} {F : List Int} (hO : Okr l F) (T : Nat) (hT : T ≤ 2000) : ∀ (e t : Nat), t + e = T → Ev (fun k => spec_l25Run.l1 k l F (T : Int) u (run u l F t).d (run u l F t).s (run u l F t).w (run u l F t).o (t : Int)) ((run u l F T).o, (run u l F T).w, true) := by
  intro e
  induction e with
  | zero =>
    intro t ht
    obtain rfl : t = T := by omega
    refine Ev.at 1 0 (fun k _ => ?_)
    have e1 : ¬ ((t : Int) < (t : Int)) := by omega
    simp only [spec_l25Run.l1, e1, if_false]
  | succ e ih =>
    intro t ht
    have he := ih (t + 1) (by omega)
    refine spec_tick hO (Inv_run hO t) (by omega) (by omega) (by omega) _ ?_
    rw [show (t : Int) + 1 = ((t + 1 : Nat) : Int) by omega]
    exact he
def U : Bool := false
theorem soon_eq (l : List S62) (m j : Nat) (h : j < m) (x y : S55) : soonB l (m : Int) x (j : Int) y = (U && decide (wrap64 (x.f0 + (rd_T62 l (m : Int)).f2) < wrap64 (y.f0 + (rd_T62 l (j : Int)).f2))) := by
  unfold soonB U
  rw [Bool.false_and]
  exact decide_eq_false (by omega)
theorem hU : U = false := rfl
/-! ### The queues -/
def Que (f P N t : Int) (q : List S55) (d s : Int) : Prop :=
  (∀ j : Nat, j < q.length → rd_T55 q (j : Int) = ⟨f + (d + (j : Int)) * P, if j = 0 then N - s else N⟩) ∧ t ≤ f + (d + (q.length : Int)) * P ∧ (0 < d + (q.length : Int) → f + (d + (q.length : Int)) * P - P < t) ∧ (q.length = 0 → s = 0)
theorem que_arrive {f P N t d s : Int} {q : List S55} (hP : 1 ≤ P) (hd : 0 ≤ d) (hf : 0 ≤ f) (ht : 0 ≤ t) (h : Que f P N t q d s) :
    (f ≤ t ∧ Int.tmod (t - f) P = 0 → Que f P N (t + 1) (q ++ [⟨t, N⟩]) d s) ∧ (¬ (f ≤ t ∧ Int.tmod (t - f) P = 0) → Que f P N (t + 1) q d s) := by
  obtain ⟨h1, h2, h3, h4⟩ := h
  have hX0 : 0 ≤ (d + (q.length : Int)) * P := Int.mul_nonneg (by omega) (by omega)
  constructor
  · rintro ⟨c1, c2⟩
    obtain ⟨m, hm⟩ := Int.dvd_of_tmod_eq_zero c2
    have hmM : m = d + (q.length : Int) := by
      rcases Int.lt_trichotomy m (d + (q.length : Int)) with c | c | c
      · exfalso
        have := Int.mul_le_mul_of_nonneg_left (show m + 1 ≤ d + (q.length : Int) by omega) (show 0 ≤ P by omega)
        rw [Int.mul_add, Int.mul_one, Int.mul_comm P (d + (q.length : Int))] at this
        by_cases c0 : 0 < d + (q.length : Int)
        · have := h3 c0
          omega
        · have e0 : d + (q.length : Int) = 0 := by omega
          rw [e0, Int.zero_mul] at this
          omega
      · exact c
      · exfalso
        have := Int.mul_le_mul_of_nonneg_left (show d + (q.length : Int) + 1 ≤ m by omega) (show 0 ≤ P by omega)
        rw [Int.mul_add, Int.mul_one, Int.mul_comm P (d + (q.length : Int))] at this
        omega
    rw [hmM, Int.mul_comm] at hm
    refine ⟨fun j hj => ?_, ?_, fun _ => ?_, fun h0 => by simp at h0⟩
    · rw [List.length_append, List.length_singleton] at hj
      by_cases c : j < q.length
      · rw [← h1 j c]
        unfold rd_T55
        simp only [toNat_i, List.getD_eq_getElem?_getD, List.getElem?_append_left c]
      · obtain rfl : j = q.length := by omega
        unfold rd_T55
        simp only [toNat_i, List.getD_eq_getElem?_getD, List.getElem?_append_right (Nat.le_refl _), Nat.sub_self, List.getElem?_cons_zero, Option.getD_some]
        by_cases c0 : q.length = 0
        · rw [if_pos c0, h4 c0]
          congr 1 <;> omega
        · rw [if_neg c0]
          congr 1
          omega
    · rw [List.length_append, List.length_singleton, show d + ((q.length + 1 : Nat) : Int) = (d + (q.length : Int)) + 1 by omega, Int.add_mul, Int.one_mul]
      omega
    · rw [List.length_append, List.length_singleton, show d + ((q.length + 1 : Nat) : Int) = (d + (q.length : Int)) + 1 by omega, Int.add_mul, Int.one_mul]
      omega
  · intro c
    refine ⟨h1, ?_, fun h0 => ?_, h4⟩
    · by_cases e : t = f + (d + (q.length : Int)) * P
      · exfalso
        refine c ⟨by omega, ?_⟩
        rw [show t - f = (d + (q.length : Int)) * P by omega]
        exact Int.mul_tmod_left _ _
      · omega
    · have := h3 h0
      omega
theorem que_head {f P N t d s : Int} {q : List S55} (hP : 1 ≤ P) (hd : 0 ≤ d) (h : Que f P N (t + 1) q d s) : (0 < q.length ↔ f + d * P ≤ t) ∧ (0 < q.length → rd_T55 q 0 = ⟨f + d * P, N - s⟩) := by
  obtain ⟨h1, h2, h3, h4⟩ := h
  have e : (d + (q.length : Int)) * P = d * P + (q.length : Int) * P := Int.add_mul _ _ _
  refine ⟨⟨fun c => ?_, fun c => ?_⟩, fun c => ?_⟩
  · have := Int.mul_le_mul_of_nonneg_right (show (1 : Int) ≤ (q.length : Int) by omega) (show 0 ≤ P by omega)
    rw [Int.one_mul] at this
    have := h3 (by omega)
    omega
  · rcases Nat.eq_zero_or_pos q.length with c0 | c0
    · exfalso
      rw [c0] at h2
      simp only [Int.natCast_zero, Int.add_zero] at h2
      omega
    · exact c0
  · have := h1 0 c
    simp only [Int.natCast_zero, Int.add_zero, if_true] at this
    exact this
theorem que_len {f P N t d s : Int} {q : List S55} (hP : 1 ≤ P) (hd : 0 ≤ d) (hf : 0 ≤ f) (ht : 0 ≤ t) (h : Que f P N t q d s) : (q.length : Int) ≤ t := by
  obtain ⟨h1, h2, h3, h4⟩ := h
  by_cases c0 : 0 < d + (q.length : Int)
  · have h5 := h3 c0
    have := Int.mul_le_mul_of_nonneg_left hP (show 0 ≤ d + (q.length : Int) - 1 by omega)
    have e : (d + (q.length : Int) - 1) * P = (d + (q.length : Int)) * P - P := by rw [Int.sub_mul, Int.one_mul]
    rw [Int.mul_one, e] at this
    omega
  · omega
theorem que_done {f P N t d s : Int} {q : List S55} (h : Que f P N t q d s) (h0 : 0 < q.length) : Que f P N t (q.drop 1) (d + 1) 0 := by
  obtain ⟨h1, h2, h3, h4⟩ := h
  have e : d + 1 + ((q.length - 1 : Nat) : Int) = d + (q.length : Int) := by omega
  refine ⟨fun j hj => ?_, ?_, fun c => ?_, fun _ => rfl⟩
  · rw [List.length_drop] at hj
    have := h1 (j + 1) (by omega)
    have e2 : rd_T55 (q.drop 1) (j : Int) = rd_T55 q ((j + 1 : Nat) : Int) := by
      unfold rd_T55
      simp only [toNat_i, List.getD_eq_getElem?_getD, List.getElem?_drop]
      rw [Nat.add_comm]
    rw [e2, this, if_neg (by omega), show d + ((j + 1 : Nat) : Int) = d + 1 + (j : Int) by omega]
    split <;> simp
  · rw [List.length_drop, e]
    exact h2
  · rw [List.length_drop, e] at c ⊢
    exact h3 c
theorem que_less {f P N t d s : Int} {q : List S55} (h : Que f P N t q d s) (h0 : 0 < q.length) : Que f P N t (q.set 0 ⟨f + d * P, N - s - 1⟩) d (s + 1) := by
  obtain ⟨h1, h2, h3, h4⟩ := h
  refine ⟨fun j hj => ?_, by rw [List.length_set]; exact h2, by rw [List.length_set]; exact h3, fun c => by rw [List.length_set] at c; omega⟩
  rw [List.length_set] at hj
  rcases Nat.eq_zero_or_pos j with c | c
  · subst c
    unfold rd_T55
    simp [List.getElem?_set, h0]
    omega
  · rw [if_neg (by omega)]
    have := h1 j hj
    rw [if_neg (by omega)] at this
    rw [← this]
    unfold rd_T55
    simp only [toNat_i, List.getD_eq_getElem?_getD]
    rw [List.getElem?_set_ne (by omega)]
/-- The queues, where the first m chores' arrivals at t are counted. -/
def JI (l : List S62) (F : List Int) (t : Int) (m : Nat) (Js : List (List S55)) (d s : List Int) : Prop :=
  Js.length = l.length ∧ ∀ i : Nat, i < l.length → Que (rd F (i : Int)) (rd_T62 l (i : Int)).f0 (rd_T62 l (i : Int)).f1 (if i < m then t + 1 else t) (rd_L3 Js (i : Int)) (rd d (i : Int)) (rd s (i : Int))
theorem JI_all {l : List S62} {F : List Int} {t : Int} {Js : List (List S55)} {d s : List Int} (h : JI l F t l.length Js d s) : JI l F (t + 1) 0 Js d s :=
  ⟨h.1, fun i hi => by have := h.2 i hi; rw [if_pos hi] at this; rw [if_neg (by omega)]; exact this⟩
theorem impl_pick {l : List S62} {F : List Int} {t T : Int} {S : RS} (hO : Okr l F) (hI : Inv l F t S) (ht : 0 ≤ t) (hT : t ≤ 2000) (res : List S59 × List Int × Bool)
    (h : ∀ Js, JI l F t l.length Js S.d S.s → Ev (fun k => impl_play.l2 k l F Js S.w S.o t (pk U l F S.d t l.length).1 T t l (l.length : Int) (l.length : Int)) res) :
    ∀ (e m : Nat), m + e = l.length → ∀ Js, JI l F t m Js S.d S.s → Ev (fun k => impl_play.l2 k l F Js S.w S.o t (pk U l F S.d t m).1 T t l (l.length : Int) (m : Int)) res := by
  intro e
  induction e with
  | zero =>
    intro m hm Js hJ
    obtain rfl : m = l.length := by omega
    exact h Js hJ
  | succ e ih =>
    intro m hm Js hJ
    have hn := hO.n6
    obtain ⟨_, _, c3, c4⟩ := cm_range hO hI ht m (by omega)
    have hch := hO.ch m (by omega)
    have hfr := hO.fr m (by omega)
    obtain ⟨d1, d2, d3⟩ := hI.dn m (by omega)
    obtain ⟨hJl, hJq⟩ := hJ
    have hqm := hJq m (by omega)
    rw [if_neg (by omega)] at hqm
    have hql := que_len (by omega) d1 hfr.1 ht hqm
    obtain ⟨ha1, ha2⟩ := que_arrive (by omega) d1 hfr.1 ht hqm
    have e1 : (m : Int) < (l.length : Int) := by omega
    have e2 : (0 : Int) ≤ (m : Int) := by omega
    have e3 : (m : Int) < (F.length : Int) := by rw [hO.lf]; omega
    have e4 : (m : Int) < (Js.length : Int) := by omega
    have hm9 : m < 9223372036854775807 := by omega
    have e6 : (rd_L3 Js (m : Int)).length < 8796093022208 := by omega
    have e7 : ¬ (rd_T62 l (m : Int)).f0 = 0 := by omega
    -- behind the arrival
    have hB : ∀ Js1, JI l F t (m + 1) Js1 S.d S.s → Ev (fun k => impl_play.j5 k l F Js1 S.w S.o t (pk U l F S.d t m).1 (m : Int) T t l (l.length : Int) (m : Int)) res := by
      intro Js1 hJ1
      have he := ih (m + 1) (by omega) Js1 hJ1
      obtain ⟨hJ1l, hJ1q⟩ := hJ1
      have hq1 := hJ1q m (by omega)
      rw [if_pos (by omega)] at hq1
      obtain ⟨hh1, hh2⟩ := que_head (by omega) d1 hq1
      have b1 : (m : Int) < (Js1.length : Int) := by omega
      refine Ev.back 2 0 (fun k _ => ?_) he
      by_cases c : 0 < (rd_L3 Js1 (m : Int)).length
      · have hcm : cm l F S.d m ≤ t := hh1.mp c
        have hcm' : ¬ cm l F S.d m > t := by omega
        have hhd := hh2 c
        have c' : ((rd_L3 Js1 (m : Int)).length : Int) > 0 := by omega
        have c'' : 0 < ((rd_L3 Js1 (m : Int)).length : Int) := by omega
        rcases pk_at U l F S.d t m with ⟨h1, h2⟩ | ⟨j, hj, hpj, hcj, hfj⟩
        · have hp : pk U l F S.d t (m + 1) = ((m : Int), cm l F S.d m + (rd_T62 l (m : Int)).f2) := by
            simp only [pk]
            rw [if_neg hcm', if_neg (by omega)]
          have h1' : (-1 : Int) < 0 := by omega
          simp only [impl_play.j5, impl_play.j6, e2, b1, if_true, c', h1, h1', wrap_succ m hm9, hp]
        · have hqj := hJ1q j (by omega)
          rw [if_pos (by omega)] at hqj
          have hchj := hO.ch j (by omega)
          obtain ⟨hj1, hj2⟩ := que_head (by omega) (hI.dn j (by omega)).1 hqj
          have cj : 0 < (rd_L3 Js1 (j : Int)).length := hj1.mpr hcj
          have hhj := hj2 cj
          have b2 : ¬ ((j : Int) < 0) := by omega
          have b3 : (0 : Int) ≤ (j : Int) := by omega
          have b4 : (j : Int) < (Js1.length : Int) := by omega
          have b5 : 0 < ((rd_L3 Js1 (j : Int)).length : Int) := by omega
          have b6 : (j : Int) < (l.length : Int) := by omega
          have hs := soon_eq l m j hj (rd_T55 (rd_L3 Js1 (m : Int)) 0) (rd_T55 (rd_L3 Js1 (j : Int)) 0)
          obtain ⟨_, _, c5, c6⟩ := cm_range hO hI ht j (by omega)
          have w1 : wrap64 (rd F (m : Int) + rd S.d (m : Int) * (rd_T62 l (m : Int)).f0 + (rd_T62 l (m : Int)).f2) = cm l F S.d m + (rd_T62 l (m : Int)).f2 := by unfold cm at *; exact wrap_in (by omega) (by omega)
          have w2 : wrap64 (rd F (j : Int) + rd S.d (j : Int) * (rd_T62 l (j : Int)).f0 + (rd_T62 l (j : Int)).f2) = cm l F S.d j + (rd_T62 l (j : Int)).f2 := by unfold cm at *; exact wrap_in (by omega) (by omega)
          by_cases cs : soonB l (m : Int) (rd_T55 (rd_L3 Js1 (m : Int)) 0) (j : Int) (rd_T55 (rd_L3 Js1 (j : Int)) 0) = true
          · have cs' := cs
            rw [hs, hhd, hhj, Bool.and_eq_true, decide_eq_true_eq] at cs'
            simp only at cs'
            rw [w1, w2] at cs'
            clear w1 w2
            have hp : pk U l F S.d t (m + 1) = ((m : Int), cm l F S.d m + (rd_T62 l (m : Int)).f2) := by
              simp only [pk]
              rw [if_neg hcm', if_neg ?_]
              rintro ⟨_, hx | hx⟩
              · rw [hx] at cs'
                exact absurd cs'.1 (by simp)
              · rw [hpj] at hx
                simp only at hx
                omega
            simp only [impl_play.j5, impl_play.j6, e2, b1, if_true, c', c'', hpj, b2, if_false, b3, b4, b5, b6, cs, wrap_succ m hm9, hp]
          · rw [Bool.not_eq_true] at cs
            have cs' := cs
            rw [hs, hhd, hhj] at cs'
            simp only at cs'
            rw [w1, w2] at cs'
            clear w1 w2
            have hp : pk U l F S.d t (m + 1) = pk U l F S.d t m := by
              simp only [pk]
              rw [if_neg hcm', if_pos ?_]
              refine ⟨by rw [hpj]; exact b3, ?_⟩
              rw [hpj]
              simp only
              cases hU : U with
              | false => exact .inl rfl
              | true =>
                rw [hU, Bool.true_and, decide_eq_false_iff_not] at cs'
                exact .inr (by omega)
            rw [hp]
            simp only [impl_play.j5, impl_play.j6, e2, b1, if_true, c', c'', hpj, b2, if_false, b3, b4, b5, b6, cs, Bool.false_eq_true, wrap_succ m hm9]
      · have hcm : ¬ cm l F S.d m ≤ t := fun hh => c (hh1.mpr hh)
        have hp : pk U l F S.d t (m + 1) = pk U l F S.d t m := by
          simp only [pk]
          rw [if_pos (by omega)]
        have c' : ¬ ((rd_L3 Js1 (m : Int)).length : Int) > 0 := by omega
        simp only [impl_play.j5, impl_play.j6, e2, b1, if_true, c', if_false, Bool.false_eq_true, wrap_succ m hm9, hp]
    by_cases ca : rd F (m : Int) ≤ t ∧ Int.tmod (t - rd F (m : Int)) (rd_T62 l (m : Int)).f0 = 0
    · refine Ev.back 2 0 (fun k _ => ?_) (hB (Js.set m (rd_L3 Js (m : Int) ++ [⟨t, (rd_T62 l (m : Int)).f1⟩])) ⟨by rw [List.length_set]; exact hJl, fun i hi => ?_⟩)
      · have ca1 : t ≥ rd F (m : Int) := ca.1
        have ca2 : (Int.tmod (t - rd F (m : Int)) (rd_T62 l (m : Int)).f0 == 0) = true := beq_iff_eq.mpr ca.2
        have w0 : wrap64 (t - rd F (m : Int)) = t - rd F (m : Int) := wrap_in (by omega) (by omega)
        simp only [impl_play.l2, impl_play.j4, e1, e2, e3, e4, e6, if_true, ca1, e7, if_false, w0, ca2, toNat_i]
      · rw [rdL_set _ _ _ _ (by omega)]
        by_cases ei : m = i
        · subst ei
          rw [if_pos (by omega), if_pos rfl]
          exact ha1 ca
        · have := hJq i hi
          rw [if_neg ei]
          by_cases c : i < m
          · rw [if_pos c] at this
            rw [if_pos (by omega)]
            exact this
          · rw [if_neg c] at this
            rw [if_neg (by omega)]
            exact this
    · refine Ev.back 2 0 (fun k _ => ?_) (hB Js ⟨hJl, fun i hi => ?_⟩)
      · by_cases ca1 : rd F (m : Int) ≤ t
        · have ca1' : t ≥ rd F (m : Int) := ca1
          have w0 : wrap64 (t - rd F (m : Int)) = t - rd F (m : Int) := wrap_in (by omega) (by omega)
          have ca2 : (Int.tmod (t - rd F (m : Int)) (rd_T62 l (m : Int)).f0 == 0) = false := beq_eq_false_iff_ne.mpr (fun hh => ca ⟨ca1, hh⟩)
          simp only [impl_play.l2, impl_play.j4, e1, e2, e3, if_true, ca1', e7, if_false, w0, ca2, Bool.false_eq_true]
        · have ca1' : ¬ t ≥ rd F (m : Int) := ca1
          simp only [impl_play.l2, impl_play.j4, e1, e2, e3, if_true, ca1', if_false, Bool.false_eq_true]
      · by_cases ei : m = i
        · subst ei
          rw [if_pos (by omega)]
          exact ha2 ca
        · have := hJq i hi
          by_cases c : i < m
          · rw [if_pos c] at this
            rw [if_pos (by omega)]
            exact this
          · rw [if_neg c] at this
            rw [if_neg (by omega)]
            exact this
theorem impl_put {l : List S62} {F w : List Int} {Js : List (List S55)} {o : List S59} {t T : Int} (ht : 0 ≤ t) (hT : t ≤ 2000) (ho : (o.length : Int) ≤ t) (j : Nat) (res : List S59 × List Int × Bool)
    (h : Ev (fun k => impl_play.j8 k l F Js w (put o t (j : Int)) t (j : Int) T t) res) :
    Ev (fun k => impl_play.l2 k l F Js w o t (j : Int) T t l (l.length : Int) (l.length : Int)) res := by
  have e1 : ¬ ((l.length : Int) < (l.length : Int)) := by omega
  have e2 : ¬ ((j : Int) < 0) := by omega
  have e3 : wrap64 (t + 1) = t + 1 := wrap_in (by omega) (by omega)
  have e4 : o.length < 5864062014805 := by omega
  refine Ev.back 2 0 (fun k _ => ?_) h
  by_cases c : 0 < o.length
  · have c' : (o.length : Int) > 0 := by omega
    have e5 : wrap64 ((o.length : Int) - 1) = ((o.length - 1 : Nat) : Int) := wrap_pred _ (by omega) c
    have e6 : (0 : Int) ≤ ((o.length - 1 : Nat) : Int) := by omega
    have e7 : ((o.length - 1 : Nat) : Int) < (o.length : Int) := by omega
    by_cases c1 : (rd_T59 o ((o.length - 1 : Nat) : Int)).f2 = (j : Int)
    · by_cases c2 : (rd_T59 o ((o.length - 1 : Nat) : Int)).f1 = t
      · have hp : put o t (j : Int) = o.set (o.length - 1) ⟨(rd_T59 o ((o.length - 1 : Nat) : Int)).f0, t + 1, (j : Int)⟩ := by unfold put; rw [if_pos ⟨c, c1, c2⟩]
        simp only [impl_play.l2, impl_play.j7, e1, e2, if_false, c', if_true, e5, e6, e7, c1, c2, beq_self_eq_true, toNat_i, e3, hp]
      · have hp : put o t (j : Int) = o ++ [⟨t, t + 1, (j : Int)⟩] := by unfold put; rw [if_neg (fun hh => c2 hh.2.2)]
        have c2' : ((rd_T59 o ((o.length - 1 : Nat) : Int)).f1 == t) = false := beq_eq_false_iff_ne.mpr c2
        simp only [impl_play.l2, impl_play.j7, e1, e2, if_false, c', if_true, e5, e6, e7, c1, c2', Bool.false_eq_true, e3, e4, hp]
    · have hp : put o t (j : Int) = o ++ [⟨t, t + 1, (j : Int)⟩] := by unfold put; rw [if_neg (fun hh => c1 hh.2.1)]
      simp only [impl_play.l2, impl_play.j7, e1, e2, if_false, c', if_true, e5, e6, e7, c1, Bool.false_eq_true, e3, e4, hp]
  · have hp : put o t (j : Int) = o ++ [⟨t, t + 1, (j : Int)⟩] := by unfold put; rw [if_neg (fun hh => c hh.1)]
    have c' : ¬ (o.length : Int) > 0 := by omega
    simp only [impl_play.l2, impl_play.j7, e1, e2, if_false, c', Bool.false_eq_true, e3, e4, if_true, hp]
theorem impl_tick {l : List S62} {F : List Int} {t T : Int} {S : RS} {Js : List (List S55)} (hO : Okr l F) (hI : Inv l F t S) (ht : 0 ≤ t) (htT : t < T) (hT : T ≤ 2000) (hJ : JI l F t 0 Js S.d S.s) (res : List S59 × List Int × Bool)
    (h : ∀ Js', JI l F (t + 1) 0 Js' (stp U l F t S).d (stp U l F t S).s → Ev (fun k => impl_play.l1 k l F Js' (stp U l F t S).w (stp U l F t S).o T (t + 1)) res) :
    Ev (fun k => impl_play.l1 k l F Js S.w S.o T t) res := by
  have e0 : wrap64 (t + 1) = t + 1 := wrap_in (by omega) (by omega)
  refine Ev.back 1 0 (fun k _ => by simp only [impl_play.l1, htT, if_true]; rfl) (impl_pick (T := T) hO hI ht (by omega) res (fun Js1 hJ1 => ?_) l.length 0 (by omega) Js hJ)
  have e1 : ¬ ((l.length : Int) < (l.length : Int)) := by omega
  unfold stp at h
  rcases pk_at U l F S.d t l.length with ⟨h1, h2⟩ | ⟨j, hj, he, hc, hf⟩
  · rw [if_pos (by omega)] at h
    refine Ev.back 1 0 (fun k _ => ?_) (h Js1 (JI_all hJ1))
    have e2 : (-1 : Int) < 0 := by omega
    simp only [impl_play.l2, e1, if_false, h1, e2, if_true, e0]
  · rw [he, if_neg (by simp only; omega)] at h
    rw [he]
    simp only [toNat_i] at h
    have hlo := hI.lo
    refine impl_put ht (by omega) hlo j res ?_
    have hl := hI.ld
    have hl2 := hI.ls
    have hl3 := hI.lw
    have hch := hO.ch j hj
    obtain ⟨hJl, hJq⟩ := hJ1
    have hq := hJq j hj
    rw [if_pos hj] at hq
    obtain ⟨hh1, hh2⟩ := que_head (by omega) (hI.dn j hj).1 hq
    have cq : 0 < (rd_L3 Js1 (j : Int)).length := hh1.mpr hc
    have hhd := hh2 cq
    obtain ⟨_, _, c3, c4⟩ := cm_range hO hI ht j hj
    obtain ⟨d1, d2, d3⟩ := hI.dn j hj
    obtain ⟨s1, s2, s3⟩ := hI.sp j hj
    have b1 : (0 : Int) ≤ (j : Int) := by omega
    have b2 : (j : Int) < (Js1.length : Int) := by omega
    have b3 : 0 < ((rd_L3 Js1 (j : Int)).length : Int) := by omega
    have b4 : (j : Int) < (S.w.length : Int) := by omega
    have b5 : wrap64 ((rd_T62 l (j : Int)).f1 - rd S.s (j : Int) - 1) = (rd_T62 l (j : Int)).f1 - rd S.s (j : Int) - 1 := wrap_in (by omega) (by omega)
    have b6 : wrap64 (t + 1 - (rd F (j : Int) + rd S.d (j : Int) * (rd_T62 l (j : Int)).f0)) = t + 1 - cm l F S.d j := by unfold cm at *; exact wrap_in (by omega) (by omega)
    unfold fin at h
    by_cases c : rd S.s (j : Int) + 1 < (rd_T62 l (j : Int)).f1
    · rw [if_pos c] at h
      have c' : ¬ ((rd_T62 l (j : Int)).f1 - rd S.s (j : Int) - 1 = 0) := by omega
      refine Ev.back 1 0 (fun k _ => ?_) (h (Js1.set j ((rd_L3 Js1 (j : Int)).set 0 ⟨rd F (j : Int) + rd S.d (j : Int) * (rd_T62 l (j : Int)).f0, (rd_T62 l (j : Int)).f1 - rd S.s (j : Int) - 1⟩)) (JI_all ⟨by rw [List.length_set]; exact hJl, fun i hi => ?_⟩))
      · simp only [impl_play.j8, b1, b2, b3, if_true, hhd, b5, c', if_false, toNat_i, e0]
      · have := hJq i hi
        simp only
        rw [rdL_set _ _ _ _ (by omega), rd_set _ _ _ _ (by omega)]
        by_cases ei : j = i
        · subst ei
          simp only [if_true]
          rw [if_pos hi] at this ⊢
          exact que_less this cq
        · rw [if_neg ei, if_neg ei]
          exact this
    · rw [if_neg c] at h
      have c' : (rd_T62 l (j : Int)).f1 - rd S.s (j : Int) - 1 = 0 := by omega
      refine Ev.back 1 0 (fun k _ => ?_) (h (Js1.set j ((rd_L3 Js1 (j : Int)).drop 1)) (JI_all ⟨by rw [List.length_set]; exact hJl, fun i hi => ?_⟩))
      · have b7 : wrap64 0 = 0 := wrap_in (by omega) (by omega)
        simp only [impl_play.j8, b1, b2, b3, b4, if_true, hhd, b5, c', b7, toNat_i, e0, b6]
      · have := hJq i hi
        simp only
        rw [rdL_set _ _ _ _ (by omega), rd_set _ _ _ _ (by omega), rd_set _ _ _ _ (by omega)]
        by_cases ei : j = i
        · subst ei
          simp only [if_true]
          rw [if_pos hi] at this ⊢
          exact que_done this cq
        · rw [if_neg ei, if_neg ei, if_neg ei]
          exact this
theorem impl_run {l : List S62} {F : List Int} (hO : Okr l F) (T : Nat) (hT : T ≤ 2000) : ∀ (e t : Nat), t + e = T → ∀ Js, JI l F (t : Int) 0 Js (run U l F t).d (run U l F t).s → Ev (fun k => impl_play.l1 k l F Js (run U l F t).w (run U l F t).o (T : Int) (t : Int)) ((run U l F T).o, (run U l F T).w, true) := by
  intro e
  induction e with
  | zero =>
    intro t ht Js hJ
    obtain rfl : t = T := by omega
    refine Ev.at 1 0 (fun k _ => ?_)
    have e1 : ¬ ((t : Int) < (t : Int)) := by omega
    simp only [impl_play.l1, e1, if_false]
  | succ e ih =>
    intro t ht Js hJ
    refine impl_tick hO (Inv_run hO t) (by omega) (by omega) (by omega) hJ _ (fun Js' hJ' => ?_)
    have he := ih (t + 1) (by omega) Js' (by rw [show ((t + 1 : Nat) : Int) = (t : Int) + 1 by omega]; exact hJ')
    rw [show (t : Int) + 1 = ((t + 1 : Nat) : Int) by omega]
    exact he
theorem JI_start {l : List S62} {F : List Int} (hO : Okr l F) : JI l F 0 0 (List.replicate l.length []) (run U l F 0).d (run U l F 0).s := by
  refine ⟨List.length_replicate, fun i hi => ?_⟩
  have hf := hO.fr i hi
  rw [rdL_rep _ _ hi]
  simp only [run]
  rw [rd_rep _ _ hi, if_neg (by omega)]
  refine ⟨fun j hj => absurd hj (by simp), ?_, fun h => ?_, fun _ => rfl⟩
  · simp
    exact hf.1
  · simp at h
/-- As 'all_loop2'; the end is asked for only where all hold. -/
theorem all_if {ρ : Type} (F : Nat → Int → Option ρ) (n : Nat) (p : Nat → Bool) (yes no : ρ) (hend : (∀ i : Nat, i < n → p i = true) → Ev (fun k => F k (n : Int)) yes)
    (hyes : ∀ i : Nat, i < n → p i = true → ∀ r, Ev (fun k => F k ((i + 1 : Nat) : Int)) r → Ev (fun k => F k (i : Int)) r) (hno : ∀ i : Nat, i < n → p i = false → Ev (fun k => F k (i : Int)) no) :
    Ev (fun k => F k 0) (if (List.range n).all p = true then yes else no) := by
  have key : ∀ (d i : Nat), i + d = n → (∀ j : Nat, j < i → p j = true) → Ev (fun k => F k (i : Int)) (if (List.range n).all p = true then yes else no) := by
    intro d
    induction d with
    | zero =>
      intro i hi hp
      obtain rfl : i = n := by omega
      rw [if_pos (range_all.mpr hp)]
      exact hend hp
    | succ d ih =>
      intro i hi hp
      cases c : p i with
      | true =>
        refine hyes i (by omega) c _ (ih (i + 1) (by omega) (fun j hj => ?_))
        by_cases e : j = i
        · rw [e]
          exact c
        · exact hp j (by omega)
      | false =>
        rw [if_neg (fun hh => by have := range_all.mp hh i (by omega); rw [c] at this; exact absurd this (by simp))]
        exact hno i (by omega) c
  exact key n 0 (by omega) (fun j hj => absurd hj (Nat.not_lt_zero _))
def okF (F : List Int) (i : Nat) : Bool := decide (0 ≤ rd F (i : Int) ∧ rd F (i : Int) ≤ 60)
def answer (L : List S62) (F : List Int) (n : Int) : List S59 × List Int × Bool := if (List.range F.length).all (okF F) = true then ((run U L F n.toNat).o, (run U L F n.toNat).w, true) else ([], [], false)
theorem okr_of {L : List S62} {F : List Int} (hg : goodChores L = true) (hl : F.length = L.length) (hf : ∀ i : Nat, i < F.length → okF F i = true) : Okr L F := by
  unfold goodChores at hg
  rw [Bool.and_eq_true, range_all, decide_eq_true_eq] at hg
  refine ⟨hg.1.2, hl, fun i hi => ?_, fun i hi => ?_⟩
  · have := hg.2 i hi
    simpa only [okChore, decide_eq_true_eq] using this
  · have := hf i (by omega)
    simpa only [okF, decide_eq_true_eq] using this
theorem spec_answer (L : List S62) (F : List Int) (n : Int) (hg : goodChores L = true) (hl : F.length = L.length) (h0 : 0 ≤ n) (h1 : n ≤ 2000) : Ev (fun k => spec_l25Run.l0 k L F n U F (F.length : Int) 0) (answer L F n) := by
  have hn6 : L.length ≤ 6 := by
    unfold goodChores at hg
    rw [Bool.and_eq_true, decide_eq_true_eq] at hg
    exact hg.1.2
  refine all_if (fun k i => spec_l25Run.l0 k L F n U F (F.length : Int) i) F.length (okF F) _ _ (fun hall => ?_) (fun i hi hp r hr => ?_) (fun i hi hp => ?_)
  · have hO := okr_of hg hl hall
    have hr := spec_run (u := U) hO n.toNat (by omega) n.toNat 0 (by omega)
    rw [show ((n.toNat : Nat) : Int) = n by omega] at hr
    have e1 : ¬ ((F.length : Int) < (F.length : Int)) := by omega
    have e2 : (0 : Int) ≤ (L.length : Int) := by omega
    have e3 : L.length ≤ 35184372088832 := by omega
    refine Ev.back 1 0 (fun k _ => ?_) hr
    simp only [spec_l25Run.l0, e1, if_false, e2, if_true, toNat_i, e3]
    rfl
  · simp only [okF, decide_eq_true_eq] at hp
    have e1 : (i : Int) < (F.length : Int) := by omega
    have e2 : (0 : Int) ≤ (i : Int) := by omega
    have e3 : ¬ (rd F (i : Int) < 0) := by omega
    have e4 : ¬ (rd F (i : Int) > 60) := by omega
    refine Ev.back 1 0 (fun k _ => ?_) hr
    simp only [spec_l25Run.l0, e1, e2, e3, e4, if_true, if_false, wrap_succ i (by omega)]
  · simp only [okF, decide_eq_false_iff_not] at hp
    have e1 : (i : Int) < (F.length : Int) := by omega
    have e2 : (0 : Int) ≤ (i : Int) := by omega
    refine Ev.at 1 0 (fun k _ => ?_)
    by_cases e3 : rd F (i : Int) < 0
    · simp only [spec_l25Run.l0, e1, e2, e3, if_true]
    · have e4 : rd F (i : Int) > 60 := by omega
      simp only [spec_l25Run.l0, e1, e2, e3, e4, if_true, if_false]
theorem impl_answer (L : List S62) (F : List Int) (n : Int) (hg : goodChores L = true) (hl : F.length = L.length) (h0 : 0 ≤ n) (h1 : n ≤ 2000) : Ev (fun k => impl_play.l0 k L F n F (F.length : Int) 0) (answer L F n) := by
  have hn6 : L.length ≤ 6 := by
    unfold goodChores at hg
    rw [Bool.and_eq_true, decide_eq_true_eq] at hg
    exact hg.1.2
  refine all_if (fun k i => impl_play.l0 k L F n F (F.length : Int) i) F.length (okF F) _ _ (fun hall => ?_) (fun i hi hp r hr => ?_) (fun i hi hp => ?_)
  · have hO := okr_of hg hl hall
    have hr := impl_run hO n.toNat (by omega) n.toNat 0 (by omega) (List.replicate L.length []) (JI_start hO)
    rw [show ((n.toNat : Nat) : Int) = n by omega] at hr
    have e1 : ¬ ((F.length : Int) < (F.length : Int)) := by omega
    have e2 : (0 : Int) ≤ (L.length : Int) := by omega
    have e3 : L.length ≤ 35184372088832 := by omega
    have e4 : L.length ≤ 11728124029610 := by omega
    refine Ev.back 1 0 (fun k _ => ?_) hr
    simp only [impl_play.l0, e1, if_false, e2, if_true, toNat_i, e3, e4]
    rfl
  · have hp' := hp
    simp only [okF] at hp'
    have e1 : (i : Int) < (F.length : Int) := by omega
    have e2 : (0 : Int) ≤ (i : Int) := by omega
    refine Ev.back 1 0 (fun k _ => ?_) hr
    simp only [impl_play.l0, e1, e2, if_true, between_eq, Option.bind_some, hp', wrap_succ i (by omega)]
  · have hp' := hp
    simp only [okF] at hp'
    have e1 : (i : Int) < (F.length : Int) := by omega
    have e2 : (0 : Int) ≤ (i : Int) := by omega
    refine Ev.at 1 0 (fun k _ => ?_)
    simp only [impl_play.l0, e1, e2, if_true, between_eq, Option.bind_some, hp', Bool.false_eq_true, if_false]
theorem answer_length (L : List S62) (F : List Int) (n : Int) (hg : goodChores L = true) (hl : F.length = L.length) (h0 : 0 ≤ n) (h1 : n ≤ 2000) : (answer L F n).1.length ≤ 2000 ∧ (answer L F n).2.1.length ≤ 6 := by
  unfold answer
  split
  · rename_i h
    have hO := okr_of hg hl (range_all.mp h)
    have hI := Inv_run (u := U) hO n.toNat
    have h2 := hI.lo
    have h3 := hI.lw
    have h4 := hO.n6
    simp only
    omega
  · simp
theorem play_both (L : List S62) (F : List Int) (n : Int) (hL : L.length ≤ 1048576) (hF : F.length ≤ 1048576) : ∃ (G : List S59) (H : List Int) (b : Bool), G.length ≤ 2000 ∧ H.length ≤ 6 ∧
    Ev (fun k => spec_RunRanked.f k L F n) (G, H, b) ∧ Ev (fun k => impl_RunRanked.f k L F n) (G, H, b) ∧ (b = true → goodChores L = true ∧ F.length = L.length ∧ 0 ≤ n ∧ n ≤ 2000 ∧ (∀ i : Nat, i < F.length → okF F i = true) ∧ G = (run U L F n.toNat).o ∧ H = (run U L F n.toNat).w) := by
  obtain ⟨K2, h2⟩ := spec_chores L (by omega)
  obtain ⟨K3, h3⟩ := impl_chores L (by omega)
  by_cases hg : goodChores L = true
  · by_cases hl : F.length = L.length
    · have hl' : (F.length : Int) = (L.length : Int) := by omega
      by_cases hn : 0 ≤ n ∧ n ≤ 2000
      · obtain ⟨K4, h4⟩ := spec_answer L F n hg hl hn.1 hn.2
        obtain ⟨K5, h5⟩ := impl_answer L F n hg hl hn.1 hn.2
        have hal := answer_length L F n hg hl hn.1 hn.2
        refine ⟨(answer L F n).1, (answer L F n).2.1, (answer L F n).2.2, hal.1, hal.2, ⟨K2 + K4 + 1, fun k hk => ?_⟩, ⟨K3 + K5 + 1, fun k hk => ?_⟩, fun hb => ?_⟩
        · obtain ⟨m, rfl⟩ : ∃ m, k = m + 1 := ⟨k - 1, by omega⟩
          have h2' := h2 (m + 1) (by omega)
          have h4' := h4 m (by omega)
          simp only [hg] at h2'
          simp only [hU] at h4'
          have e1 : ¬ n < 0 := by omega
          have e2 : ¬ n > 2000 := by omega
          simp only [spec_RunRanked.f, spec_l25Run.f, spec_l25Run.j0, h2', Option.bind_some, if_true, hl', e1, if_false, e2, decide_false, Bool.false_eq_true]
          rw [← hl', h4']
          rfl
        · obtain ⟨m, rfl⟩ : ∃ m, k = m + 1 := ⟨k - 1, by omega⟩
          have h3' := h3 (m + 1) (by omega)
          have h5' := h5 m (by omega)
          simp only [hg] at h3'
          simp only at h5'
          have e1 : decide (0 ≤ n ∧ n ≤ 2000) = true := decide_eq_true hn
          simp only [impl_RunRanked.f, impl_play.f, impl_play.j0, h3', Option.bind_some, if_true, hl', between_eq, e1, Bool.not_true, Bool.false_eq_true, if_false]
          rw [← hl', h5']
          rfl
        · unfold answer at hb ⊢
          by_cases ha : (List.range F.length).all (okF F) = true
          · rw [if_pos ha]
            exact ⟨hg, hl, hn.1, hn.2, range_all.mp ha, rfl, rfl⟩
          · rw [if_neg ha] at hb
            exact absurd hb (by simp)
      · refine ⟨[], [], false, by simp, by simp, ⟨K2 + 1, fun k hk => ?_⟩, ⟨K3 + 1, fun k hk => ?_⟩, fun hb => absurd hb (by simp)⟩
        · obtain ⟨m, rfl⟩ : ∃ m, k = m + 1 := ⟨k - 1, by omega⟩
          have h2' := h2 (m + 1) (by omega)
          simp only [hg] at h2'
          by_cases e1 : n < 0
          · simp only [spec_RunRanked.f, spec_l25Run.f, spec_l25Run.j0, h2', Option.bind_some, if_true, hl', e1]
          · have e2 : n > 2000 := by omega
            simp only [spec_RunRanked.f, spec_l25Run.f, spec_l25Run.j0, h2', Option.bind_some, if_true, hl', e1, if_false, e2, decide_true]
        · obtain ⟨m, rfl⟩ : ∃ m, k = m + 1 := ⟨k - 1, by omega⟩
          have h3' := h3 (m + 1) (by omega)
          simp only [hg] at h3'
          have e1 : decide (0 ≤ n ∧ n ≤ 2000) = false := decide_eq_false hn
          simp only [impl_RunRanked.f, impl_play.f, impl_play.j0, h3', Option.bind_some, if_true, hl', between_eq, e1, Bool.not_false]
    · have hl' : ¬ (F.length : Int) = (L.length : Int) := by omega
      refine ⟨[], [], false, by simp, by simp, ⟨K2 + 1, fun k hk => ?_⟩, ⟨K3 + 1, fun k hk => ?_⟩, fun hb => absurd hb (by simp)⟩
      · obtain ⟨m, rfl⟩ : ∃ m, k = m + 1 := ⟨k - 1, by omega⟩
        have h2' := h2 (m + 1) (by omega)
        simp only [hg] at h2'
        simp only [spec_RunRanked.f, spec_l25Run.f, spec_l25Run.j0, h2', Option.bind_some, if_true, hl', if_false]
      · obtain ⟨m, rfl⟩ : ∃ m, k = m + 1 := ⟨k - 1, by omega⟩
        have h3' := h3 (m + 1) (by omega)
        simp only [hg] at h3'
        simp only [impl_RunRanked.f, impl_play.f, impl_play.j0, h3', Option.bind_some, if_true, hl', if_false]
  · rw [Bool.not_eq_true] at hg
    refine ⟨[], [], false, by simp, by simp, ⟨K2 + 1, fun k hk => ?_⟩, ⟨K3 + 1, fun k hk => ?_⟩, fun hb => absurd hb (by simp)⟩
    · obtain ⟨m, rfl⟩ : ∃ m, k = m + 1 := ⟨k - 1, by omega⟩
      have h2' := h2 (m + 1) (by omega)
      simp only [hg] at h2'
      simp only [spec_RunRanked.f, spec_l25Run.f, spec_l25Run.j0, h2', Option.bind_some, Bool.false_eq_true, if_false, if_true]
    · obtain ⟨m, rfl⟩ : ∃ m, k = m + 1 := ⟨k - 1, by omega⟩
      have h3' := h3 (m + 1) (by omega)
      simp only [hg] at h3'
      simp only [impl_RunRanked.f, impl_play.f, impl_play.j0, h3', Option.bind_some, Bool.false_eq_true, if_false, if_true]
def rdc (l : List S62) (i : Nat) : S62 := rd_T62 l (i : Int)
/-- The work up to r of the m first chores beside one's own. -/
def sm (l : List S62) (need r : Int) : Nat → Int
  | 0 => need
  | m + 1 => wrap64 (sm l need r m + (wrap64 (((rd_T62 l (m : Int)).f1) * (wrap64 (Int.tdiv (wrap64 ((wrap64 (r + ((rd_T62 l (m : Int)).f0))) - 1)) ((rd_T62 l (m : Int)).f0))))))
/-- The first r that is its own work, from one on; -1 where none is. -/
def fnd (l : List S62) (need due : Int) (i : Nat) : Nat → Int → Int
  | 0, _ => -1
  | d + 1, r => if sm l need r i = r then r else fnd l need due i d (r + 1)
def ans (l : List S62) (i : Nat) : Int := fnd l (rd_T62 l (i : Int)).f1 (rd_T62 l (i : Int)).f2 i ((rd_T62 l (i : Int)).f2 + 1 - (rd_T62 l (i : Int)).f1).toNat (rd_T62 l (i : Int)).f1
theorem rd_take (l : List S62) (i m : Nat) (h : m < i) : rd_T62 (l.take i) (m : Int) = rd_T62 l (m : Int) := by
  simp [rd_T62, List.getElem?_take, h]
theorem impl_ans (l : List S62) (hn : l.length ≤ 6) (hg : ∀ i, i < l.length → okChore (rd_T62 l (i : Int)) = true) : Ev (fun k => impl_AnswerTimes.l0 k l [] l (l.length : Int) 0) ((List.range l.length).map (ans l), true) := by
  have hA : ∀ (i : Nat), i < l.length → ∀ (out : List Int) (f r : Int) (p need due : Int) (res : List Int × Bool),
      (sm l need r i = r → Ev (fun k => impl_AnswerTimes.l1 k l out (i : Int) r (wrap64 (r + 1)) l (l.length : Int) (i : Int) p need due) res) →
      (sm l need r i ≠ r → Ev (fun k => impl_AnswerTimes.l1 k l out (i : Int) f (wrap64 (r + 1)) l (l.length : Int) (i : Int) p need due) res) →
      Ev (fun k => impl_AnswerTimes.l2 k l out (i : Int) f r need l (l.length : Int) (i : Int) (l.take i) (((l.take i).length : Nat) : Int) 0 p need due) res := by
    intro i hi out f r p need due res h1 h2
    have hl : (l.take i).length = i := by rw [List.length_take]; omega
    rw [hl]
    have := run_loop (fun k m (s : Int) => impl_AnswerTimes.l2 k l out (i : Int) f r s l (l.length : Int) (i : Int) (l.take i) (i : Int) m p need due) i (fun m => sm l need r m) res
      (by
        have e1 : ¬ ((i : Int) < (i : Int)) := by omega
        by_cases hs : sm l need r i = r
        · refine Ev.back 1 0 (fun k _ => ?_) (h1 hs)
          simp only [impl_AnswerTimes.l2, e1, if_false, hs, if_true]
        · refine Ev.back 1 0 (fun k _ => ?_) (h2 hs)
          simp only [impl_AnswerTimes.l2, e1, if_false, hs])
      (fun m hm => ⟨0, fun k _ => by
        have e1 : (m : Int) < (i : Int) := by omega
        have e2 : (0 : Int) ≤ (m : Int) := by omega
        have e3 : (m : Int) < (((l.take i).length : Nat) : Int) := by omega
        have hc := hg m (by omega)
        simp only [okChore, decide_eq_true_eq] at hc
        have e4 : ¬ (rd_T62 l (m : Int)).f0 = 0 := by omega
        simp only [impl_AnswerTimes.l2, e1, e2, e3, if_true, rd_take l i m hm, e4, if_false, wrap_succ m (by omega), sm]⟩) 0 (Nat.zero_le _)
    exact this
  have hD : ∀ (i : Nat), i < l.length → ∀ (out : List Int), out.length ≤ 6 → ∀ (f r : Int) (p need due : Int) (res : List Int × Bool), (¬ r ≤ due ∨ ¬ f < 0) →
      Ev (fun k => impl_AnswerTimes.l0 k l (out ++ [f]) l (l.length : Int) ((i + 1 : Nat) : Int)) res →
      Ev (fun k => impl_AnswerTimes.l1 k l out (i : Int) f r l (l.length : Int) (i : Int) p need due) res := by
    intro i hi out hout f r p need due res hc h
    refine Ev.back 2 0 (fun k _ => ?_) h
    have e1 : out.length < 17592186044416 := by omega
    by_cases hr : r ≤ due
    · have hf : decide (f < 0) = false := by rw [decide_eq_false_iff_not]; omega
      simp only [impl_AnswerTimes.l1, impl_AnswerTimes.j2, hr, if_true, hf, Bool.false_eq_true, if_false, e1, wrap_succ i (by omega)]
    · simp only [impl_AnswerTimes.l1, impl_AnswerTimes.j2, hr, Bool.false_eq_true, if_false, e1, if_true, wrap_succ i (by omega)]
  have hB : ∀ (i : Nat), i < l.length → ∀ (out : List Int), out.length ≤ 6 → ∀ (p need due : Int) (res : List Int × Bool) (_ : due ≤ 60) (d : Nat) (r : Int), 0 ≤ r → d = (due + 1 - r).toNat →
      Ev (fun k => impl_AnswerTimes.l0 k l (out ++ [fnd l need due i d r]) l (l.length : Int) ((i + 1 : Nat) : Int)) res →
      Ev (fun k => impl_AnswerTimes.l1 k l out (i : Int) (-1) r l (l.length : Int) (i : Int) p need due) res := by
    intro i hi out hout p need due res hdue d
    induction d with
    | zero =>
      intro r h0 hr h
      exact hD i hi out hout (-1) r p need due res (.inl (by omega)) h
    | succ d ih =>
      intro r h0 hr h
      have e1 : r ≤ due := by omega
      have := hA i hi out (-1) r p need due res
        (fun hs => by
          simp only [fnd, hs, if_true] at h
          exact hD i hi out hout r (wrap64 (r + 1)) p need due res (.inr (by omega)) h)
        (fun hs => by
          rw [wrap_in (by omega) (by omega)]
          simp only [fnd, hs, if_false] at h
          exact ih (r + 1) (by omega) (by omega) h)
      refine Ev.back 2 0 (fun k _ => ?_) this
      have e2 : (0 : Int) ≤ (i : Int) := by omega
      have e3 : (i : Int) ≤ (l.length : Int) := by omega
      simp only [impl_AnswerTimes.l1, impl_AnswerTimes.j2, e1, if_true, show decide ((-1 : Int) < 0) = true from rfl, e2, e3, toNat_i, Option.bind_some]
  have := run_loop2 (fun k i (s : List Int) => impl_AnswerTimes.l0 k l s l (l.length : Int) i) l.length (fun i => (List.range i).map (ans l)) ((List.range l.length).map (ans l), true)
    (Ev.at 1 0 (fun k _ => by
      have e1 : ¬ ((l.length : Int) < (l.length : Int)) := by omega
      simp only [impl_AnswerTimes.l0, e1, if_false]))
    (fun i hi res hres => by
      have hc := hg i hi
      simp only [okChore, decide_eq_true_eq] at hc
      have e1 : (i : Int) < (l.length : Int) := by omega
      have e2 : (0 : Int) ≤ (i : Int) := by omega
      have := hB i hi ((List.range i).map (ans l)) (by simp; omega) (rd_T62 l (i : Int)).f0 (rd_T62 l (i : Int)).f1 (rd_T62 l (i : Int)).f2 res (by omega) _ (rd_T62 l (i : Int)).f1 (by omega) rfl (by
        rw [List.range_succ, List.map_append] at hres
        exact hres)
      refine Ev.back 1 0 (fun k _ => ?_) this
      simp only [impl_AnswerTimes.l0, e1, e2, if_true]) 0 (Nat.zero_le _)
  simpa using this
/-! ### The answer times: none takes longer -/
abbrev st (L : List S62) (F : List Int) (x : Nat) : RS := run U L F x
/-- What a tick does: nothing is there to do, or the first chore that is there has the tick. -/
theorem tick_cases {L : List S62} {F : List Int} (x : Nat) : ((∀ i : Nat, i < L.length → (x : Int) < cm L F (st L F x).d i) ∧ st L F (x + 1) = st L F x) ∨
    ∃ j, j < L.length ∧ cm L F (st L F x).d j ≤ (x : Int) ∧ (∀ i, i < j → (x : Int) < cm L F (st L F x).d i) ∧ st L F (x + 1) = fin L F (x : Int) (st L F x) j := by
  have e : st L F (x + 1) = stp U L F (x : Int) (st L F x) := rfl
  rw [e]
  unfold stp
  rcases pk_at U L F (st L F x).d (x : Int) L.length with ⟨h1, h2⟩ | ⟨j, hj, he, hc, hf⟩
  · exact .inl ⟨h2, by rw [if_pos (by omega)]⟩
  · refine .inr ⟨j, hj, hc, hf rfl, ?_⟩
    rw [he, if_neg (by simp only; omega)]
    simp only [toNat_i]
/-- The ticks that a chore has had. -/
def En (L : List S62) (F : List Int) (x i : Nat) : Int := rd (st L F x).d (i : Int) * (rd_T62 L (i : Int)).f1 + rd (st L F x).s (i : Int)
theorem fin_facts {L : List S62} {F : List Int} (hO : Okr L F) {x : Nat} (hI : Inv L F (x : Int) (st L F x)) (j : Nat) (hj : j < L.length) (i : Nat) (hi : i < L.length) :
    rd (fin L F (x : Int) (st L F x) j).d (i : Int) * (rd_T62 L (i : Int)).f1 + rd (fin L F (x : Int) (st L F x) j).s (i : Int) = En L F x i + (if j = i then 1 else 0) ∧
    rd (st L F x).d (i : Int) ≤ rd (fin L F (x : Int) (st L F x) j).d (i : Int) := by
  have hd := hI.ld
  have hs := hI.ls
  obtain ⟨s1, s2, s3⟩ := hI.sp i hi
  unfold fin En
  split
  · rename_i hn
    simp only
    rw [rd_set _ _ _ _ (by omega)]
    by_cases e : j = i
    · subst e
      simp only [if_true]
      constructor <;> omega
    · simp only [if_neg e]
      constructor <;> omega
  · rename_i hn
    simp only
    rw [rd_set _ _ _ _ (by omega), rd_set _ _ _ _ (by omega)]
    by_cases e : j = i
    · subst e
      simp only [if_true]
      rw [Int.add_mul, Int.one_mul]
      constructor <;> omega
    · simp only [if_neg e]
      constructor <;> omega
theorem En_tick {L : List S62} {F : List Int} (hO : Okr L F) (x i : Nat) (hi : i < L.length) : rd (st L F x).d (i : Int) ≤ rd (st L F (x + 1)).d (i : Int) ∧ En L F x i ≤ En L F (x + 1) i ∧ En L F (x + 1) i ≤ En L F x i + 1 := by
  rcases tick_cases (L := L) (F := F) x with ⟨_, h⟩ | ⟨j, hj, _, _, h⟩
  · unfold En
    rw [h]
    exact ⟨by omega, by omega, by omega⟩
  · have hf := fin_facts hO (Inv_run hO x) j hj i hi
    rw [← h] at hf
    refine ⟨hf.2, ?_, ?_⟩
    · have : En L F (x + 1) i = En L F x i + (if j = i then 1 else 0) := hf.1
      split at this <;> omega
    · have : En L F (x + 1) i = En L F x i + (if j = i then 1 else 0) := hf.1
      split at this <;> omega
theorem D_mono {L : List S62} {F : List Int} (hO : Okr L F) (i : Nat) (hi : i < L.length) (x : Nat) : ∀ d : Nat, rd (st L F x).d (i : Int) ≤ rd (st L F (x + d)).d (i : Int) := by
  intro d
  induction d with
  | zero => exact Int.le_refl _
  | succ d ih => exact Int.le_trans ih (En_tick hO (x + d) i hi).1
theorem cm_mono {L : List S62} {F : List Int} (hO : Okr L F) (i : Nat) (hi : i < L.length) (x y : Nat) (h : x ≤ y) : cm L F (st L F x).d i ≤ cm L F (st L F y).d i := by
  obtain ⟨d, rfl⟩ : ∃ d, y = x + d := ⟨y - x, by omega⟩
  have h1 := D_mono hO i hi x d
  have h2 := (hO.ch i hi).1
  unfold cm
  have := Int.mul_le_mul_of_nonneg_right h1 (show 0 ≤ (rd_T62 L (i : Int)).f0 by omega)
  omega
/-- The ticks of the m first chores. -/
def Vn (L : List S62) (F : List Int) (x : Nat) : Nat → Int
  | 0 => 0
  | m + 1 => Vn L F x m + En L F x m
theorem V_idle {L : List S62} {F : List Int} (x : Nat) (h : st L F (x + 1) = st L F x) : ∀ m, Vn L F (x + 1) m = Vn L F x m := by
  intro m
  induction m with
  | zero => rfl
  | succ m ih =>
    simp only [Vn, ih]
    unfold En
    rw [h]
theorem V_busy {L : List S62} {F : List Int} (hO : Okr L F) (x j : Nat) (hj : j < L.length) (h : st L F (x + 1) = fin L F (x : Int) (st L F x) j) : ∀ m, m ≤ L.length → Vn L F (x + 1) m = Vn L F x m + (if j < m then 1 else 0) := by
  intro m
  induction m with
  | zero => intro _; simp [Vn]
  | succ m ih =>
    intro hm
    have hf := (fin_facts hO (Inv_run hO x) j hj m (by omega)).1
    rw [← h] at hf
    have hf' : En L F (x + 1) m = En L F x m + (if j = m then 1 else 0) := hf
    simp only [Vn, ih (by omega), hf']
    by_cases e : j = m
    · rw [if_pos e, if_neg (by omega), if_pos (by omega)]
      omega
    · by_cases e2 : j < m
      · rw [if_neg e, if_pos e2, if_pos (by omega)]
        omega
      · rw [if_neg e, if_neg e2, if_neg (by omega)]
        omega
/-- What is asked of the m first chores within r ticks, beside one's own need. -/
def ms (L : List S62) (need r : Int) : Nat → Int
  | 0 => need
  | m + 1 => ms L need r m + (rd_T62 L (m : Int)).f1 * ((r + (rd_T62 L (m : Int)).f0 - 1) / (rd_T62 L (m : Int)).f0)
theorem ceil_facts (r p : Int) (hr : 1 ≤ r) (hr2 : r ≤ 60) (hp : 1 ≤ p) (hp2 : p ≤ 60) : 0 ≤ (r + p - 1) / p ∧ (r + p - 1) / p ≤ 119 ∧ r ≤ (r + p - 1) / p * p := by
  have h1 := Int.mul_ediv_add_emod (r + p - 1) p
  have h2 := Int.emod_nonneg (r + p - 1) (show p ≠ 0 by omega)
  have h3 := Int.emod_lt_of_pos (r + p - 1) (show 0 < p by omega)
  have h4 : 0 ≤ (r + p - 1) / p := Int.ediv_nonneg (by omega) (by omega)
  have h5 : (r + p - 1) / p ≤ r + p - 1 := Int.ediv_le_self _ (by omega)
  rw [Int.mul_comm] at h1
  exact ⟨h4, by omega, by omega⟩
theorem sm_ms {L : List S62} {F : List Int} (hO : Okr L F) (need r : Int) (hn : 1 ≤ need) (hn2 : need ≤ 60) (hr : 1 ≤ r) (hr2 : r ≤ 60) : ∀ m, m ≤ L.length → sm L need r m = ms L need r m ∧ 0 ≤ ms L need r m ∧ ms L need r m ≤ 60 + 7140 * m := by
  intro m
  induction m with
  | zero => intro _; exact ⟨rfl, by simp only [ms]; omega, by simp only [ms]; omega⟩
  | succ m ih =>
    intro hm
    obtain ⟨i1, i2, i3⟩ := ih (by omega)
    have h6 := hO.n6
    obtain ⟨p1, p2, q1, q2, _⟩ := hO.ch m (by omega)
    obtain ⟨c1, c2, c3⟩ := ceil_facts r (rd_T62 L (m : Int)).f0 hr hr2 p1 p2
    have hb : (rd_T62 L (m : Int)).f1 * ((r + (rd_T62 L (m : Int)).f0 - 1) / (rd_T62 L (m : Int)).f0) ≤ 60 * 119 := Int.mul_le_mul (by omega) c2 c1 (by omega)
    have hb0 : 0 ≤ (rd_T62 L (m : Int)).f1 * ((r + (rd_T62 L (m : Int)).f0 - 1) / (rd_T62 L (m : Int)).f0) := Int.mul_nonneg (by omega) c1
    have w1 : wrap64 (r + (rd_T62 L (m : Int)).f0) = r + (rd_T62 L (m : Int)).f0 := wrap_in (by omega) (by omega)
    have w2 : wrap64 (r + (rd_T62 L (m : Int)).f0 - 1) = r + (rd_T62 L (m : Int)).f0 - 1 := wrap_in (by omega) (by omega)
    have w3 : Int.tdiv (r + (rd_T62 L (m : Int)).f0 - 1) (rd_T62 L (m : Int)).f0 = (r + (rd_T62 L (m : Int)).f0 - 1) / (rd_T62 L (m : Int)).f0 := Int.tdiv_eq_ediv_of_nonneg (by omega)
    simp only [sm, ms, w1, w2, w3, i1]
    clear w1 w2 w3
    have v1 : wrap64 ((r + (rd_T62 L (m : Int)).f0 - 1) / (rd_T62 L (m : Int)).f0) = (r + (rd_T62 L (m : Int)).f0 - 1) / (rd_T62 L (m : Int)).f0 := wrap_in (by omega) (by omega)
    have v2 : wrap64 ((rd_T62 L (m : Int)).f1 * ((r + (rd_T62 L (m : Int)).f0 - 1) / (rd_T62 L (m : Int)).f0)) = (rd_T62 L (m : Int)).f1 * ((r + (rd_T62 L (m : Int)).f0 - 1) / (rd_T62 L (m : Int)).f0) := wrap_in (by omega) (by omega)
    rw [v1, v2]
    clear v1 v2
    generalize (rd_T62 L (m : Int)).f1 * ((r + (rd_T62 L (m : Int)).f0 - 1) / (rd_T62 L (m : Int)).f0) = z at *
    exact ⟨wrap_in (by omega) (by omega), by omega, by omega⟩
theorem fnd_at (L : List S62) (need due : Int) (i : Nat) : ∀ (d : Nat) (r : Int), fnd L need due i d r = -1 ∨ (sm L need (fnd L need due i d r) i = fnd L need due i d r ∧ r ≤ fnd L need due i d r ∧ fnd L need due i d r < r + d) := by
  intro d
  induction d with
  | zero => exact fun r => .inl rfl
  | succ d ih =>
    intro r
    simp only [fnd]
    by_cases h : sm L need r i = r
    · rw [if_pos h]
      exact .inr ⟨h, by omega, by omega⟩
    · rw [if_neg h]
      rcases ih (r + 1) with h1 | ⟨h1, h2, h3⟩
      · exact .inl h1
      · exact .inr ⟨h1, by omega, by omega⟩
theorem ans_at {L : List S62} {F : List Int} (hO : Okr L F) (i : Nat) (hi : i < L.length) : ans L i = -1 ∨ (ms L (rd_T62 L (i : Int)).f1 (ans L i) i = ans L i ∧ (rd_T62 L (i : Int)).f1 ≤ ans L i ∧ ans L i ≤ (rd_T62 L (i : Int)).f2) := by
  obtain ⟨p1, p2, q1, q2, q3, q4⟩ := hO.ch i hi
  rcases fnd_at L (rd_T62 L (i : Int)).f1 (rd_T62 L (i : Int)).f2 i ((rd_T62 L (i : Int)).f2 + 1 - (rd_T62 L (i : Int)).f1).toNat (rd_T62 L (i : Int)).f1 with h | ⟨h1, h2, h3⟩
  · exact .inl h
  · have e : fnd L (rd_T62 L (i : Int)).f1 (rd_T62 L (i : Int)).f2 i ((rd_T62 L (i : Int)).f2 + 1 - (rd_T62 L (i : Int)).f1).toNat (rd_T62 L (i : Int)).f1 = ans L i := rfl
    rw [e] at h1 h2 h3
    rw [(sm_ms hO (rd_T62 L (i : Int)).f1 (ans L i) (by omega) (by omega) (by omega) (by omega) i (by omega)).1] at h1
    exact .inr ⟨h1, h2, by omega⟩
/-- A window that begins where nothing of chore o waits holds no more of it than its arrivals within. -/
theorem window {L : List S62} {F : List Int} (hO : Okr L F) (o : Nat) (ho : o < L.length) (s r : Nat) (hr : 1 ≤ r) (hr2 : r ≤ 60) (hq : (s : Int) ≤ cm L F (st L F s).d o) :
    En L F (s + r) o ≤ En L F s o + (rd_T62 L (o : Int)).f1 * (((r : Int) + (rd_T62 L (o : Int)).f0 - 1) / (rd_T62 L (o : Int)).f0) := by
  obtain ⟨p1, p2, q1, q2, _⟩ := hO.ch o ho
  obtain ⟨c1, c2, c3⟩ := ceil_facts (r : Int) (rd_T62 L (o : Int)).f0 (by omega) (by omega) p1 p2
  obtain ⟨d1, d2, d3⟩ := (Inv_run (u := U) hO s).dn o ho
  obtain ⟨s1, s2, s3⟩ := (Inv_run (u := U) hO s).sp o ho
  obtain ⟨d4, d5, d6⟩ := (Inv_run (u := U) hO (s + r)).dn o ho
  obtain ⟨s4, s5, s6⟩ := (Inv_run (u := U) hO (s + r)).sp o ho
  unfold En
  generalize ((r : Int) + (rd_T62 L (o : Int)).f0 - 1) / (rd_T62 L (o : Int)).f0 = m at *
  unfold cm at hq d3 s3 d6 s6
  generalize rd (st L F s).d (o : Int) = a at *
  generalize rd (st L F (s + r)).d (o : Int) = b at *
  generalize (rd_T62 L (o : Int)).f0 = P at *
  generalize (rd_T62 L (o : Int)).f1 = N at *
  generalize rd F (o : Int) = f at *
  change 0 ≤ rd (st L F s).s (o : Int) at s1
  change 0 ≤ rd (st L F (s + r)).s (o : Int) at s4
  change rd (st L F (s + r)).s (o : Int) < N at s5
  change rd (st L F (s + r)).s (o : Int) = 0 ∨ _ at s6
  generalize rd (st L F s).s (o : Int) = x at *
  generalize rd (st L F (s + r)).s (o : Int) = y at *
  have hbm : b ≤ a + m := by
    by_cases h : b ≤ a + m
    · exact h
    · exfalso
      have := Int.mul_le_mul_of_nonneg_right (show a + m + 1 ≤ b by omega) (show 0 ≤ P by omega)
      rw [Int.add_mul, Int.add_mul, Int.one_mul] at this
      rcases d6 with d6 | d6
      · omega
      · omega
  by_cases e : b = a + m
  · subst e
    have : y = 0 := by
      rcases s6 with s6 | s6
      · exact s6
      · exfalso
        rw [Int.add_mul] at s6
        omega
    rw [Int.add_mul, Int.mul_comm N m]
    omega
  · have := Int.mul_le_mul_of_nonneg_right (show b + 1 ≤ a + m by omega) (show 0 ≤ N by omega)
    rw [Int.add_mul, Int.add_mul, Int.one_mul] at this
    rw [Int.mul_comm N m]
    omega
theorem V_window {L : List S62} {F : List Int} (hO : Okr L F) (need : Int) (s r : Nat) (hr : 1 ≤ r) (hr2 : r ≤ 60) : ∀ m, m ≤ L.length → (∀ o, o < m → (s : Int) ≤ cm L F (st L F s).d o) → Vn L F (s + r) m ≤ Vn L F s m + ms L need (r : Int) m - need := by
  intro m
  induction m with
  | zero => intro _ _; simp only [Vn, ms]; omega
  | succ m ih =>
    intro hm hq
    have h1 := ih (by omega) (fun o ho => hq o (by omega))
    have h2 := window hO m (by omega) s r hr hr2 (hq m (by omega))
    simp only [Vn, ms]
    omega
theorem last_quiet {L : List S62} {F : List Int} (hO : Okr L F) (i : Nat) (hi : i ≤ L.length) : ∀ c : Nat, ∃ s, s ≤ c ∧ (∀ o, o < i → (s : Int) ≤ cm L F (st L F s).d o) ∧ ∀ x, s < x → x ≤ c → ∃ o, o < i ∧ cm L F (st L F x).d o < (x : Int) := by
  intro c
  induction c with
  | zero =>
    refine ⟨0, Nat.le_refl _, fun o ho => ?_, fun x h1 h2 => by omega⟩
    exact (cm_range hO (Inv_run (u := U) hO 0) (by omega) o (by omega)).2.2.1
  | succ c ih =>
    by_cases h : ∀ o, o < i → ((c + 1 : Nat) : Int) ≤ cm L F (st L F (c + 1)).d o
    · exact ⟨c + 1, Nat.le_refl _, h, fun x h1 h2 => by omega⟩
    · obtain ⟨s, h1, h2, h3⟩ := ih
      refine ⟨s, by omega, h2, fun x h4 h5 => ?_⟩
      by_cases e : x = c + 1
      · subst e
        apply Classical.byContradiction
        intro hn
        refine h (fun o ho => ?_)
        by_cases hh : ((c + 1 : Nat) : Int) ≤ cm L F (st L F (c + 1)).d o
        · exact hh
        · exact absurd ⟨o, ho, by omega⟩ hn
      · exact h3 x h4 (by omega)
/-- A job is not yet done only where its answer time has not yet gone by. -/
theorem in_time {L : List S62} {F : List Int} (hO : Okr L F) (i : Nat) (hi : i < L.length) (hR : ans L i ≠ -1) : ∀ t : Nat, (t : Int) < cm L F (st L F t).d i + ans L i := by
  obtain ⟨a1, a2, a3⟩ := (ans_at hO i hi).resolve_left hR
  obtain ⟨p1, p2, q1, q2, q3, q4⟩ := hO.ch i hi
  obtain ⟨f1, f2⟩ := hO.fr i hi
  intro t
  induction t using Nat.strongRecOn with
  | _ t ih =>
    apply Classical.byContradiction
    intro hn
    obtain ⟨_, _, r3, r4⟩ := cm_range hO (Inv_run (u := U) hO t) (by omega) i hi
    change 0 ≤ cm L F (st L F t).d i at r3
    obtain ⟨c, hc⟩ : ∃ c : Nat, cm L F (st L F t).d i = (c : Int) := ⟨(cm L F (st L F t).d i).toNat, by omega⟩
    obtain ⟨R, hRe⟩ : ∃ R : Nat, ans L i = (R : Int) := ⟨(ans L i).toNat, by omega⟩
    rw [hRe] at a1 a2 a3 ih hn
    rw [hc] at hn
    -- the job's chore has done as many at its arrival
    have hic := ih c (by omega)
    have hmc := D_mono hO i hi c (t - c)
    rw [show c + (t - c) = t by omega] at hmc
    have hDc : rd (st L F c).d (i : Int) = rd (st L F t).d (i : Int) := by
      by_cases h : rd (st L F c).d (i : Int) = rd (st L F t).d (i : Int)
      · exact h
      · exfalso
        have := Int.mul_le_mul_of_nonneg_right (show rd (st L F c).d (i : Int) + 1 ≤ rd (st L F t).d (i : Int) by omega) (show 0 ≤ (rd_T62 L (i : Int)).f0 by omega)
        rw [Int.add_mul, Int.one_mul] at this
        unfold cm at hic hc
        omega
    have hDx : ∀ x, c ≤ x → x ≤ t → rd (st L F x).d (i : Int) = rd (st L F t).d (i : Int) := by
      intro x h1 h2
      have h3 := D_mono hO i hi c (x - c)
      have h4 := D_mono hO i hi x (t - x)
      rw [show c + (x - c) = x by omega] at h3
      rw [show x + (t - x) = t by omega] at h4
      omega
    have hcx : ∀ x, c ≤ x → x ≤ t → cm L F (st L F x).d i = (c : Int) := by
      intro x h1 h2
      rw [← hc]
      unfold cm
      rw [hDx x h1 h2]
    obtain ⟨s, hs1, hs2, hs3⟩ := last_quiet hO i (by omega) c
    -- ahead of the arrival
    have hV1 : ∀ d : Nat, s + d ≤ c → Vn L F (s + d) i = Vn L F s i + d := by
      intro d
      induction d with
      | zero => intro _; simp
      | succ d ihd =>
        intro hd
        have h1 := ihd (by omega)
        obtain ⟨o, ho, hco⟩ := hs3 (s + d + 1) (by omega) (by omega)
        have hmo := cm_mono hO o (by omega) (s + d) (s + d + 1) (by omega)
        rcases tick_cases (L := L) (F := F) (s + d) with ⟨h2, _⟩ | ⟨j, hj, _, hjm, h2⟩
        · have := h2 o (by omega)
          omega
        · have hjo : j ≤ o := by
            by_cases h : j ≤ o
            · exact h
            · have := hjm o (by omega)
              omega
          have h3 := V_busy hO (s + d) j hj h2 i (by omega)
          rw [if_pos (by omega)] at h3
          rw [show s + (d + 1) = s + d + 1 by omega, h3, h1]
          omega
    -- from the arrival on
    have hV2 : ∀ d : Nat, c + d ≤ t → Vn L F (c + d) i + En L F (c + d) i = Vn L F c i + En L F c i + d := by
      intro d
      induction d with
      | zero => intro _; simp
      | succ d ihd =>
        intro hd
        have h1 := ihd (by omega)
        have hci := hcx (c + d) (by omega) (by omega)
        rcases tick_cases (L := L) (F := F) (c + d) with ⟨h2, _⟩ | ⟨j, hj, _, hjm, h2⟩
        · have := h2 i hi
          omega
        · have hjo : j ≤ i := by
            by_cases h : j ≤ i
            · exact h
            · have := hjm i (by omega)
              omega
          have h3 := V_busy hO (c + d) j hj h2 i (by omega)
          have h4 := (fin_facts hO (Inv_run hO (c + d)) j hj i hi).1
          rw [← h2] at h4
          have h4' : En L F (c + d + 1) i = En L F (c + d) i + (if j = i then 1 else 0) := h4
          rw [show c + (d + 1) = c + d + 1 by omega, h3, h4']
          by_cases e : j = i
          · rw [if_pos e, if_neg (by omega)]
            omega
          · rw [if_neg e, if_pos (by omega)]
            omega
    have hw := V_window hO (rd_T62 L (i : Int)).f1 s R (by omega) (by omega) i (by omega) hs2
    rw [a1] at hw
    by_cases hec : s + R ≤ c
    · have := hV1 R hec
      omega
    · have h1 := hV1 (c - s) (by omega)
      rw [show s + (c - s) = c by omega] at h1
      have h2 := hV2 (s + R - c) (by omega)
      rw [show c + (s + R - c) = s + R by omega] at h2
      have h3 : En L F (s + R) i ≤ En L F c i + (rd_T62 L (i : Int)).f1 - 1 := by
        obtain ⟨s1, s2, _⟩ := (Inv_run (u := U) hO (s + R)).sp i hi
        obtain ⟨s3, s4, _⟩ := (Inv_run (u := U) hO c).sp i hi
        have e1 := hDx (s + R) (by omega) (by omega)
        unfold En
        rw [e1, hDc]
        change rd (st L F (s + R)).s (i : Int) < _ at s2
        change 0 ≤ rd (st L F c).s (i : Int) at s3
        omega
      omega
theorem worst_ok {L : List S62} {F : List Int} (hO : Okr L F) (i : Nat) (hi : i < L.length) (hR : ans L i ≠ -1) : ∀ x : Nat, rd (st L F x).w (i : Int) ≤ ans L i := by
  obtain ⟨a1, a2, a3⟩ := (ans_at hO i hi).resolve_left hR
  obtain ⟨p1, p2, q1, q2, q3, q4⟩ := hO.ch i hi
  intro x
  induction x with
  | zero =>
    show rd (List.replicate L.length 0) (i : Int) ≤ _
    rw [rd_rep _ _ hi]
    omega
  | succ x ih =>
    rcases tick_cases (L := L) (F := F) x with ⟨_, h⟩ | ⟨j, hj, hc, _, h⟩
    · rw [h]
      exact ih
    · have hlw := (Inv_run (u := U) hO x).lw
      change (st L F x).w.length = _ at hlw
      rw [h]
      unfold fin
      split
      · exact ih
      · simp only
        rw [rd_set _ _ _ _ (by omega)]
        by_cases e : j = i
        · subst e
          rw [if_pos rfl]
          have := in_time hO j hj hR x
          unfold mx
          split <;> omega
        · rw [if_neg e]
          exact ih
/-! ### The slices: no tick in common, no tick idle while there is a job -/
def Gok (L : List S62) (g : List Int) : Prop := g.length = L.length ∧ ∀ i : Nat, i < L.length → 0 ≤ rd g (i : Int) ∧ rd g (i : Int) ≤ 2000
/-- When the next job of chore i comes, of which g ticks are done. -/
def nxt (L : List S62) (F g : List Int) (i : Nat) : Int := rd F (i : Int) + rd g (i : Int) / (rd_T62 L (i : Int)).f1 * (rd_T62 L (i : Int)).f0
def SlOk (L : List S62) (F : List Int) (T t : Int) (g : List Int) (x : S59) (j : Nat) : Prop :=
  t ≤ x.f0 ∧ x.f0 < x.f1 ∧ x.f1 ≤ T ∧ x.f2 = (j : Int) ∧ j < L.length ∧ rd g (j : Int) + (x.f1 - x.f0) ≤ 2000 ∧
  (∀ y : Int, x.f0 ≤ y → y < x.f1 → rd F (j : Int) + (rd g (j : Int) + (y - x.f0)) / (rd_T62 L (j : Int)).f1 * (rd_T62 L (j : Int)).f0 ≤ y) ∧
  (∀ y : Int, t ≤ y → y < x.f0 → ∀ i : Nat, i < L.length → y < nxt L F g i)
inductive Ch (L : List S62) (F : List Int) (T : Int) : List S59 → Int → List Int → Prop where
  | nil : Ch L F T [] 0 (List.replicate L.length 0)
  | snoc {o : List S59} {t : Int} {g : List Int} (h : Ch L F T o t g) (x : S59) (j : Nat) (hx : SlOk L F T t g x j) : Ch L F T (o ++ [x]) x.f1 (g.set j (rd g (j : Int) + (x.f1 - x.f0)))
theorem Ch_ok {L : List S62} {F : List Int} {T t : Int} {o : List S59} {g : List Int} (h : Ch L F T o t g) : Gok L g ∧ 0 ≤ t := by
  induction h with
  | nil => exact ⟨⟨List.length_replicate, fun i hi => by rw [rd_rep _ _ hi]; omega⟩, by omega⟩
  | snoc h x j hx ih =>
    obtain ⟨⟨g1, g2⟩, g3⟩ := ih
    obtain ⟨x1, x2, x3, x4, x5, x6, _, _⟩ := hx
    refine ⟨⟨by rw [List.length_set]; exact g1, fun i hi => ?_⟩, by omega⟩
    rw [rd_set _ _ _ _ (by omega)]
    have := g2 i hi
    have := g2 j x5
    split <;> omega
theorem nxt_wrap {L : List S62} {F : List Int} (hO : Okr L F) (i : Nat) (hi : i < L.length) (z : Int) (h0 : 0 ≤ z) (h1 : z ≤ 2000) :
    wrap64 (rd F (i : Int) + wrap64 (wrap64 (Int.tdiv z (rd_T62 L (i : Int)).f1) * (rd_T62 L (i : Int)).f0)) = rd F (i : Int) + z / (rd_T62 L (i : Int)).f1 * (rd_T62 L (i : Int)).f0 := by
  obtain ⟨p1, p2, q1, q2, _⟩ := hO.ch i hi
  obtain ⟨f1, f2⟩ := hO.fr i hi
  have e1 : 0 ≤ z / (rd_T62 L (i : Int)).f1 := Int.ediv_nonneg h0 (by omega)
  have e2 : z / (rd_T62 L (i : Int)).f1 ≤ z := Int.ediv_le_self _ h0
  have e3 : 0 ≤ z / (rd_T62 L (i : Int)).f1 * (rd_T62 L (i : Int)).f0 := Int.mul_nonneg e1 (by omega)
  have e4 : z / (rd_T62 L (i : Int)).f1 * (rd_T62 L (i : Int)).f0 ≤ 2000 * 60 := Int.mul_le_mul (by omega) p2 (by omega) (by omega)
  rw [Int.tdiv_eq_ediv_of_nonneg h0]
  generalize z / (rd_T62 L (i : Int)).f1 = q at *
  rw [wrap_in (n := q) (by omega) (by omega), wrap_in (n := q * (rd_T62 L (i : Int)).f0) (by omega) (by omega)]
  exact wrap_in (by omega) (by omega)
theorem waits_no {L : List S62} {F g : List Int} (hO : Okr L F) (hg : Gok L g) (y : Int) (h : ∀ i : Nat, i < L.length → y < nxt L F g i) : Ev (fun k => spec_l30Waits.f k L F g y) false := by
  have := run_loop (fun k i (_ : Unit) => spec_l30Waits.l0 k F g y L (L.length : Int) i) L.length (fun _ => ()) false
    (Ev.at 1 0 (fun k _ => by
      have e1 : ¬ ((L.length : Int) < (L.length : Int)) := by omega
      simp only [spec_l30Waits.l0, e1, if_false]))
    (fun i hi => ⟨0, fun k _ => by
      have hn6 := hO.n6
      have hlf := hO.lf
      have hgl := hg.1
      obtain ⟨p1, p2, q1, q2, _⟩ := hO.ch i hi
      have e1 : (i : Int) < (L.length : Int) := by omega
      have e2 : (0 : Int) ≤ (i : Int) := by omega
      have e3 : (i : Int) < (F.length : Int) := by omega
      have e4 : (i : Int) < (g.length : Int) := by omega
      have e5 : ¬ (rd_T62 L (i : Int)).f1 = 0 := by omega
      have e6 : ¬ (rd F (i : Int) + rd g (i : Int) / (rd_T62 L (i : Int)).f1 * (rd_T62 L (i : Int)).f0 ≤ y) := by
        have := h i hi
        unfold nxt at this
        omega
      simp only [spec_l30Waits.l0, e1, e2, e3, e4, e5, if_true, if_false, nxt_wrap hO i hi _ (hg.2 i hi).1 (hg.2 i hi).2, e6, wrap_succ i (by omega)]⟩) 0 (Nat.zero_le _)
  exact this
theorem fine_idle {L : List S62} {F g : List Int} (hO : Okr L F) (hg : Gok L g) (T : Int) (O : List S59) (n i a b c : Int) (hb : a ≤ 2000) (res : Bool) (h : Ev (fun k => spec_SlicesFine.l2 k L F T g a O n i a b c) res) :
    ∀ (d : Nat) (t : Int), t + d = a → 0 ≤ t → (∀ y : Int, t ≤ y → y < a → ∀ i : Nat, i < L.length → y < nxt L F g i) → Ev (fun k => spec_SlicesFine.l1 k L F T g t O n i a b c) res := by
  intro d
  induction d with
  | zero =>
    intro t ht _ _
    obtain rfl : t = a := by omega
    refine Ev.back 1 0 (fun k _ => ?_) h
    have e1 : ¬ (t < t) := by omega
    simp only [spec_SlicesFine.l1, e1, if_false]
  | succ d ih =>
    intro t ht h0 hi
    obtain ⟨K1, h1⟩ := ih (t + 1) (by omega) (by omega) (fun y h1 h2 => hi y (by omega) h2)
    obtain ⟨K2, h2⟩ := waits_no hO hg t (hi t (by omega) (by omega))
    refine ⟨K1 + K2 + 1, fun k hk => ?_⟩
    obtain ⟨m, rfl⟩ : ∃ m, k = m + 1 := ⟨k - 1, by omega⟩
    have h1' := h1 m (by omega)
    have h2' := h2 m (by omega)
    have e1 : t < a := by omega
    simp only at h1' h2'
    simp only [spec_SlicesFine.l1, e1, if_true, h2', Option.bind_some, Bool.false_eq_true, if_false, wrap_in (n := t + 1) (by omega) (by omega), h1']
theorem fine_busy {L : List S62} {F : List Int} (hO : Okr L F) (T : Int) (O : List S59) (n i a b : Int) (j : Nat) (hj : j < L.length) (hb : b ≤ 2000) (ha : 0 ≤ a) (g : List Int) (hg : Gok L g) (hgb : rd g (j : Int) + (b - a) ≤ 2000)
    (hok : ∀ y : Int, a ≤ y → y < b → rd F (j : Int) + (rd g (j : Int) + (y - a)) / (rd_T62 L (j : Int)).f1 * (rd_T62 L (j : Int)).f0 ≤ y) (res : Bool)
    (h : Ev (fun k => spec_SlicesFine.l0 k L F T (g.set j (rd g (j : Int) + (b - a))) b O n (wrap64 (i + 1))) res) :
    ∀ (d : Nat) (t : Int), t + d = b → a ≤ t → Ev (fun k => spec_SlicesFine.l2 k L F T (g.set j (rd g (j : Int) + (t - a))) t O n i a b (j : Int)) res := by
  intro d
  induction d with
  | zero =>
    intro t ht _
    obtain rfl : t = b := by omega
    refine Ev.back 1 0 (fun k _ => ?_) h
    have e1 : ¬ (t < t) := by omega
    simp only [spec_SlicesFine.l2, e1, if_false]
  | succ d ih =>
    intro t ht h0
    have h1 := ih (t + 1) (by omega) (by omega)
    refine Ev.back 1 0 (fun k _ => ?_) h1
    have hgl := hg.1
    have hlf := hO.lf
    obtain ⟨g1, g2⟩ := hg.2 j hj
    obtain ⟨p1, p2, q1, q2, _⟩ := hO.ch j hj
    have e1 : t < b := by omega
    have e2 : (0 : Int) ≤ (j : Int) := by omega
    have e3 : (j : Int) < (F.length : Int) := by omega
    have e4 : (j : Int) < ((g.set j (rd g (j : Int) + (t - a))).length : Int) := by rw [List.length_set]; omega
    have e5 : (j : Int) < (L.length : Int) := by omega
    have e6 : ¬ (rd_T62 L (j : Int)).f1 = 0 := by omega
    have e7 : rd (g.set j (rd g (j : Int) + (t - a))) (j : Int) = rd g (j : Int) + (t - a) := by rw [rd_set _ _ _ _ (by omega), if_pos rfl]
    have e8 : ¬ (rd F (j : Int) + (rd g (j : Int) + (t - a)) / (rd_T62 L (j : Int)).f1 * (rd_T62 L (j : Int)).f0 > t) := by
      have := hok t h0 e1
      omega
    have e9 : rd g (j : Int) + (t - a) + 1 = rd g (j : Int) + (t + 1 - a) := by omega
    simp only [spec_SlicesFine.l2, e1, e2, e3, e4, e5, e6, if_true, if_false, e7, nxt_wrap hO j hj (rd g (j : Int) + (t - a)) (by omega) (by omega), e8, toNat_i, List.set_set, wrap_in (n := t + 1) (by omega) (by omega), e9, wrap_in (n := rd g (j : Int) + (t + 1 - a)) (by omega) (by omega)]
theorem rd59_app (o : List S59) (x : S59) (r : List S59) : rd_T59 (o ++ x :: r) (o.length : Int) = x := by
  unfold rd_T59
  simp [toNat_i]
theorem fine_chain {L : List S62} {F : List Int} (hO : Okr L F) {T : Int} (hT : T ≤ 2000) {o : List S59} {t : Int} {g : List Int} (h : Ch L F T o t g) : ∀ (r : List S59) (res : Bool), (o ++ r).length ≤ 3000 →
    Ev (fun k => spec_SlicesFine.l0 k L F T g t (o ++ r) ((o ++ r).length : Int) (o.length : Int)) res → Ev (fun k => spec_SlicesFine.l0 k L F T (List.replicate L.length 0) 0 (o ++ r) ((o ++ r).length : Int) 0) res := by
  induction h with
  | nil => exact fun r res _ he => he
  | snoc h x j hx ih =>
    rename_i o t g
    intro r res hlen he
    rw [List.append_assoc] at he hlen ⊢
    refine ih ([x] ++ r) res hlen ?_
    obtain ⟨hg, ht⟩ := Ch_ok h
    obtain ⟨x1, x2, x3, x4, x5, x6, x7, x8⟩ := hx
    have hlo : o.length < (o ++ ([x] ++ r)).length := by simp
    generalize hO' : (o ++ ([x] ++ r)) = O at *
    have hx0 : rd_T59 O (o.length : Int) = x := by rw [← hO']; exact rd59_app o x r
    have hstep := fine_busy hO T O (O.length : Int) (o.length : Int) x.f0 x.f1 j x5 (by omega) (by omega) g hg x6 x7 res (by
      rw [wrap_succ o.length (by omega)]
      rw [show ((o.length + 1 : Nat) : Int) = ((o ++ [x]).length : Int) by simp]
      exact he) (x.f1 - x.f0).toNat x.f0 (by omega) (by omega)
    have hgs : g.set j (rd g (j : Int) + (x.f0 - x.f0)) = g := by
      have hl := hg.1
      rw [show rd g (j : Int) + (x.f0 - x.f0) = rd g (j : Int) by omega, rd_get g j (by omega)]
      exact List.set_getElem_self (by omega)
    rw [hgs] at hstep
    have hidle := fine_idle hO hg T O (O.length : Int) (o.length : Int) x.f0 x.f1 (j : Int) (by omega) res hstep (x.f0 - t).toNat t (by omega) ht x8
    refine Ev.back 2 0 (fun k _ => ?_) hidle
    have e1 : (o.length : Int) < (O.length : Int) := by omega
    have e2 : (0 : Int) ≤ (o.length : Int) := by omega
    have e3 : ¬ x.f0 < t := by omega
    have e4 : ¬ x.f1 ≤ x.f0 := by omega
    have e5 : ¬ x.f1 > T := by omega
    have e6 : ¬ ((j : Int) < 0) := by omega
    have e7 : ¬ ((j : Int) ≥ (L.length : Int)) := by omega
    simp only [spec_SlicesFine.l0, spec_SlicesFine.j1, e1, e2, if_true, hx0, e3, e4, e5, if_false, x4, e6, e7, decide_false, Bool.false_eq_true]
theorem fine_end {L : List S62} {F g : List Int} (hO : Okr L F) (hg : Gok L g) (T : Int) (hT : T ≤ 2000) : ∀ (d : Nat) (t : Int), t + d = T → 0 ≤ t → (∀ y : Int, t ≤ y → y < T → ∀ i : Nat, i < L.length → y < nxt L F g i) → Ev (fun k => spec_SlicesFine.l3 k L F T g t) true := by
  intro d
  induction d with
  | zero =>
    intro t ht _ _
    obtain rfl : t = T := by omega
    refine Ev.at 1 0 (fun k _ => ?_)
    have e1 : ¬ (t < t) := by omega
    simp only [spec_SlicesFine.l3, e1, if_false]
  | succ d ih =>
    intro t ht h0 hi
    obtain ⟨K1, h1⟩ := ih (t + 1) (by omega) (by omega) (fun y h1 h2 => hi y (by omega) h2)
    obtain ⟨K2, h2⟩ := waits_no hO hg t (hi t (by omega) (by omega))
    refine ⟨K1 + K2 + 1, fun k hk => ?_⟩
    obtain ⟨m, rfl⟩ : ∃ m, k = m + 1 := ⟨k - 1, by omega⟩
    have h1' := h1 m (by omega)
    have h2' := h2 m (by omega)
    have e1 : t < T := by omega
    simp only at h1' h2'
    simp only [spec_SlicesFine.l3, e1, if_true, h2', Option.bind_some, Bool.false_eq_true, if_false, wrap_in (n := t + 1) (by omega) (by omega), h1']
/-- The ticks are those of the slices. -/
theorem En_div {L : List S62} {F : List Int} (hO : Okr L F) (x i : Nat) (hi : i < L.length) : En L F x i / (rd_T62 L (i : Int)).f1 = rd (st L F x).d (i : Int) := by
  obtain ⟨s1, s2, _⟩ := (Inv_run (u := U) hO x).sp i hi
  obtain ⟨p1, p2, q1, q2, _⟩ := hO.ch i hi
  unfold En
  rw [Int.add_comm, Int.add_mul_ediv_right _ _ (by omega), Int.ediv_eq_zero_of_lt s1 s2, Int.zero_add]
theorem En_range {L : List S62} {F : List Int} (hO : Okr L F) (i : Nat) (hi : i < L.length) : ∀ x : Nat, 0 ≤ En L F x i ∧ En L F x i ≤ x := by
  intro x
  induction x with
  | zero =>
    have e : En L F 0 i = 0 := by
      show rd (List.replicate L.length 0) (i : Int) * _ + rd (List.replicate L.length 0) (i : Int) = 0
      rw [rd_rep _ _ hi]
      simp
    omega
  | succ x ih =>
    have := En_tick hO x i hi
    omega
theorem En_nxt {L : List S62} {F g : List Int} (hO : Okr L F) (x i : Nat) (hi : i < L.length) (hg : rd g (i : Int) = En L F x i) : nxt L F g i = cm L F (st L F x).d i := by
  unfold nxt cm
  rw [hg, En_div hO x i hi]
theorem chain_run {L : List S62} {F : List Int} (hO : Okr L F) (T : Nat) (hT : T ≤ 2000) : ∀ x : Nat, x ≤ T → ∃ (t : Int) (g : List Int), Ch L F (T : Int) (st L F x).o t g ∧ t ≤ (x : Int) ∧ (∀ i : Nat, i < L.length → rd g (i : Int) = En L F x i) ∧
    (∀ y : Int, t ≤ y → y < (x : Int) → ∀ i : Nat, i < L.length → y < nxt L F g i) := by
  intro x
  induction x with
  | zero =>
    intro _
    refine ⟨0, List.replicate L.length 0, Ch.nil, by omega, fun i hi => ?_, fun y h1 h2 => by omega⟩
    have := En_range hO i hi 0
    rw [rd_rep _ _ hi]
    omega
  | succ x ih =>
    intro hx
    obtain ⟨t, g, hC, htx, hE, hI⟩ := ih (by omega)
    obtain ⟨hg, h0⟩ := Ch_ok hC
    rcases tick_cases (L := L) (F := F) x with ⟨h1, h2⟩ | ⟨j, hj, hc, hm, h2⟩
    · have hE' : ∀ i : Nat, i < L.length → rd g (i : Int) = En L F (x + 1) i := by
        intro i hi
        rw [hE i hi]
        unfold En
        rw [h2]
      refine ⟨t, g, by rw [h2]; exact hC, by omega, hE', fun y h3 h4 i hi => ?_⟩
      by_cases e : y = (x : Int)
      · rw [En_nxt hO x i hi (hE i hi), e]
        exact h1 i hi
      · exact hI y h3 (by omega) i hi
    · have hEj : ∀ i : Nat, i < L.length → En L F (x + 1) i = En L F x i + (if j = i then 1 else 0) := by
        intro i hi
        have hf := (fin_facts hO (Inv_run hO x) j hj i hi).1
        rw [← h2] at hf
        exact hf
      have ho : (st L F (x + 1)).o = put (st L F x).o (x : Int) (j : Int) := by
        rw [h2]
        unfold fin
        split <;> rfl
      have hcj : rd F (j : Int) + rd g (j : Int) / (rd_T62 L (j : Int)).f1 * (rd_T62 L (j : Int)).f0 ≤ (x : Int) := by
        have := En_nxt hO x j hj (hE j hj)
        unfold nxt at this
        omega
      have hRj := En_range hO j hj x
      have hgj := hE j hj
      have hgl := hg.1
      rw [ho]
      unfold put
      by_cases hp : 0 < (st L F x).o.length ∧ (rd_T59 (st L F x).o (((st L F x).o.length - 1 : Nat) : Int)).f2 = (j : Int) ∧ (rd_T59 (st L F x).o (((st L F x).o.length - 1 : Nat) : Int)).f1 = (x : Int)
      · rw [if_pos hp]
        obtain ⟨hp1, hp2, hp3⟩ := hp
        generalize (st L F x).o = O at *
        cases hC with
        | nil => simp at hp1
        | snoc hC0 y j0 hy =>
          rename_i o0 t0 g0
          have e0 : (o0 ++ [y]).length - 1 = o0.length := by simp
          have ey : rd_T59 (o0 ++ [y]) (o0.length : Int) = y := rd59_app o0 y []
          rw [e0, ey] at hp2 hp3
          rw [e0, ey]
          obtain ⟨y1, y2, y3, y4, y5, y6, y7, y8⟩ := hy
          obtain ⟨hg0, ht0⟩ := Ch_ok hC0
          have hg0l := hg0.1
          obtain rfl : j0 = j := by omega
          have hr : rd (g0.set j0 (rd g0 (j0 : Int) + (y.f1 - y.f0))) (j0 : Int) = rd g0 (j0 : Int) + (y.f1 - y.f0) := by rw [rd_set _ _ _ _ (by omega), if_pos rfl]
          rw [hr] at hcj hgj
          have es : (o0 ++ [y]).set o0.length ⟨y.f0, (x : Int) + 1, (j0 : Int)⟩ = o0 ++ [⟨y.f0, (x : Int) + 1, (j0 : Int)⟩] := by
            rw [List.set_append_right _ _ (Nat.le_refl _), Nat.sub_self, List.set_cons_zero]
          rw [es]
          refine ⟨(x : Int) + 1, g0.set j0 (rd g0 (j0 : Int) + ((x : Int) + 1 - y.f0)), Ch.snoc hC0 ⟨y.f0, (x : Int) + 1, (j0 : Int)⟩ j0 ⟨y1, by simp only; omega, by simp only; omega, rfl, y5, by simp only; omega, fun z h3 h4 => ?_, y8⟩, by omega, fun i hi => ?_, fun z h3 h4 => by omega⟩
          · simp only at h3 h4 ⊢
            by_cases e : z = (x : Int)
            · rw [e, ← hp3]
              rw [← hp3] at hcj
              exact hcj
            · exact y7 z h3 (by omega)
          · have hEi := hE i hi
            rw [rd_set _ _ _ _ (by omega)] at hEi ⊢
            rw [hEj i hi]
            by_cases e : j0 = i
            · subst e
              rw [if_pos rfl] at hEi ⊢
              rw [if_pos rfl]
              omega
            · rw [if_neg e] at hEi ⊢
              rw [if_neg e]
              omega
      · rw [if_neg hp]
        refine ⟨(x : Int) + 1, g.set j (rd g (j : Int) + ((x : Int) + 1 - (x : Int))), Ch.snoc hC ⟨(x : Int), (x : Int) + 1, (j : Int)⟩ j ⟨htx, by simp only; omega, by simp only; omega, rfl, hj, by simp only; omega, fun z h3 h4 => ?_, hI⟩, by omega, fun i hi => ?_, fun z h3 h4 => by omega⟩
        · simp only at h3 h4 ⊢
          obtain rfl : z = (x : Int) := by omega
          rw [Int.sub_self, Int.add_zero]
          exact hcj
        · rw [rd_set _ _ _ _ (by omega), hEj i hi]
          by_cases e : j = i
          · subst e
            rw [if_pos rfl, if_pos rfl]
            omega
          · rw [if_neg e, if_neg e, hE i hi]
            omega
theorem fine_run {L : List S62} {F : List Int} (hO : Okr L F) (T : Nat) (hT : T ≤ 2000) : Ev (fun k => spec_SlicesFine.f k L F (st L F T).o (T : Int)) true := by
  obtain ⟨t, g, hC, htx, hE, hI⟩ := chain_run hO T hT T (Nat.le_refl _)
  obtain ⟨hg, h0⟩ := Ch_ok hC
  have hlo := (Inv_run (u := U) hO T).lo
  change (((st L F T).o.length : Nat) : Int) ≤ (T : Int) at hlo
  have he := fine_end hO hg (T : Int) (by omega) (T - t).toNat t (by omega) h0 hI
  have hc := fine_chain hO (by omega) hC [] true (by rw [List.append_nil]; omega) (by
    refine Ev.back 1 0 (fun k _ => ?_) he
    rw [List.append_nil]
    have e1 : ¬ (((st L F T).o.length : Int) < ((st L F T).o.length : Int)) := by omega
    simp only [spec_SlicesFine.l0, e1, if_false])
  rw [List.append_nil] at hc
  have hn6 := hO.n6
  have e1 : (0 : Int) ≤ (L.length : Int) := by omega
  have e2 : L.length ≤ 35184372088832 := by omega
  refine Ev.congr (fun k => ?_) hc
  simp only [spec_SlicesFine.f, e1, if_true, toNat_i, e2]
theorem law_loop (L : List S62) (H : List Int) (hL : L.length ≤ 10) (hH : H.length = L.length) (h : ∀ i : Nat, i < L.length → ans L i ≥ 0 → rd H (i : Int) ≤ ans L i) :
    Ev (fun k => laws_FnRanked.l0 k H ((List.range L.length).map (ans L)) (((List.range L.length).map (ans L)).length : Int) 0) true := by
  have hl : ((List.range L.length).map (ans L)).length = L.length := by simp
  rw [hl]
  have := run_loop (fun k i (_ : Unit) => laws_FnRanked.l0 k H ((List.range L.length).map (ans L)) (L.length : Int) i) L.length (fun _ => ()) true
    (Ev.at 1 0 (fun k _ => by
      have e1 : ¬ ((L.length : Int) < (L.length : Int)) := by omega
      simp only [laws_FnRanked.l0, e1, if_false]))
    (fun i hi => ⟨0, fun k _ => by
      have e1 : (i : Int) < (L.length : Int) := by omega
      have e2 : (0 : Int) ≤ (i : Int) := by omega
      have e3 : (i : Int) < ((((List.range L.length).map (ans L)).length : Nat) : Int) := by omega
      have e4 : (i : Int) < (H.length : Int) := by omega
      have e5 : rd ((List.range L.length).map (ans L)) (i : Int) = ans L i := by
        rw [rd_get _ i (by omega)]
        simp
      by_cases c : ans L i ≥ 0
      · have e6 : ¬ (rd H (i : Int) > ans L i) := by
          have := h i hi c
          omega
        simp only [laws_FnRanked.l0, e1, e2, e3, e4, e5, if_true, c, e6, if_false, wrap_succ i (by omega)]
      · simp only [laws_FnRanked.l0, e1, e2, e3, e5, if_true, c, if_false, wrap_succ i (by omega)]⟩) 0 (Nat.zero_le _)
  exact this
theorem FnRanked : laws_FnRanked.Pure := by
  intro c hc0 hc1 hc2
  by_cases hn : (c.length : Int) > 1048576
  · exact ⟨0, by simp only [laws_FnRanked.f, hn, if_true]⟩
  have hc : Bytes c := fun x hx => by
    have := hc2 x hx
    simp only [Lit.wf, IntKind.min, IntKind.max, IntKind.signed, IntKind.bits, Bool.and_eq_true, decide_eq_true_eq, Bool.false_eq_true, if_false] at this
    omega
  obtain ⟨L, F, n, ⟨K1, h1⟩, hL, hF⟩ := draw_ok c hc
  obtain ⟨G, H, b, hG, hH, ⟨K2, h2⟩, ⟨K3, h3⟩, hb⟩ := play_both L F n (by omega) (by omega)
  cases b with
  | false =>
    refine ⟨K1 + K2 + K3, ?_⟩
    have h1' := h1 (K1 + K2 + K3) (by omega)
    have h2' := h2 (K1 + K2 + K3) (by omega)
    have h3' := h3 (K1 + K2 + K3) (by omega)
    simp only at h1' h2' h3'
    simp only [laws_FnRanked.f, hn, if_false, h1', h2', h3', Option.bind_some, bne_self_eq_false, Bool.false_eq_true]
  | true =>
    obtain ⟨hg, hl, n0, n1, hok, rfl, rfl⟩ := hb rfl
    have hO := okr_of hg hl hok
    have hg' := hg
    unfold goodChores at hg'
    rw [Bool.and_eq_true, range_all, decide_eq_true_eq] at hg'
    obtain ⟨K4, h4⟩ := fine_run hO n.toNat (by omega)
    rw [show ((n.toNat : Nat) : Int) = n by omega] at h4
    obtain ⟨K5, h5⟩ := impl_ans L hg'.1.2 hg'.2
    obtain ⟨K6, h6⟩ := impl_chores L (by omega)
    have hlw := (Inv_run (u := U) hO n.toNat).lw
    obtain ⟨K7, h7⟩ := law_loop L (run U L F n.toNat).w hL hlw (fun i hi ha => worst_ok hO i hi (by omega) n.toNat)
    refine ⟨K1 + K2 + K3 + K4 + K5 + K6 + K7 + 1, ?_⟩
    have h1' := h1 (K1 + K2 + K3 + K4 + K5 + K6 + K7 + 1) (by omega)
    have h2' := h2 (K1 + K2 + K3 + K4 + K5 + K6 + K7 + 1) (by omega)
    have h3' := h3 (K1 + K2 + K3 + K4 + K5 + K6 + K7 + 1) (by omega)
    have h4' := h4 (K1 + K2 + K3 + K4 + K5 + K6 + K7 + 1) (by omega)
    have h5' := h5 (K1 + K2 + K3 + K4 + K5 + K6 + K7) (by omega)
    have h6' := h6 (K1 + K2 + K3 + K4 + K5 + K6 + K7) (by omega)
    have h7' := h7 (K1 + K2 + K3 + K4 + K5 + K6 + K7) (by omega)
    have hlw' : ((run U L F n.toNat).w.length : Int) = (L.length : Int) := by omega
    have hla : ((((List.range L.length).map (ans L)).length : Nat) : Int) = (L.length : Int) := by simp
    change spec_SlicesFine.f _ L F (run U L F n.toNat).o n = some true at h4'
    simp only [hg] at h1' h2' h3' h5' h6' h7'
    simp only [laws_FnRanked.f, laws_FnRanked.j0, hn, if_false, h1', h2', h3', Option.bind_some, bne_self_eq_false, Bool.false_eq_true, if_true, hlw', h4', Bool.not_true, impl_AnswerTimes.f, h6', h5', hla]
    rw [hla] at h7'
    exact h7'

end Go.Proofs.Ytdbcoojibbboiaa.Pure
