/- For drawn bits, of which some are turned within 15 side by side: the sums differ; those of bits alike in number add up by exclusive or. No condition. -/
import Derived.Test.YtkigjidjbjbjlaaDoorQFnCrcx3
import Derived.Test.YtkigjidjbjbjlaaDoorPlain
namespace Go.Proofs.YtkigjidjbjbjlaaDoor.Pure
open Go.RowKit Go.Proofs.YtkigjidjbjbjlaaDoor.PFnCrc Go.Proofs.YtkigjidjbjbjlaaDoor.Plain Go.Proofs.YtkigjidjbjbjlaaDoorW.PrintWords Go.Proofs.YtkigjidjbjbjlaaDoorW.PrintLast
set_option linter.unusedVariables false
set_option linter.unusedSimpArgs false

def cu (r b : Nat) : Nat := (r >>> 14) ^^^ b
def cs (r b : Nat) : Nat := ((r <<< 1) &&& 32767) ^^^ (cu r b * 17817)
theorem bit01 (r b : Nat) (hr : r < 32768) (hb : b < 2) : cu r b = 0 ∨ cu r b = 1 := by
  have h1 : r >>> 14 < 2 := by rw [Nat.shiftRight_eq_div_pow]; omega
  have h2 : cu r b < 2 ^ 1 := Nat.xor_lt_two_pow (n := 1) h1 hb
  omega
theorem cs_lt (r b : Nat) (hr : r < 32768) (hb : b < 2) : cs r b < 32768 := by
  have h1 : ((r <<< 1) &&& 32767) < 2 ^ 15 := Nat.and_lt_two_pow _ (by decide)
  have h2 : cu r b * 17817 < 2 ^ 15 := by rcases bit01 r b hr hb with h | h <;> rw [h] <;> decide
  exact Nat.xor_lt_two_pow h1 h2
theorem xor_bits (b b' : Nat) (hb : b < 2) (hb' : b' < 2) : b ^^^ b' < 2 := Nat.xor_lt_two_pow (n := 1) hb hb'
theorem xor_15 (r r' : Nat) (hr : r < 32768) (hr' : r' < 32768) : r ^^^ r' < 32768 := Nat.xor_lt_two_pow (n := 15) hr hr'
theorem mul_xor (p q : Nat) (hp : p = 0 ∨ p = 1) (hq : q = 0 ∨ q = 1) : (p ^^^ q) * 17817 = (p * 17817) ^^^ (q * 17817) := by
  rcases hp with rfl | rfl <;> rcases hq with rfl | rfl <;> decide
theorem cs_xor (r r' b b' : Nat) (hr : r < 32768) (hr' : r' < 32768) (hb : b < 2) (hb' : b' < 2) : cs (r ^^^ r') (b ^^^ b') = cs r b ^^^ cs r' b' := by
  have e : cu (r ^^^ r') (b ^^^ b') = cu r b ^^^ cu r' b' := by
    unfold cu
    rw [Nat.shiftRight_xor_distrib]
    ac_rfl
  unfold cs
  rw [e, mul_xor _ _ (bit01 r b hr hb) (bit01 r' b' hr' hb'), Nat.shiftLeft_xor_distrib, Nat.and_xor_distrib_right]
  ac_rfl
def crc (l : List Nat) (r : Nat) : Nat := l.foldl cs r
theorem crc_lt : ∀ (l : List Nat) (r : Nat), (∀ b ∈ l, b < 2) → r < 32768 → crc l r < 32768
  | [], r, _, hr => hr
  | b :: l, r, h, hr => crc_lt l (cs r b) (fun x hx => h x (List.mem_cons_of_mem _ hx)) (cs_lt r b hr (h b List.mem_cons_self))
theorem crc_xor : ∀ (l l' : List Nat) (r r' : Nat), l.length = l'.length → (∀ b ∈ l, b < 2) → (∀ b ∈ l', b < 2) → r < 32768 → r' < 32768 →
    crc (List.zipWith (· ^^^ ·) l l') (r ^^^ r') = crc l r ^^^ crc l' r'
  | [], [], r, r', _, _, _, _, _ => rfl
  | b :: l, b' :: l', r, r', hl, h, h', hr, hr' => by
    have hb := h b List.mem_cons_self
    have hb' := h' b' List.mem_cons_self
    have ih := crc_xor l l' (cs r b) (cs r' b') (by simpa using hl) (fun x hx => h x (List.mem_cons_of_mem _ hx)) (fun x hx => h' x (List.mem_cons_of_mem _ hx)) (cs_lt r b hr hb) (cs_lt r' b' hr' hb')
    rw [← cs_xor r r' b b' hr hr' hb hb'] at ih
    exact ih
theorem cs_even (r b : Nat) (hu : cu r b = 0) : cs r b = (2 * r) % 32768 := by
  unfold cs
  rw [hu, Nat.zero_mul, Nat.xor_zero, Nat.shiftLeft_eq, show (32767 : Nat) = 2 ^ 15 - 1 from rfl, Nat.and_two_pow_sub_one_eq_mod]
  omega
theorem cs_odd (r b : Nat) (hu : cu r b = 1) : cs r b % 2 = 1 := by
  unfold cs
  rw [hu, Nat.one_mul, Nat.shiftLeft_eq, show (32767 : Nat) = 2 ^ 15 - 1 from rfl, Nat.and_two_pow_sub_one_eq_mod]
  have e : (r * 2 ^ 1 % 2 ^ 15 ^^^ 17817) % 2 ^ 1 = (r * 2 ^ 1 % 2 ^ 15 % 2 ^ 1) ^^^ (17817 % 2 ^ 1) := Nat.xor_mod_two_pow
  have e0 : r * 2 ^ 1 % 2 ^ 15 % 2 ^ 1 = 0 := by omega
  rw [e0] at e
  exact e
theorem cs_zero (r : Nat) (hr : r < 32768) (h0 : r ≠ 0) : cs r 0 ≠ 0 := by
  rcases bit01 r 0 hr (by omega) with hu | hu
  · rw [cs_even r 0 hu]
    have h : r >>> 14 = 0 := by
      have := hu
      unfold cu at this
      rw [Nat.xor_zero] at this
      exact this
    rw [Nat.shiftRight_eq_div_pow] at h
    omega
  · have := cs_odd r 0 hu
    omega
theorem crc_zeros : ∀ (n r : Nat), r < 32768 → r ≠ 0 → crc (List.replicate n 0) r ≠ 0
  | 0, r, _, h => h
  | n + 1, r, hr, h => by
    rw [List.replicate_succ]
    exact crc_zeros n (cs r 0) (cs_lt r 0 hr (by omega)) (cs_zero r hr h)
theorem crc_zero_zeros : ∀ n : Nat, crc (List.replicate n 0) 0 = 0
  | 0 => rfl
  | n + 1 => by
    rw [List.replicate_succ]
    show crc (List.replicate n 0) (cs 0 0) = 0
    rw [show cs 0 0 = 0 by decide]
    exact crc_zero_zeros n
theorem crc_burst : ∀ (l : List Nat) (k r : Nat), (∀ b ∈ l, b < 2) → r < 32768 → k + l.length ≤ 15 → r % 2 ^ k ≠ 0 → crc l r ≠ 0
  | [], k, r, _, _, _, h => fun e => by
    have e' : r = 0 := e
    rw [e'] at h
    simp at h
  | b :: l, k, r, hl, hr, hk, h => by
    have hb := hl b List.mem_cons_self
    rw [List.length_cons] at hk
    refine crc_burst l (k + 1) (cs r b) (fun x hx => hl x (List.mem_cons_of_mem _ hx)) (cs_lt r b hr hb) (by omega) ?_
    rcases bit01 r b hr hb with hu | hu
    · rw [cs_even r b hu]
      have hd : (2 : Nat) ^ (k + 1) ∣ 32768 := by
        rw [show (32768 : Nat) = 2 ^ 15 from rfl]
        exact Nat.pow_dvd_pow 2 (by omega)
      rw [Nat.mod_mod_of_dvd _ hd, Nat.pow_succ, Nat.mul_comm (2 ^ k) 2, Nat.mul_mod_mul_left]
      omega
    · intro e
      have h2 : cs r b % 2 = 0 := by
        have hd : (2 : Nat) ∣ 2 ^ (k + 1) := by rw [Nat.pow_succ]; exact Nat.dvd_mul_left 2 _
        have := Nat.mod_mod_of_dvd (cs r b) hd
        rw [e] at this
        omega
      have := cs_odd r b hu
      omega
theorem crc_append (l l' : List Nat) (r : Nat) : crc (l ++ l') r = crc l' (crc l r) := List.foldl_append
/-- A row of noughts, then at most 15 bits, then noughts: its sum is nought only if all are. -/
theorem crc_nonzero (a c : Nat) (l : List Nat) (hl : ∀ b ∈ l, b < 2) (h15 : l.length ≤ 15) (h : ∃ b ∈ l, b ≠ 0) : crc (List.replicate a 0 ++ l ++ List.replicate c 0) 0 ≠ 0 := by
  rw [crc_append, crc_append, crc_zero_zeros]
  have hlt : crc l 0 < 32768 := crc_lt l 0 hl (by omega)
  refine crc_zeros c _ hlt ?_
  have key : ∀ (l : List Nat), (∀ b ∈ l, b < 2) → l.length ≤ 15 → (∃ b ∈ l, b ≠ 0) → crc l 0 ≠ 0 := by
    intro l
    induction l with
    | nil => rintro _ _ ⟨b, hb, _⟩; simp at hb
    | cons b l ih =>
      rintro hl h15 ⟨x, hx, hne⟩
      have hb := hl b List.mem_cons_self
      rw [List.length_cons] at h15
      show crc l (cs 0 b) ≠ 0
      by_cases h0 : b = 0
      · rw [h0, show cs 0 0 = 0 by decide]
        refine ih (fun y hy => hl y (List.mem_cons_of_mem _ hy)) (by omega) ⟨x, ?_, hne⟩
        rcases List.mem_cons.1 hx with rfl | hx
        · exact absurd h0 hne
        · exact hx
      · have h1 : b = 1 := by omega
        rw [h1]
        exact crc_burst l 1 (cs 0 1) (fun y hy => hl y (List.mem_cons_of_mem _ hy)) (by decide) (by omega) (by decide)
  exact key l hl h15 h
theorem wraps_u64 (n : Int) (h₀ : 0 ≤ n) (h₁ : n < 2 ^ 64) : IntKind.u64.wrap n = n := by rw [IntKind.wrap_u64]; omega
theorem u64_rng (n : Int) : 0 ≤ IntKind.u64.wrap n ∧ IntKind.u64.wrap n < 18446744073709551616 := by rw [IntKind.wrap_u64]; omega
theorem u64_and255 (x : Int) (h₀ : 0 ≤ x) (h₁ : x < 2 ^ 64) : Go.bits .and .u64 x 255 = x % 256 := bits_mask .u64 64 (by decide) wraps_u64 8 (by decide) x h₀ h₁
/-- The bytes that the draws read. -/
def Bytes (c : List Int) : Prop := ∀ x ∈ c, 0 ≤ x ∧ x ≤ 255
theorem bytes_rd (c : List Int) (h : Bytes c) (i : Int) : 0 ≤ rd c i ∧ rd c i ≤ 255 := by
  unfold rd
  rw [List.getD_eq_getElem?_getD]
  by_cases hi : i.toNat < c.length
  · rw [List.getElem?_eq_getElem hi]
    exact h _ (List.getElem_mem _)
  · rw [List.getElem?_eq_none (by omega)]
    simp
theorem seed_byte (u : Int) : 0 ≤ wrap64 (Go.bits .and .u64 ((IntKind.u64.wrap u) / 1099511627776) 255) ∧ wrap64 (Go.bits .and .u64 ((IntKind.u64.wrap u) / 1099511627776) 255) ≤ 255 := by
  have h := u64_rng u
  have h1 : 0 ≤ (IntKind.u64.wrap u) / 1099511627776 := by omega
  have h2 : (IntKind.u64.wrap u) / 1099511627776 < 2 ^ 64 := by omega
  rw [u64_and255 _ h1 h2, wrap_in (by omega) (by omega)]
  omega
theorem next_ok (c : List Int) (hc : Bytes c) (a s : Int) (h0 : 0 ≤ a) (h1 : a < 4611686018427387904) : ∃ r s', spec_l1Cur_next.f c a s = some (r, a + 1, s') ∧ 0 ≤ r ∧ r ≤ 255 := by
  have hw : wrap64 (a + 1) = a + 1 := wrap_in (by omega) (by omega)
  have hb := bytes_rd c hc a
  have hwb : wrap64 (rd c a) = rd c a := wrap_in (by omega) (by omega)
  unfold spec_l1Cur_next.f
  simp only [hw, h0, if_true]
  split
  · split
    · exact ⟨_, _, rfl, by omega, by omega⟩
    · exact ⟨_, _, rfl, seed_byte _⟩
  · split
    · exact ⟨_, _, rfl, by omega, by omega⟩
    · exact ⟨_, _, rfl, seed_byte _⟩
theorem pick_ok (c : List Int) (hc : Bytes c) (a s n : Int) (h0 : 0 ≤ a) (h1 : a < 4611686018427387900) (hn : n < 9223372036854775808) :
    ∃ r a' s', spec_l1Cur_pick.f c a s n = some (r, a', s') ∧ 0 ≤ r ∧ (r < n ∨ r = 0) ∧ a ≤ a' ∧ a' ≤ a + 2 := by
  unfold spec_l1Cur_pick.f
  split
  · exact ⟨0, a, s, rfl, by omega, by omega, by omega, by omega⟩
  · obtain ⟨r1, s1, e1, h2, h3⟩ := next_ok c hc a s h0 (by omega)
    rw [e1]
    simp only [Option.bind_some]
    split
    · obtain ⟨r2, s2, e2, h4, h5⟩ := next_ok c hc (a + 1) s1 (by omega) (by omega)
      rw [e2]
      simp only [Option.bind_some]
      rw [if_neg (by omega)]
      have w1 : wrap64 (r1 * 256) = r1 * 256 := wrap_in (by omega) (by omega)
      have w2 : wrap64 (r1 * 256 + r2) = r1 * 256 + r2 := wrap_in (by omega) (by omega)
      rw [w1, w2]
      refine ⟨_, _, _, rfl, ?_, ?_, by omega, by omega⟩
      · rw [Int.tmod_eq_emod_of_nonneg (by omega)]
        exact Int.emod_nonneg _ (by omega)
      · rw [Int.tmod_eq_emod_of_nonneg (by omega)]
        exact .inl (Int.emod_lt_of_pos _ (by omega))
    · rw [if_neg (by omega)]
      refine ⟨_, _, _, rfl, ?_, ?_, by omega, by omega⟩
      · rw [Int.tmod_eq_emod_of_nonneg (by omega)]
        exact Int.emod_nonneg _ (by omega)
      · rw [Int.tmod_eq_emod_of_nonneg (by omega)]
        exact .inl (Int.emod_lt_of_pos _ (by omega))
theorem one_ok (c : List Int) (hc : Bytes c) (a s n : Int) (h0 : 0 ≤ a) (h1 : a < 4611686018427387900) (hn : n < 9223372036854775808) :
    ∃ (b : Bool) (a' s' : Int), spec_l1Cur_one.f c a s n = some (b, a', s') ∧ a ≤ a' ∧ a' ≤ a + 2 := by
  obtain ⟨r, a1, s1, e, p, q, m1, m2⟩ := pick_ok c hc a s n h0 h1 hn
  exact ⟨(r == 0), a1, s1, by simp only [spec_l1Cur_one.f, e, Option.bind_some], m1, m2⟩
theorem text_l1 (c : List Int) (hc : Bytes c) (m : Nat) (hm : m ≤ 400) : ∀ (d : Nat) (x : List Int) (a s : Int), m - x.length ≤ d → x.length ≤ 400 → 0 ≤ a → a + 2 * d < 4611686018427387400 →
    ∃ (r : ByteArray) (a' s' : Int), Ev (fun k => spec_l1Cur_bitText.l1 k x (m : Int) c a s) (r, a', s') ∧ r.size ≤ 400 := by
  intro d
  induction d with
  | zero =>
    intro x a s hd hx h0 h1
    refine ⟨strOfNums x, a, s, Ev.next ⟨0, fun k _ => ?_⟩, ?_⟩
    · have c0 : ¬ ((x.length : Int) < (m : Int)) := by omega
      simp only [spec_l1Cur_bitText.l1, c0, if_false]
    · have : (strOfNums x).size = x.length := by simp [strOfNums, ByteArray.size]
      omega
  | succ d ih =>
    intro x a s hd hx h0 h1
    by_cases c0 : ((x.length : Int) < (m : Int))
    · obtain ⟨r, a1, s1, e1, p1, q1, m1, n1⟩ := pick_ok c hc a s 2 h0 (by omega) (by omega)
      obtain ⟨r', a', s', he, hr⟩ := ih (x ++ [(wrap64 (48 + r)) % 256]) a1 s1 (by rw [List.length_append, List.length_singleton]; omega) (by rw [List.length_append, List.length_singleton]; omega) (by omega) (by omega)
      refine ⟨r', a', s', Ev.step (fun k => ?_) he, hr⟩
      have c1 : x.length < 140737488355328 := by omega
      simp only [spec_l1Cur_bitText.l1, c0, c1, if_true, e1, Option.bind_some]
    · refine ⟨strOfNums x, a, s, Ev.next ⟨0, fun k _ => ?_⟩, ?_⟩
      · simp only [spec_l1Cur_bitText.l1, c0, if_false]
      · have : (strOfNums x).size = x.length := by simp [strOfNums, ByteArray.size]
        omega
theorem text_j2 (c : List Int) (hc : Bytes c) (x : List Int) (a s : Int) (hx : x.length ≤ 400) (h0 : 0 ≤ a) (h1 : a < 4611686018427380000) :
    ∃ (r : ByteArray) (a' s' : Int), Ev (fun k => spec_l1Cur_bitText.j2 k x c a s) (r, a', s') ∧ r.size ≤ 400 := by
  obtain ⟨b, a1, s1, e1, m1, n1⟩ := one_ok c hc a s 30 h0 (by omega) (by omega)
  cases b with
  | true =>
    obtain ⟨r, a2, s2, e2, p2, q2, m2, n2⟩ := pick_ok c hc a1 s1 3 (by omega) (by omega) (by omega)
    obtain ⟨m, hm⟩ : ∃ m : Nat, wrap64 (299 + r) = (m : Int) ∧ m ≤ 400 := ⟨(299 + r).toNat, by rw [wrap_in (by omega) (by omega)]; omega, by omega⟩
    obtain ⟨r', a', s', he, hr⟩ := text_l1 c hc m hm.2 (m - x.length) x a2 s2 (Nat.le_refl _) hx (by omega) (by omega)
    refine ⟨r', a', s', Ev.next ?_, hr⟩
    simp only [spec_l1Cur_bitText.j2, e1, e2, Option.bind_some, if_true, hm.1]
    exact he
  | false =>
    refine ⟨strOfNums x, a1, s1, Ev.next ⟨0, fun k _ => ?_⟩, ?_⟩
    · simp only [spec_l1Cur_bitText.j2, e1, Option.bind_some, Bool.false_eq_true, if_false]
    · have : (strOfNums x).size = x.length := by simp [strOfNums, ByteArray.size]
      omega
theorem text_j1 (c : List Int) (hc : Bytes c) (x : List Int) (b : Bool) (hb : b = true → 0 < x.length) (a s : Int) (hx : x.length ≤ 400) (h0 : 0 ≤ a) (h1 : a < 4611686018427370000) :
    ∃ (r : ByteArray) (a' s' : Int), Ev (fun k => spec_l1Cur_bitText.j1 k x b c a s) (r, a', s') ∧ r.size ≤ 400 := by
  cases b with
  | true =>
    have hp := hb rfl
    obtain ⟨r, a1, s1, e1, p1, q1, m1, n1⟩ := pick_ok c hc a s (x.length : Int) h0 (by omega) (by omega)
    obtain ⟨r', a', s', he, hr⟩ := text_j2 c hc (x.set r.toNat 50) a1 s1 (by rw [List.length_set]; exact hx) (by omega) (by omega)
    refine ⟨r', a', s', Ev.next ?_, hr⟩
    have c1 : r < (x.length : Int) := by omega
    simp only [spec_l1Cur_bitText.j1, e1, Option.bind_some, if_true, p1, c1]
    exact he
  | false =>
    obtain ⟨r', a', s', he, hr⟩ := text_j2 c hc x a s hx h0 (by omega)
    refine ⟨r', a', s', Ev.next ?_, hr⟩
    simp only [spec_l1Cur_bitText.j1, Bool.false_eq_true, if_false]
    exact he
theorem text_l0 (c : List Int) (hc : Bytes c) : ∀ (d : Nat) (x : List Int) (v a s : Int), d ≤ 100 → x.length + d ≤ 400 → 0 ≤ a → a + 2 * d < 4611686018427360000 →
    ∃ (r : ByteArray) (a' s' : Int), Ev (fun k => spec_l1Cur_bitText.l0 k x v (d : Int) c a s) (r, a', s') ∧ r.size ≤ 400 := by
  intro d
  induction d with
  | zero =>
    intro x v a s _ hx h0 h1
    obtain ⟨b, a1, s1, e1, m1, n1⟩ := one_ok c hc a s 30 h0 (by omega) (by omega)
    have hd1 : ¬ (((0 : Nat) : Int) > 0) := by omega
    cases b with
    | true =>
      obtain ⟨r', a', s', he, hr⟩ := text_j1 c hc x (decide ((x.length : Int) > 0)) (fun h => by have := of_decide_eq_true h; omega) a1 s1 (by omega) (by omega) (by omega)
      refine ⟨r', a', s', Ev.next ?_, hr⟩
      simp only [spec_l1Cur_bitText.l0, hd1, if_false, e1, Option.bind_some, if_true]
      exact he
    | false =>
      obtain ⟨r', a', s', he, hr⟩ := text_j1 c hc x false (fun h => by cases h) a1 s1 (by omega) (by omega) (by omega)
      refine ⟨r', a', s', Ev.next ?_, hr⟩
      simp only [spec_l1Cur_bitText.l0, hd1, if_false, e1, Option.bind_some, Bool.false_eq_true]
      exact he
  | succ d ih =>
    intro x v a s hd hx h0 h1
    obtain ⟨b, a1, s1, e1, m1, n1⟩ := one_ok c hc a s 4 h0 (by omega) (by omega)
    have hd1 : ((d + 1 : Nat) : Int) > 0 := by omega
    have hw : wrap64 (((d + 1 : Nat) : Int) - 1) = (d : Int) := by rw [wrap_in (by omega) (by omega)]; omega
    have c1 : x.length < 140737488355328 := by omega
    cases b with
    | true =>
      obtain ⟨r', a', s', he, hr⟩ := ih (x ++ [(97 - v) % 256]) ((97 - v) % 256) a1 s1 (by omega) (by rw [List.length_append, List.length_singleton]; omega) (by omega) (by omega)
      refine ⟨r', a', s', Ev.step (fun k => ?_) he, hr⟩
      simp only [spec_l1Cur_bitText.l0, hd1, if_true, e1, Option.bind_some, c1, hw]
    | false =>
      obtain ⟨r', a', s', he, hr⟩ := ih (x ++ [v]) v a1 s1 (by omega) (by rw [List.length_append, List.length_singleton]; omega) (by omega) (by omega)
      refine ⟨r', a', s', Ev.step (fun k => ?_) he, hr⟩
      simp only [spec_l1Cur_bitText.l0, hd1, if_true, e1, Option.bind_some, c1, hw, Bool.false_eq_true, if_false]
theorem draw_crc (c : List Int) (hc : Bytes c) : ∃ r : ByteArray, Ev (fun k => spec_DrawCrc15.f k c) r ∧ r.size ≤ 400 := by
  have e41 : wrap64 (40 + 1) = 41 := by rw [wrap_in (by omega) (by omega)]; rfl
  obtain ⟨r, a1, s1, e1, p1, q1, m1, n1⟩ := pick_ok c hc 0 0 41 (by omega) (by omega) (by omega)
  obtain ⟨d, rfl⟩ : ∃ d : Nat, r = (d : Int) := ⟨r.toNat, by omega⟩
  obtain ⟨r', a', s', he, hr⟩ := text_l0 c hc d [] 48 a1 s1 (by omega) (by simp; omega) (by omega) (by omega)
  refine ⟨r', ?_, hr⟩
  simp only [spec_DrawCrc15.f, spec_l1Cur_bitText.f, e41, e1, Option.bind_some]
  exact Ev.bind he (Ev.now _)
theorem size_list (s : ByteArray) : s.size = s.data.toList.length := Lib.size_eq s
theorem bt_list (s : ByteArray) (i : Nat) (h : i < s.size) : bt s (i : Int) = ((s.data.toList[i]'(by rw [← size_list]; exact h)).toNat : Int) := by
  have : ((i : Int)).toNat = i := by omega
  simp only [bt, this, h, dif_pos]
  rfl
def is01 (b : UInt8) : Bool := b == 48 || b == 49
def good (s : ByteArray) : Bool := decide ((s.size : Int) ≤ 300) && s.data.toList.all is01
theorem dw_nil {α : Type} (p : α → Bool) : ∀ l : List α, l.dropWhile p = [] ↔ ∀ x ∈ l, p x = true
  | [] => by simp
  | a :: l => by
    rw [List.dropWhile_cons]
    cases h : p a with
    | true =>
      simp only [if_true, List.mem_cons, forall_eq_or_imp, h, true_and]
      exact dw_nil p l
    | false =>
      simp [h]
theorem dw_head {α : Type} (p : α → Bool) : ∀ (l : List α) (a : α) (r : List α), l.dropWhile p = a :: r → p a = false
  | [], a, r, h => by simp at h
  | b :: l, a, r, h => by
    rw [List.dropWhile_cons] at h
    cases hb : p b with
    | true =>
      rw [hb] at h
      exact dw_head p l a r h
    | false =>
      rw [hb] at h
      simp only [Bool.false_eq_true, if_false, List.cons.injEq] at h
      rw [← h.1]
      exact hb
theorem trim_nil (l cs : List UInt8) : Lib.trimS l cs = [] ↔ ∀ x ∈ l, cs.contains x = true := by
  unfold Lib.trimS Lib.trimLeftS Lib.trimRightS
  rw [dw_nil]
  constructor
  · intro h
    have h2 : l.reverse.dropWhile (cs.contains ·) = [] := by
      cases hd : l.reverse.dropWhile (cs.contains ·) with
      | nil => rfl
      | cons a r =>
        have h3 := h a (by rw [hd]; simp)
        have h4 := dw_head _ _ _ _ hd
        rw [h3] at h4
        cases h4
    rw [dw_nil] at h2
    intro x hx
    exact h2 x (List.mem_reverse.2 hx)
  · intro h x hx
    have h2 : l.reverse.dropWhile (cs.contains ·) = [] := by
      rw [dw_nil]
      exact fun y hy => h y (List.mem_reverse.1 hy)
    rw [h2] at hx
    simp at hx
theorem bits_good (s : ByteArray) : bits01 s = good s := by
  unfold bits01 good
  congr 1
  rw [Bool.eq_iff_iff, decide_eq_true_eq, trim_nil, List.all_eq_true]
  constructor
  · intro h x hx
    have := h x hx
    unfold is01
    simpa using this
  · intro h x hx
    have := h x hx
    unfold is01 at this
    simpa using this
theorem impl_goodBits_ev (s : ByteArray) (hs : s.size ≤ 1048576) : Ev (fun k => impl_goodBits.f k s) (good s) := by
  refine ⟨0, fun k _ => ?_⟩
  unfold impl_goodBits.f
  rw [if_pos (by omega), bits_good]
theorem at01 (s : ByteArray) (h : s.data.toList.all is01 = true) (i : Nat) (hi : i < s.size) : (bt s (i : Int) = 48 ∨ bt s (i : Int) = 49) := by
  rw [bt_list s i hi]
  have := List.all_eq_true.1 h _ (List.getElem_mem (by rw [← size_list]; exact hi))
  unfold is01 at this
  rw [Bool.or_eq_true, beq_iff_eq, beq_iff_eq] at this
  rcases this with e | e
  · left; rw [e]; rfl
  · right; rw [e]; rfl
theorem spec_bits_ev (s : ByteArray) (hs : s.size ≤ 1048576) : Ev (fun k => spec_l23Bits.f k s) (good s) := by
  unfold good
  simp only [spec_l23Bits.f]
  by_cases h : (s.size : Int) > 300
  · have : ¬ ((s.size : Int) ≤ 300) := by omega
    simp only [h, if_true, decide_eq_false this, Bool.false_and]
    exact Ev.now _
  · have h3 : (s.size : Int) ≤ 300 := by omega
    simp only [h, if_false, decide_eq_true h3, Bool.true_and]
    have go := all_loop (fun k i => spec_l23Bits.l0 k s i) s.size (fun i => decide (bt s (i : Int) = 48) || decide (bt s (i : Int) = 49)) true false
      (Ev.next ⟨0, fun k _ => by simp only [spec_l23Bits.l0]; rw [if_neg (by omega)]⟩)
      (fun i hi hp => ⟨0, fun k _ => by
        have e : wrap64 ((i : Int) + 1) = ((i + 1 : Nat) : Int) := wrap_succ i (by omega)
        simp only [spec_l23Bits.l0, e]
        rw [if_pos (by omega), if_pos (by omega)]
        rw [Bool.or_eq_true, decide_eq_true_eq, decide_eq_true_eq] at hp
        by_cases h1 : bt s (i : Int) = 48
        · rw [if_pos h1]
        · rw [if_neg h1, if_pos (by omega)]⟩)
      (fun i hi hp => ⟨0, fun k _ => by
        simp only [spec_l23Bits.l0]
        rw [if_pos (by omega), if_pos (by omega)]
        rw [Bool.or_eq_false_iff, decide_eq_false_iff_not, decide_eq_false_iff_not] at hp
        rw [if_neg hp.1, if_neg hp.2]⟩)
    have he : (if (List.range s.size).all (fun i => decide (bt s (i : Int) = 48) || decide (bt s (i : Int) = 49)) = true then true else false) = s.data.toList.all is01 := by
      rw [show ∀ b : Bool, (if b = true then true else false) = b from fun b => by cases b <;> rfl, Bool.eq_iff_iff, range_all, List.all_eq_true]
      constructor
      · intro h x hx
        obtain ⟨i, hi, rfl⟩ := List.getElem_of_mem hx
        have hi' : i < s.size := by rw [size_list]; exact hi
        have := h i hi'
        rw [Bool.or_eq_true, decide_eq_true_eq, decide_eq_true_eq, bt_list s i hi'] at this
        unfold is01
        rw [Bool.or_eq_true, beq_iff_eq, beq_iff_eq]
        rcases this with e | e
        · left; exact UInt8.toNat_inj.1 (by have : (s.data.toList[i]).toNat = 48 := by omega
                                            exact this)
        · right; exact UInt8.toNat_inj.1 (by have : (s.data.toList[i]).toNat = 49 := by omega
                                             exact this)
      · intro h i hi
        have := at01 s (List.all_eq_true.2 h) i hi
        rw [Bool.or_eq_true, decide_eq_true_eq, decide_eq_true_eq]
        exact this
    rw [he] at go
    exact go

def bitsOf (s : ByteArray) : List Nat := s.data.toList.map fun b => b.toNat - 48
theorem bits_length (s : ByteArray) : (bitsOf s).length = s.size := by unfold bitsOf; rw [List.length_map, ← size_list]
theorem bits_lt (s : ByteArray) (h : s.data.toList.all is01 = true) : ∀ b ∈ bitsOf s, b < 2 := by
  intro b hb
  unfold bitsOf at hb
  obtain ⟨x, hx, rfl⟩ := List.mem_map.1 hb
  have := List.all_eq_true.1 h x hx
  unfold is01 at this
  rw [Bool.or_eq_true, beq_iff_eq, beq_iff_eq] at this
  rcases this with e | e <;> rw [e] <;> decide
theorem bit_at (s : ByteArray) (i : Nat) (hi : i < s.size) (h : s.data.toList.all is01 = true) : bt s (i : Int) = 48 + (((bitsOf s)[i]'(by rw [bits_length]; exact hi) : Nat) : Int) := by
  have h2 := at01 s h i hi
  rw [bt_list s i hi] at h2 ⊢
  unfold bitsOf
  rw [List.getElem_map]
  omega
def crcOf (s : ByteArray) : Nat := crc (bitsOf s) 0
theorem crc_of_lt (s : ByteArray) (h : s.data.toList.all is01 = true) : crcOf s < 32768 := crc_lt _ _ (bits_lt s h) (by decide)
theorem hk62 (n : Int) (h0 : 0 ≤ n) (h1 : n < 2 ^ 62) : IntKind.i64.wrap n = n := by rw [IntKind.wrap_i64]; omega
theorem lt62 (n : Nat) (h : n < 2 ^ 62) : (n : Int) < 2 ^ 62 := by exact_mod_cast h
theorem xor64 (a b : Nat) (ha : a < 2 ^ 62) (hb : b < 2 ^ 62) : Go.bits .xor .i64 (a : Int) (b : Int) = ((a ^^^ b : Nat) : Int) := by
  have hp : (2 : Nat) ^ 62 ≤ 2 ^ IntKind.i64.bits := by decide
  have ha' : a % 2 ^ IntKind.i64.bits = a := Nat.mod_eq_of_lt (Nat.lt_of_lt_of_le ha hp)
  have hb' : b % 2 ^ IntKind.i64.bits = b := Nat.mod_eq_of_lt (Nat.lt_of_lt_of_le hb hp)
  simp only [Go.bits, BitVec.ofInt_natCast, BitVec.toNat_xor, BitVec.toNat_ofNat, ha', hb']
  have hx : a ^^^ b < 2 ^ 62 := Nat.xor_lt_two_pow ha hb
  exact hk62 _ (Int.natCast_nonneg _) (by exact_mod_cast hx)
theorem and15 (n : Nat) (h : n < 2 ^ 61) : Go.bits .and .i64 (n : Int) 32767 = ((n % 32768 : Nat) : Int) := by
  have h1 := bits_mask .i64 62 (by decide) hk62 15 (by decide) (n : Int) (Int.natCast_nonneg _) (lt62 _ (by omega))
  have e : ((2 : Int) ^ 15 - 1) = 32767 := by decide
  rw [e] at h1
  rw [h1]
  omega
theorem cs_form (r b : Nat) : cs r b = ((2 * r) % 32768) ^^^ (cu r b * 17817) := by
  unfold cs
  rw [Nat.shiftLeft_eq, show (32767 : Nat) = 2 ^ 15 - 1 from rfl, Nat.and_two_pow_sub_one_eq_mod]
  congr 1
  omega
theorem cu_int (r b : Nat) (hr : r < 32768) (hb : b < 2) : Go.bits .xor .i64 ((r : Int) / 16384) ((48 + (b : Int) - 48) % 256) = ((cu r b : Nat) : Int) := by
  have e1 : (r : Int) / 16384 = ((r / 16384 : Nat) : Int) := by omega
  have e2 : (48 + (b : Int) - 48) % 256 = ((b : Nat) : Int) := by omega
  rw [e1, e2, xor64 _ _ (by omega) (by omega)]
  unfold cu
  rw [Nat.shiftRight_eq_div_pow]
theorem crc_take (s : ByteArray) (i : Nat) (hi : i < (bitsOf s).length) : crc ((bitsOf s).take (i + 1)) 0 = cs (crc ((bitsOf s).take i) 0) (bitsOf s)[i] := by
  rw [List.take_succ_eq_append_getElem hi, crc_append]
  rfl
theorem crc_step (r b : Nat) (hr : r < 32768) (hb : b < 2) : (if ((cu r b : Nat) : Int) = 1 then Go.bits .xor .i64 (Go.bits .and .i64 (wrap64 ((r : Int) * 2)) 32767) 17817 else Go.bits .and .i64 (wrap64 ((r : Int) * 2)) 32767) = ((cs r b : Nat) : Int) := by
  have e1 : wrap64 ((r : Int) * 2) = ((2 * r : Nat) : Int) := by rw [wrap_in (by omega) (by omega)]; omega
  rw [e1, and15 _ (by omega), cs_form]
  rcases bit01 r b hr hb with h | h
  · rw [h, if_neg (by omega)]
    simp
  · rw [h, if_pos (by omega), show (17817 : Int) = ((17817 : Nat) : Int) from rfl, xor64 _ _ (by omega) (by omega)]
theorem impl_crc_ev (s : ByteArray) (hs : s.size ≤ 1048576) (h : s.data.toList.all is01 = true) : Ev (fun k => impl_crc15.f k s) ((crcOf s : Nat) : Int) := by
  have hl := bits_length s
  have := run_loop (fun k i (r : Int) => impl_crc15.l0 k s r (s.size : Int) i) s.size (fun i => ((crc ((bitsOf s).take i) 0 : Nat) : Int)) ((crcOf s : Nat) : Int) ?_ ?_ 0 (Nat.zero_le _)
  · exact this
  · refine Ev.next ⟨0, fun k _ => ?_⟩
    simp only [impl_crc15.l0, Int.lt_irrefl, if_false]
    unfold crcOf
    rw [← hl, List.take_length]
  · intro i hi
    refine ⟨0, fun k _ => ?_⟩
    have hi2 : i < (bitsOf s).length := by omega
    have e : wrap64 ((i : Int) + 1) = ((i + 1 : Nat) : Int) := wrap_succ i (by omega)
    have hr : crc ((bitsOf s).take i) 0 < 32768 := crc_lt _ _ (fun b hb => bits_lt s h b (List.mem_of_mem_take hb)) (by decide)
    have hb := bits_lt s h (bitsOf s)[i] (List.getElem_mem hi2)
    have hstep := crc_step (crc ((bitsOf s).take i) 0) (bitsOf s)[i] hr hb
    show impl_crc15.l0 (k + 1) s ((crc ((bitsOf s).take i) 0 : Nat) : Int) (s.size : Int) (i : Int) = impl_crc15.l0 k s ((crc ((bitsOf s).take (i + 1)) 0 : Nat) : Int) (s.size : Int) ((i + 1 : Nat) : Int)
    rw [crc_take s i hi2, ← hstep]
    simp only [impl_crc15.l0, e, bit_at s i hi h]
    rw [if_pos (by omega), if_pos (by omega), if_pos (by omega), cu_int _ _ hr hb]
    split <;> rfl
theorem spec_crc_ev (s : ByteArray) (hs : s.size ≤ 1048576) (h : s.data.toList.all is01 = true) : Ev (fun k => spec_l23Crc.f k s) ((crcOf s : Nat) : Int) := by
  have hl := bits_length s
  have := run_loop (fun k i (r : Int) => spec_l23Crc.l0 k s r i) s.size (fun i => ((crc ((bitsOf s).take i) 0 : Nat) : Int)) ((crcOf s : Nat) : Int) ?_ ?_ 0 (Nat.zero_le _)
  · exact this
  · refine Ev.next ⟨0, fun k _ => ?_⟩
    simp only [spec_l23Crc.l0, Int.lt_irrefl, if_false]
    unfold crcOf
    rw [← hl, List.take_length]
  · intro i hi
    refine ⟨0, fun k _ => ?_⟩
    have hi2 : i < (bitsOf s).length := by omega
    have e : wrap64 ((i : Int) + 1) = ((i + 1 : Nat) : Int) := wrap_succ i (by omega)
    have hr : crc ((bitsOf s).take i) 0 < 32768 := crc_lt _ _ (fun b hb => bits_lt s h b (List.mem_of_mem_take hb)) (by decide)
    have hb := bits_lt s h (bitsOf s)[i] (List.getElem_mem hi2)
    have hstep := crc_step (crc ((bitsOf s).take i) 0) (bitsOf s)[i] hr hb
    have hand : Go.bits .and .i64 (((crc ((bitsOf s).take i) 0 : Nat) : Int) / 16384) 1 = ((crc ((bitsOf s).take i) 0 : Nat) : Int) / 16384 := by
      obtain ⟨q, hq⟩ : ∃ q : Nat, ((crc ((bitsOf s).take i) 0 : Nat) : Int) / 16384 = (q : Int) ∧ q < 2 := ⟨crc ((bitsOf s).take i) 0 / 16384, by omega, by omega⟩
      rw [hq.1]
      have h1 := bits_mask .i64 62 (by decide) hk62 1 (by decide) (q : Int) (Int.natCast_nonneg _) (lt62 _ (by omega))
      have e : ((2 : Int) ^ 1 - 1) = 1 := by decide
      rw [e] at h1
      rw [h1]
      omega
    show spec_l23Crc.l0 (k + 1) s ((crc ((bitsOf s).take i) 0 : Nat) : Int) (i : Int) = spec_l23Crc.l0 k s ((crc ((bitsOf s).take (i + 1)) 0 : Nat) : Int) ((i + 1 : Nat) : Int)
    rw [crc_take s i hi2, ← hstep]
    simp only [spec_l23Crc.l0, e, bit_at s i hi h, hand]
    rw [if_pos (by omega), if_pos (by omega), cu_int _ _ hr hb]
    split <;> rfl
theorem good_all (s : ByteArray) (h : good s = true) : s.data.toList.all is01 = true := by
  unfold good at h
  rw [Bool.and_eq_true] at h
  exact h.2
def crcAns (s : ByteArray) : Int × Bool := if good s = true then (((crcOf s : Nat) : Int), true) else (0, false)
theorem impl_ans (s : ByteArray) (hs : s.size ≤ 1048576) : Ev (fun k => impl_Crc15.f k s) (crcAns s) := by
  unfold crcAns
  simp only [impl_Crc15.f]
  refine Ev.bind (impl_goodBits_ev s hs) ?_
  cases hg : good s with
  | true =>
    simp only [if_true]
    exact Ev.bind (impl_crc_ev s hs (good_all s hg)) (Ev.now _)
  | false =>
    simp only [Bool.false_eq_true, if_false]
    exact Ev.now _
theorem spec_ans (s : ByteArray) (hs : s.size ≤ 1048576) : Ev (fun k => spec_Crc15.f k s) (crcAns s) := by
  unfold crcAns
  simp only [spec_Crc15.f]
  refine Ev.bind (spec_bits_ev s hs) ?_
  cases hg : good s with
  | true =>
    simp only [if_true]
    exact Ev.bind (spec_crc_ev s hs (good_all s hg)) (Ev.now _)
  | false =>
    simp only [Bool.false_eq_true, if_false]
    exact Ev.now _

def strB (l : List Nat) : ByteArray := strOfNums (l.map fun b : Nat => 48 + ((b : Nat) : Int))
theorem strB_list (l : List Nat) : (strB l).data.toList = l.map fun b => UInt8.ofNat (48 + b) := by
  unfold strB strOfNums
  simp only [List.map_map]
  congr 1
theorem strB_size (l : List Nat) : (strB l).size = l.length := by rw [size_list, strB_list, List.length_map]
theorem strB_bits (l : List Nat) (h : ∀ b ∈ l, b < 2) : bitsOf (strB l) = l := by
  unfold bitsOf
  rw [strB_list, List.map_map]
  conv => rhs; rw [← List.map_id l]
  refine List.map_congr_left fun b hb => ?_
  have := h b hb
  simp only [Function.comp_apply, id]
  rcases (by omega : b = 0 ∨ b = 1) with rfl | rfl <;> rfl
theorem strB_all (l : List Nat) (h : ∀ b ∈ l, b < 2) : (strB l).data.toList.all is01 = true := by
  rw [strB_list, List.all_eq_true]
  intro x hx
  obtain ⟨b, hb, rfl⟩ := List.mem_map.1 hx
  have := h b hb
  rcases (by omega : b = 0 ∨ b = 1) with rfl | rfl <;> rfl
theorem burst_l1 (c : List Int) (hc : Bytes c) (n at_ : Nat) (hn : n ≤ 1000) (hat : at_ ≤ n) : ∀ (d : Nat) (L : List Nat) (e : Nat) (a s : Int), (∀ b ∈ L, b < 2) → L.length + d = 15 → at_ + L.length + e = n → 0 ≤ a → a + 2 * d < 4611686018427360000 →
    ∃ (M : List Nat) (e' : Nat), (∀ b ∈ M, b < 2) ∧ M.length ≤ 15 ∧ at_ + M.length + e' = n ∧
      Ev (fun k => spec_BurstOf.l1 k (n : Int) ((List.replicate at_ 0 ++ L ++ List.replicate e 0).map fun b : Nat => 48 + ((b : Nat) : Int)) (at_ : Int) ((at_ + L.length : Nat) : Int) c a s) (strB (List.replicate at_ 0 ++ M ++ List.replicate e' 0)) := by
  intro d
  induction d with
  | zero =>
    intro L e a s hL hl he h0 h1
    refine ⟨L, e, hL, by omega, he, Ev.next ⟨0, fun k _ => ?_⟩⟩
    have w : wrap64 ((at_ : Int) + 15) = (at_ : Int) + 15 := wrap_in (by omega) (by omega)
    have c2 : ¬ (((at_ + L.length : Nat) : Int) < (at_ : Int) + 15) := by omega
    simp only [spec_BurstOf.l1, w, c2, if_false]
    split <;> rfl
  | succ d ih =>
    intro L e a s hL hl he h0 h1
    have w : wrap64 ((at_ : Int) + 15) = (at_ : Int) + 15 := wrap_in (by omega) (by omega)
    cases e with
    | zero =>
      refine ⟨L, 0, hL, by omega, he, Ev.next ⟨0, fun k _ => ?_⟩⟩
      have c1 : ¬ (((at_ + L.length : Nat) : Int) < (n : Int)) := by omega
      simp only [spec_BurstOf.l1, c1, if_false]
      rfl
    | succ e =>
      obtain ⟨r, a1, s1, e1, p1, q1, m1, n1⟩ := pick_ok c hc a s 2 h0 (by omega) (by omega)
      obtain ⟨b, rfl⟩ : ∃ b : Nat, r = (b : Int) := ⟨r.toNat, by omega⟩
      have hb : b < 2 := by omega
      obtain ⟨M, e', hM, hM2, hM3, hev⟩ := ih (L ++ [b]) e a1 s1 (by
        intro x hx
        rcases List.mem_append.1 hx with hx | hx
        · exact hL x hx
        · rw [List.mem_singleton] at hx; omega) (by rw [List.length_append, List.length_singleton]; omega) (by rw [List.length_append, List.length_singleton]; omega) (by omega) (by omega)
      refine ⟨M, e', hM, hM2, hM3, Ev.step (fun k => ?_) hev⟩
      have c1 : ((at_ + L.length : Nat) : Int) < (n : Int) := by omega
      have c2 : ((at_ + L.length : Nat) : Int) < (at_ : Int) + 15 := by omega
      have c3 : (0 : Int) ≤ ((at_ + L.length : Nat) : Int) := by omega
      have hlen : ((List.replicate at_ 0 ++ L ++ List.replicate (e + 1) 0).map fun b : Nat => 48 + ((b : Nat) : Int)).length = n := by simp; omega
      have c4 : ((at_ + L.length : Nat) : Int) < (((List.replicate at_ 0 ++ L ++ List.replicate (e + 1) 0).map fun b : Nat => 48 + ((b : Nat) : Int)).length : Int) := by rw [hlen]; exact c1
      have t0 : (((at_ + L.length : Nat) : Int)).toNat = at_ + L.length := by omega
      have e2 : wrap64 (((at_ + L.length : Nat) : Int) + 1) = ((at_ + (L ++ [b]).length : Nat) : Int) := by rw [wrap_in (by omega) (by omega), List.length_append, List.length_singleton]; omega
      have e3 : (wrap64 (48 + (b : Int))) % 256 = 48 + (b : Int) := by rw [wrap_in (by omega) (by omega)]; omega
      have e4 : ((List.replicate at_ 0 ++ L ++ List.replicate (e + 1) 0).map fun b : Nat => 48 + ((b : Nat) : Int)).set (at_ + L.length) (48 + (b : Int)) = ((List.replicate at_ 0 ++ (L ++ [b]) ++ List.replicate e 0).map fun b : Nat => 48 + ((b : Nat) : Int)) := by
        rw [← List.map_set (f := fun b : Nat => 48 + ((b : Nat) : Int)) (a := b)]
        congr 1
        rw [List.set_append, if_neg (by simp), List.replicate_succ]
        simp
      simp only [spec_BurstOf.l1, w, c1, c2, c3, c4, if_true, e1, Option.bind_some, t0, e2, e3, e4]
theorem burst_ev (c : List Int) (hc : Bytes c) (n : Nat) (hn : n ≤ 1000) : ∃ (at_ e : Nat) (M : List Nat), (∀ b ∈ M, b < 2) ∧ M.length ≤ 15 ∧ at_ + M.length + e = n ∧
    Ev (fun k => spec_BurstOf.f k c (n : Int)) (strB (List.replicate at_ 0 ++ M ++ List.replicate e 0)) := by
  have w : wrap64 ((n : Int) + 1) = (n : Int) + 1 := wrap_in (by omega) (by omega)
  obtain ⟨r, a1, s1, e1, p1, q1, m1, n1⟩ := pick_ok c hc 0 0 ((n : Int) + 1) (by omega) (by omega) (by omega)
  obtain ⟨at_, rfl⟩ : ∃ b : Nat, r = (b : Int) := ⟨r.toNat, by omega⟩
  obtain ⟨M, e', hM, hM2, hM3, hev⟩ := burst_l1 c hc n at_ hn (by omega) 15 [] (n - at_) a1 s1 (by simp) rfl (by simp; omega) (by omega) (by omega)
  refine ⟨at_, e', M, hM, hM2, hM3, ?_⟩
  have hrep : ((List.replicate at_ 0 ++ [] ++ List.replicate (n - at_) 0).map fun b : Nat => 48 + ((b : Nat) : Int)) = List.replicate n 48 := by
    rw [List.append_nil, List.replicate_append_replicate, List.map_replicate, show at_ + (n - at_) = n by omega]
    rfl
  rw [hrep] at hev
  have t0 : ((n : Int)).toNat = n := by omega
  have c1 : (0 : Int) ≤ (n : Int) := by omega
  have c2 : n ≤ 281474976710656 := by omega
  simp only [spec_BurstOf.f, c1, c2, t0, if_true, Option.bind_some, List.length_replicate]
  have := run_loop (fun k i (q : List Int) => spec_BurstOf.l0 k (n : Int) q (n : Int) i c 0 0) n (fun i => List.replicate i 48 ++ List.replicate (n - i) 0) (strB (List.replicate at_ 0 ++ M ++ List.replicate e' 0)) ?_ ?_ 0 (Nat.zero_le _)
  · simpa using this
  · refine Ev.next ?_
    have e2 : List.replicate n (48 : Int) ++ List.replicate (n - n) 0 = List.replicate n 48 := by simp
    simp only [spec_BurstOf.l0, Int.lt_irrefl, if_false, w, e1, Option.bind_some, e2]
    exact hev
  · intro i hi
    refine ⟨0, fun k _ => ?_⟩
    have e2 : wrap64 ((i : Int) + 1) = ((i + 1 : Nat) : Int) := wrap_succ i (by omega)
    have t1 : ((i : Int)).toNat = i := by omega
    have hlen : (List.replicate i (48 : Int) ++ List.replicate (n - i) 0).length = n := by simp; omega
    have es : (List.replicate i (48 : Int) ++ List.replicate (n - i) 0).set i 48 = List.replicate (i + 1) 48 ++ List.replicate (n - (i + 1)) 0 := by
      obtain ⟨m, hm⟩ : ∃ m, n - i = m + 1 := ⟨n - i - 1, by omega⟩
      rw [List.set_append, if_neg (by simp), hm, List.replicate_succ]
      have : n - (i + 1) = m := by omega
      rw [this, List.replicate_succ' (n := i)]
      simp
    show spec_BurstOf.l0 (k + 1) (n : Int) (List.replicate i 48 ++ List.replicate (n - i) 0) (n : Int) (i : Int) c 0 0 = spec_BurstOf.l0 k (n : Int) (List.replicate (i + 1) 48 ++ List.replicate (n - (i + 1)) 0) (n : Int) ((i + 1 : Nat) : Int) c 0 0
    simp only [spec_BurstOf.l0, e2, t1, hlen, es]
    rw [if_pos (by omega), if_pos (by omega), if_pos (by omega)]
theorem xor_val (b b' : Nat) (hb : b < 2) (hb' : b' < 2) : ((48 + (((Go.bits .xor .u8 (((48 + (b : Int)) - 48) % 256) (48 + (b' : Int))) - 48) % 256)) % 256) = 48 + ((b ^^^ b' : Nat) : Int) := by
  rcases (by omega : b = 0 ∨ b = 1) with rfl | rfl <;> rcases (by omega : b' = 0 ∨ b' = 1) with rfl | rfl <;> decide
theorem xor_ev (s t : ByteArray) (hs : s.size ≤ 1000) (ht : t.size = s.size) : Ev (fun k => spec_XorBits.f k s t) (if good s = true ∧ good t = true then strB (List.zipWith (· ^^^ ·) (bitsOf s) (bitsOf t)) else (⟨#[63]⟩ : ByteArray)) := by
  have stop : Ev (fun k => spec_XorBits.j0 k s t true) (⟨#[63]⟩ : ByteArray) := Ev.next ⟨0, fun k _ => by simp [spec_XorBits.j0]⟩
  have e0 : (s.size : Int) = (t.size : Int) := by omega
  simp only [spec_XorBits.f]
  rw [show ((t.size : Nat) : Int) = (s.size : Int) by omega]
  simp only [if_true]
  refine Ev.bind (spec_bits_ev s (by omega)) ?_
  cases hg : good s with
  | false =>
    simp only [Bool.false_eq_true, if_false, false_and]
    exact stop
  | true =>
    simp only [if_true, true_and]
    refine Ev.bind (spec_bits_ev t (by omega)) ?_
    cases hg2 : good t with
    | false =>
      simp only [Bool.not_false, Bool.false_eq_true, if_false]
      exact stop
    | true =>
      simp only [Bool.not_true, if_true]
      have hs1 := good_all s hg
      have ht1 := good_all t hg2
      have hls := bits_length s
      have hlt := bits_length t
      obtain ⟨V, hV⟩ : ∃ V, List.zipWith (· ^^^ ·) (bitsOf s) (bitsOf t) = V := ⟨_, rfl⟩
      have hVl : V.length = s.size := by rw [← hV, List.length_zipWith]; omega
      rw [hV]
      refine Ev.next ?_
      have t0 : ((s.size : Int)).toNat = s.size := by omega
      have c1 : (0 : Int) ≤ (s.size : Int) := by omega
      have c2 : s.size ≤ 281474976710656 := by omega
      simp only [spec_XorBits.j0, Bool.false_eq_true, if_false, c1, t0, c2, if_true, Option.bind_some, List.length_replicate]
      have := run_loop (fun k i (q : List Int) => spec_XorBits.l0 k s t q (s.size : Int) i) s.size (fun i => (V.take i).map (fun b : Nat => 48 + ((b : Nat) : Int)) ++ List.replicate (s.size - i) 0) (strB V) ?_ ?_ 0 (Nat.zero_le _)
      · simpa using this
      · refine Ev.next ⟨0, fun k _ => ?_⟩
        simp only [spec_XorBits.l0, Int.lt_irrefl, if_false, Nat.sub_self, List.replicate_zero, List.append_nil]
        unfold strB
        rw [← hVl, List.take_length]
      · intro i hi
        refine ⟨0, fun k _ => ?_⟩
        have e2 : wrap64 ((i : Int) + 1) = ((i + 1 : Nat) : Int) := wrap_succ i (by omega)
        have t1 : ((i : Int)).toNat = i := by omega
        have hiV : i < V.length := by omega
        have hml : ((V.take i).map (fun b : Nat => 48 + ((b : Nat) : Int))).length = i := by rw [List.length_map, List.length_take]; omega
        have hlen : ((V.take i).map (fun b : Nat => 48 + ((b : Nat) : Int)) ++ List.replicate (s.size - i) 0).length = s.size := by rw [List.length_append, hml, List.length_replicate]; omega
        have hval : V[i] = (bitsOf s)[i]'(by omega) ^^^ (bitsOf t)[i]'(by omega) := by
          subst hV
          rw [List.getElem_zipWith]
        have es : ((V.take i).map (fun b : Nat => 48 + ((b : Nat) : Int)) ++ List.replicate (s.size - i) 0).set i (48 + ((V[i] : Nat) : Int)) = (V.take (i + 1)).map (fun b : Nat => 48 + ((b : Nat) : Int)) ++ List.replicate (s.size - (i + 1)) 0 := by
          obtain ⟨m, hm⟩ : ∃ m, s.size - i = m + 1 := ⟨s.size - i - 1, by omega⟩
          rw [List.set_append, if_neg (by omega), hml, Nat.sub_self, hm, List.replicate_succ, List.set_cons_zero, List.take_succ_eq_append_getElem hiV, List.map_append, List.append_assoc]
          have : s.size - (i + 1) = m := by omega
          rw [this]
          rfl
        have hb := bits_lt s hs1 ((bitsOf s)[i]'(by omega)) (List.getElem_mem _)
        have hb' := bits_lt t ht1 ((bitsOf t)[i]'(by omega)) (List.getElem_mem _)
        have hv := xor_val _ _ hb hb'
        rw [← hval] at hv
        show spec_XorBits.l0 (k + 1) s t ((V.take i).map (fun b : Nat => 48 + ((b : Nat) : Int)) ++ List.replicate (s.size - i) 0) (s.size : Int) (i : Int) = spec_XorBits.l0 k s t ((V.take (i + 1)).map (fun b : Nat => 48 + ((b : Nat) : Int)) ++ List.replicate (s.size - (i + 1)) 0) (s.size : Int) ((i + 1 : Nat) : Int)
        simp only [spec_XorBits.l0, e2, t1, hlen, bit_at s i hi hs1, bit_at t i (by omega) ht1, hv, es]
        rw [if_pos (by omega), if_pos (by omega), if_pos (by omega), if_pos (by omega), if_pos (by omega)]
theorem noughts_ev (s : ByteArray) (hs : s.size ≤ 1000) : Ev (fun k => spec_AllNoughts.f k s) (if (List.range s.size).all (fun i => decide (bt s (i : Int) = 48)) = true then true else false) := by
  simp only [spec_AllNoughts.f]
  refine all_loop (fun k i => spec_AllNoughts.l0 k s i) s.size _ true false ?_ ?_ ?_
  · exact Ev.next ⟨0, fun k _ => by simp only [spec_AllNoughts.l0]; rw [if_neg (by omega)]⟩
  · intro i hi hp
    have e : wrap64 ((i : Int) + 1) = ((i + 1 : Nat) : Int) := wrap_succ i (by omega)
    refine ⟨0, fun k _ => ?_⟩
    simp only [spec_AllNoughts.l0, e]
    rw [if_pos (by omega), if_pos (by omega), if_pos (of_decide_eq_true hp)]
  · intro i hi hp
    refine ⟨0, fun k _ => ?_⟩
    simp only [spec_AllNoughts.l0]
    rw [if_pos (by omega), if_pos (by omega), if_neg (of_decide_eq_false hp)]
theorem FnCrc : laws_FnCrc.Pure := by
  intro c m _ _ hc _ _ hm
  by_cases h1 : (c.length : Int) > 1048576
  · exact ⟨1, by simp [laws_FnCrc.f, laws_FnCrc.j0, h1]⟩
  by_cases h2 : (m.length : Int) > 1048576
  · exact ⟨1, by simp [laws_FnCrc.f, laws_FnCrc.j0, h1, h2]⟩
  have bytes : ∀ l : List Int, (∀ x ∈ l, (Lit.int .u8 x).wf = true) → Bytes l := fun l hl x hx => by
    have := hl x hx
    simp only [Lit.wf, IntKind.min, IntKind.max, IntKind.signed, IntKind.bits, Bool.and_eq_true, decide_eq_true_eq] at this
    simp at this
    omega
  obtain ⟨s, hp, hs⟩ := draw_crc c (bytes c hc)
  obtain ⟨at_, e, M, hM, hM2, hM3, hd⟩ := burst_ev m (bytes m hm) s.size (by omega)
  obtain ⟨D, hD⟩ : ∃ D, strB (List.replicate at_ 0 ++ M ++ List.replicate e 0) = D := ⟨_, rfl⟩
  have hall : ∀ b ∈ List.replicate at_ 0 ++ M ++ List.replicate e 0, b < 2 := by
    intro b hb
    rcases List.mem_append.1 hb with hb | hb
    · rcases List.mem_append.1 hb with hb | hb
      · rw [List.eq_of_mem_replicate hb]; decide
      · exact hM b hb
    · rw [List.eq_of_mem_replicate hb]; decide
  have hDs : D.size = s.size := by rw [← hD, strB_size]; simp; omega
  have hDb : bitsOf D = List.replicate at_ 0 ++ M ++ List.replicate e 0 := by rw [← hD]; exact strB_bits _ hall
  have hDa : D.data.toList.all is01 = true := by rw [← hD]; exact strB_all _ hall
  rw [hD] at hd
  have hx := xor_ev s D (by omega) hDs
  obtain ⟨X, hX⟩ : ∃ X, (if good s = true ∧ good D = true then strB (List.zipWith (· ^^^ ·) (bitsOf s) (bitsOf D)) else (⟨#[63]⟩ : ByteArray)) = X := ⟨_, rfl⟩
  rw [hX] at hx
  have hXs : X.size ≤ 1048576 := by
    rw [← hX]
    split
    · rw [strB_size, List.length_zipWith, bits_length]
      omega
    · show 1 ≤ _
      omega
  refine Ev.rounds (g := fun k => laws_FnCrc.f k c m) ?_
  simp only [laws_FnCrc.f, h1, h2, if_false, decide_false]
  refine Ev.next ?_
  simp only [laws_FnCrc.j0, Bool.false_eq_true, if_false]
  refine Ev.bind hp ?_
  refine Ev.bind (impl_ans s (by omega)) ?_
  refine Ev.bind (spec_ans s (by omega)) ?_
  simp only [bne_self_eq_false, Bool.false_eq_true, if_false]
  refine Ev.next ?_
  simp only [laws_FnCrc.j1, Bool.false_eq_true, if_false]
  refine Ev.bind hd ?_
  refine Ev.bind hx ?_
  refine Ev.bind (impl_ans X hXs) ?_
  refine Ev.bind (impl_ans D (by omega)) ?_
  cases hgs : good s with
  | false =>
    have e1 : crcAns s = (0, false) := by unfold crcAns; rw [hgs]; rfl
    simp only [e1, Bool.false_eq_true, if_false]
    exact Ev.now _
  | true =>
    have e1 : crcAns s = (((crcOf s : Nat) : Int), true) := by unfold crcAns; rw [hgs]; rfl
    simp only [e1, if_true]
    cases hgD : good D with
    | false =>
      have e3 : crcAns D = (0, false) := by unfold crcAns; rw [hgD]; rfl
      simp only [e3, Bool.false_eq_true, if_false, ite_self]
      exact Ev.now _
    | true =>
      have e3 : crcAns D = (((crcOf D : Nat) : Int), true) := by unfold crcAns; rw [hgD]; rfl
      simp only [e3, if_true]
      cases hgX : good X with
      | false =>
        have e2 : crcAns X = (0, false) := by unfold crcAns; rw [hgX]; rfl
        simp only [e2, Bool.false_eq_true, if_false]
        exact Ev.now _
      | true =>
        have e2 : crcAns X = (((crcOf X : Nat) : Int), true) := by unfold crcAns; rw [hgX]; rfl
        simp only [e2, if_true]
        have hzl : ∀ b ∈ List.zipWith (· ^^^ ·) (bitsOf s) (bitsOf D), b < 2 := by
          intro b hb
          obtain ⟨i, hi, rfl⟩ := List.getElem_of_mem hb
          rw [List.getElem_zipWith]
          exact xor_bits _ _ (bits_lt s (good_all s hgs) _ (List.getElem_mem _)) (bits_lt D hDa _ (List.getElem_mem _))
        have hXb : bitsOf X = List.zipWith (· ^^^ ·) (bitsOf s) (bitsOf D) := by
          rw [← hX, if_pos ⟨hgs, hgD⟩]
          exact strB_bits _ hzl
        have hsum : crcOf X = crcOf s ^^^ crcOf D := by
          unfold crcOf
          rw [hXb]
          exact crc_xor (bitsOf s) (bitsOf D) 0 0 (by rw [bits_length, bits_length, hDs]) (bits_lt s (good_all s hgs)) (bits_lt D hDa) (by decide) (by decide)
        have hls := crc_of_lt s (good_all s hgs)
        have hlD := crc_of_lt D hDa
        have hx64 : ((crcOf X : Nat) : Int) = Go.bits .xor .i64 ((crcOf s : Nat) : Int) ((crcOf D : Nat) : Int) := by
          rw [xor64 _ _ (by omega) (by omega), hsum]
        simp only [← hx64, if_true]
        refine Ev.bind (noughts_ev D (by omega)) ?_
        by_cases hn : (List.range D.size).all (fun i => decide (bt D (i : Int) = 48)) = true
        · simp only [hn, if_true]
          exact Ev.now _
        · simp only [hn, Bool.false_eq_true, if_false]
          have hne : ∃ b ∈ M, b ≠ 0 := by
            refine Classical.byContradiction fun hno => hn ?_
            rw [range_all]
            intro i hi
            rw [decide_eq_true_eq, bit_at D i hi hDa]
            have hz : (bitsOf D)[i]'(by rw [bits_length]; exact hi) = 0 := by
              have hmem : (bitsOf D)[i]'(by rw [bits_length]; exact hi) ∈ List.replicate at_ 0 ++ M ++ List.replicate e 0 := by rw [← hDb]; exact List.getElem_mem _
              rcases List.mem_append.1 hmem with hb | hb
              · rcases List.mem_append.1 hb with hb | hb
                · exact List.eq_of_mem_replicate hb
                · exact Classical.byContradiction fun h => hno ⟨_, hb, h⟩
              · exact List.eq_of_mem_replicate hb
            rw [hz]
            rfl
          have hcd : crcOf D ≠ 0 := by
            unfold crcOf
            rw [hDb]
            exact crc_nonzero at_ e M hM hM2 hne
          have : (((crcOf D : Nat) : Int) != 0) = true := by
            rw [bne_iff_ne]
            omega
          rw [this]
          exact Ev.now _

end Go.Proofs.YtkigjidjbjbjlaaDoor.Pure
