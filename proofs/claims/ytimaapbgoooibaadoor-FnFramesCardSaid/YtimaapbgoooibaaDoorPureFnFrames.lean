/- For a drawn frame: its bits are read as it; for drawn bits: stuffed, no six side by side are alike, and unstuffed they are what they were. No condition. -/
import Derived.Test.YtimaapbgoooibaaDoorQFnFramesx7
import Derived.Test.YtimaapbgoooibaaDoorPlain
namespace Go.Proofs.YtimaapbgoooibaaDoor.Pure
open Go.RowKit Go.Proofs.YtimaapbgoooibaaDoor.PFnFrames Go.Proofs.YtimaapbgoooibaaDoor.Plain Go.Proofs.YtimaapbgoooibaaDoorW.PrintWords Go.Proofs.YtimaapbgoooibaaDoorW.PrintLast
set_option linter.unusedVariables false
set_option linter.unusedSimpArgs false

theorem ba_ext {a b : ByteArray} (h : a.data.toList = b.data.toList) : a = b := by
  obtain ⟨⟨x⟩⟩ := a
  obtain ⟨⟨y⟩⟩ := b
  simp only at h
  rw [h]
theorem ext_list (s : ByteArray) (a b : Nat) : (s.extract a b).data.toList = (s.data.toList.drop a).take (b - a) := by
  obtain ⟨⟨l⟩⟩ := s
  have e : (ByteArray.mk (Array.mk l)).extract a b = ByteArray.mk ((l.drop a).take (b - a)).toArray := ByteArray.extract_mk l a b
  rw [e]
def cu (r b : Nat) : Nat := (r >>> 14) ^^^ b
def cs (r b : Nat) : Nat := ((r <<< 1) &&& 32767) ^^^ (cu r b * 17817)
theorem bit01 (r b : Nat) (hr : r < 32768) (hb : b < 2) : cu r b = 0 ∨ cu r b = 1 := by
  have h1 : r >>> 14 < 2 := by rw [Nat.shiftRight_eq_div_pow]; omega
  have h2 : cu r b < 2 ^ 1 := Nat.xor_lt_two_pow (n := 1) h1 hb
  omega
theorem cs_lt (r b : Nat) (hr : r < 32768) (hb : b < 2) : cs r b < 32768 := by
  have h1 : ((r <<< 1) &&& 32767) < 2 ^ 15 := Nat.and_lt_two_pow _ (by decide)
  have h2 : cu r b * 17817 < 2 ^ 15 := by rcases bit01 r b hr hb with h | h <;> rw [h] <;> decide
  exact Nat.xor_lt_two_pow h1 h2
theorem xor_bits (b b' : Nat) (hb : b < 2) (hb' : b' < 2) : b ^^^ b' < 2 := Nat.xor_lt_two_pow (n := 1) hb hb'
theorem xor_15 (r r' : Nat) (hr : r < 32768) (hr' : r' < 32768) : r ^^^ r' < 32768 := Nat.xor_lt_two_pow (n := 15) hr hr'
theorem mul_xor (p q : Nat) (hp : p = 0 ∨ p = 1) (hq : q = 0 ∨ q = 1) : (p ^^^ q) * 17817 = (p * 17817) ^^^ (q * 17817) := by
  rcases hp with rfl | rfl <;> rcases hq with rfl | rfl <;> decide
theorem cs_xor (r r' b b' : Nat) (hr : r < 32768) (hr' : r' < 32768) (hb : b < 2) (hb' : b' < 2) : cs (r ^^^ r') (b ^^^ b') = cs r b ^^^ cs r' b' := by
  have e : cu (r ^^^ r') (b ^^^ b') = cu r b ^^^ cu r' b' := by
    unfold cu
    rw [Nat.shiftRight_xor_distrib]
    ac_rfl
  unfold cs
  rw [e, mul_xor _ _ (bit01 r b hr hb) (bit01 r' b' hr' hb'), Nat.shiftLeft_xor_distrib, Nat.and_xor_distrib_right]
  ac_rfl
def crc (l : List Nat) (r : Nat) : Nat := l.foldl cs r
theorem crc_lt : ∀ (l : List Nat) (r : Nat), (∀ b ∈ l, b < 2) → r < 32768 → crc l r < 32768
  | [], r, _, hr => hr
  | b :: l, r, h, hr => crc_lt l (cs r b) (fun x hx => h x (List.mem_cons_of_mem _ hx)) (cs_lt r b hr (h b List.mem_cons_self))
theorem crc_xor : ∀ (l l' : List Nat) (r r' : Nat), l.length = l'.length → (∀ b ∈ l, b < 2) → (∀ b ∈ l', b < 2) → r < 32768 → r' < 32768 →
    crc (List.zipWith (· ^^^ ·) l l') (r ^^^ r') = crc l r ^^^ crc l' r'
  | [], [], r, r', _, _, _, _, _ => rfl
  | b :: l, b' :: l', r, r', hl, h, h', hr, hr' => by
    have hb := h b List.mem_cons_self
    have hb' := h' b' List.mem_cons_self
    have ih := crc_xor l l' (cs r b) (cs r' b') (by simpa using hl) (fun x hx => h x (List.mem_cons_of_mem _ hx)) (fun x hx => h' x (List.mem_cons_of_mem _ hx)) (cs_lt r b hr hb) (cs_lt r' b' hr' hb')
    rw [← cs_xor r r' b b' hr hr' hb hb'] at ih
    exact ih
theorem cs_even (r b : Nat) (hu : cu r b = 0) : cs r b = (2 * r) % 32768 := by
  unfold cs
  rw [hu, Nat.zero_mul, Nat.xor_zero, Nat.shiftLeft_eq, show (32767 : Nat) = 2 ^ 15 - 1 from rfl, Nat.and_two_pow_sub_one_eq_mod]
  omega
theorem cs_odd (r b : Nat) (hu : cu r b = 1) : cs r b % 2 = 1 := by
  unfold cs
  rw [hu, Nat.one_mul, Nat.shiftLeft_eq, show (32767 : Nat) = 2 ^ 15 - 1 from rfl, Nat.and_two_pow_sub_one_eq_mod]
  have e : (r * 2 ^ 1 % 2 ^ 15 ^^^ 17817) % 2 ^ 1 = (r * 2 ^ 1 % 2 ^ 15 % 2 ^ 1) ^^^ (17817 % 2 ^ 1) := Nat.xor_mod_two_pow
  have e0 : r * 2 ^ 1 % 2 ^ 15 % 2 ^ 1 = 0 := by omega
  rw [e0] at e
  exact e
theorem cs_zero (r : Nat) (hr : r < 32768) (h0 : r ≠ 0) : cs r 0 ≠ 0 := by
  rcases bit01 r 0 hr (by omega) with hu | hu
  · rw [cs_even r 0 hu]
    have h : r >>> 14 = 0 := by
      have := hu
      unfold cu at this
      rw [Nat.xor_zero] at this
      exact this
    rw [Nat.shiftRight_eq_div_pow] at h
    omega
  · have := cs_odd r 0 hu
    omega
theorem crc_zeros : ∀ (n r : Nat), r < 32768 → r ≠ 0 → crc (List.replicate n 0) r ≠ 0
  | 0, r, _, h => h
  | n + 1, r, hr, h => by
    rw [List.replicate_succ]
    exact crc_zeros n (cs r 0) (cs_lt r 0 hr (by omega)) (cs_zero r hr h)
theorem crc_zero_zeros : ∀ n : Nat, crc (List.replicate n 0) 0 = 0
  | 0 => rfl
  | n + 1 => by
    rw [List.replicate_succ]
    show crc (List.replicate n 0) (cs 0 0) = 0
    rw [show cs 0 0 = 0 by decide]
    exact crc_zero_zeros n
theorem crc_burst : ∀ (l : List Nat) (k r : Nat), (∀ b ∈ l, b < 2) → r < 32768 → k + l.length ≤ 15 → r % 2 ^ k ≠ 0 → crc l r ≠ 0
  | [], k, r, _, _, _, h => fun e => by
    have e' : r = 0 := e
    rw [e'] at h
    simp at h
  | b :: l, k, r, hl, hr, hk, h => by
    have hb := hl b List.mem_cons_self
    rw [List.length_cons] at hk
    refine crc_burst l (k + 1) (cs r b) (fun x hx => hl x (List.mem_cons_of_mem _ hx)) (cs_lt r b hr hb) (by omega) ?_
    rcases bit01 r b hr hb with hu | hu
    · rw [cs_even r b hu]
      have hd : (2 : Nat) ^ (k + 1) ∣ 32768 := by
        rw [show (32768 : Nat) = 2 ^ 15 from rfl]
        exact Nat.pow_dvd_pow 2 (by omega)
      rw [Nat.mod_mod_of_dvd _ hd, Nat.pow_succ, Nat.mul_comm (2 ^ k) 2, Nat.mul_mod_mul_left]
      omega
    · intro e
      have h2 : cs r b % 2 = 0 := by
        have hd : (2 : Nat) ∣ 2 ^ (k + 1) := by rw [Nat.pow_succ]; exact Nat.dvd_mul_left 2 _
        have := Nat.mod_mod_of_dvd (cs r b) hd
        rw [e] at this
        omega
      have := cs_odd r b hu
      omega
theorem crc_append (l l' : List Nat) (r : Nat) : crc (l ++ l') r = crc l' (crc l r) := List.foldl_append
/-- A row of noughts, then at most 15 bits, then noughts: its sum is nought only if all are. -/
theorem crc_nonzero (a c : Nat) (l : List Nat) (hl : ∀ b ∈ l, b < 2) (h15 : l.length ≤ 15) (h : ∃ b ∈ l, b ≠ 0) : crc (List.replicate a 0 ++ l ++ List.replicate c 0) 0 ≠ 0 := by
  rw [crc_append, crc_append, crc_zero_zeros]
  have hlt : crc l 0 < 32768 := crc_lt l 0 hl (by omega)
  refine crc_zeros c _ hlt ?_
  have key : ∀ (l : List Nat), (∀ b ∈ l, b < 2) → l.length ≤ 15 → (∃ b ∈ l, b ≠ 0) → crc l 0 ≠ 0 := by
    intro l
    induction l with
    | nil => rintro _ _ ⟨b, hb, _⟩; simp at hb
    | cons b l ih =>
      rintro hl h15 ⟨x, hx, hne⟩
      have hb := hl b List.mem_cons_self
      rw [List.length_cons] at h15
      show crc l (cs 0 b) ≠ 0
      by_cases h0 : b = 0
      · rw [h0, show cs 0 0 = 0 by decide]
        refine ih (fun y hy => hl y (List.mem_cons_of_mem _ hy)) (by omega) ⟨x, ?_, hne⟩
        rcases List.mem_cons.1 hx with rfl | hx
        · exact absurd h0 hne
        · exact hx
      · have h1 : b = 1 := by omega
        rw [h1]
        exact crc_burst l 1 (cs 0 1) (fun y hy => hl y (List.mem_cons_of_mem _ hy)) (by decide) (by omega) (by decide)
  exact key l hl h15 h
theorem size_list (s : ByteArray) : s.size = s.data.toList.length := Lib.size_eq s
theorem bt_list (s : ByteArray) (i : Nat) (h : i < s.size) : bt s (i : Int) = ((s.data.toList[i]'(by rw [← size_list]; exact h)).toNat : Int) := by
  have : ((i : Int)).toNat = i := by omega
  simp only [bt, this, h, dif_pos]
  rfl
def is01 (b : UInt8) : Bool := b == 48 || b == 49
def good (s : ByteArray) : Bool := decide ((s.size : Int) ≤ 300) && s.data.toList.all is01
theorem dw_nil {α : Type} (p : α → Bool) : ∀ l : List α, l.dropWhile p = [] ↔ ∀ x ∈ l, p x = true
  | [] => by simp
  | a :: l => by
    rw [List.dropWhile_cons]
    cases h : p a with
    | true =>
      simp only [if_true, List.mem_cons, forall_eq_or_imp, h, true_and]
      exact dw_nil p l
    | false =>
      simp [h]
theorem dw_head {α : Type} (p : α → Bool) : ∀ (l : List α) (a : α) (r : List α), l.dropWhile p = a :: r → p a = false
  | [], a, r, h => by simp at h
  | b :: l, a, r, h => by
    rw [List.dropWhile_cons] at h
    cases hb : p b with
    | true =>
      rw [hb] at h
      exact dw_head p l a r h
    | false =>
      rw [hb] at h
      simp only [Bool.false_eq_true, if_false, List.cons.injEq] at h
      rw [← h.1]
      exact hb
theorem trim_nil (l cs : List UInt8) : Lib.trimS l cs = [] ↔ ∀ x ∈ l, cs.contains x = true := by
  unfold Lib.trimS Lib.trimLeftS Lib.trimRightS
  rw [dw_nil]
  constructor
  · intro h
    have h2 : l.reverse.dropWhile (cs.contains ·) = [] := by
      cases hd : l.reverse.dropWhile (cs.contains ·) with
      | nil => rfl
      | cons a r =>
        have h3 := h a (by rw [hd]; simp)
        have h4 := dw_head _ _ _ _ hd
        rw [h3] at h4
        cases h4
    rw [dw_nil] at h2
    intro x hx
    exact h2 x (List.mem_reverse.2 hx)
  · intro h x hx
    have h2 : l.reverse.dropWhile (cs.contains ·) = [] := by
      rw [dw_nil]
      exact fun y hy => h y (List.mem_reverse.1 hy)
    rw [h2] at hx
    simp at hx
theorem bits_good (s : ByteArray) : bits01 s = good s := by
  unfold bits01 good
  congr 1
  rw [Bool.eq_iff_iff, decide_eq_true_eq, trim_nil, List.all_eq_true]
  constructor
  · intro h x hx
    have := h x hx
    unfold is01
    simpa using this
  · intro h x hx
    have := h x hx
    unfold is01 at this
    simpa using this
theorem impl_goodBits_ev (s : ByteArray) (hs : s.size ≤ 1048576) : Ev (fun k => impl_goodBits.f k s) (good s) := by
  refine ⟨0, fun k _ => ?_⟩
  unfold impl_goodBits.f
  rw [if_pos (by omega), bits_good]
theorem at01 (s : ByteArray) (h : s.data.toList.all is01 = true) (i : Nat) (hi : i < s.size) : (bt s (i : Int) = 48 ∨ bt s (i : Int) = 49) := by
  rw [bt_list s i hi]
  have := List.all_eq_true.1 h _ (List.getElem_mem (by rw [← size_list]; exact hi))
  unfold is01 at this
  rw [Bool.or_eq_true, beq_iff_eq, beq_iff_eq] at this
  rcases this with e | e
  · left; rw [e]; rfl
  · right; rw [e]; rfl
theorem spec_bits_ev (s : ByteArray) (hs : s.size ≤ 1048576) : Ev (fun k => spec_l23Bits.f k s) (good s) := by
  unfold good
  simp only [spec_l23Bits.f]
  by_cases h : (s.size : Int) > 300
  · have : ¬ ((s.size : Int) ≤ 300) := by omega
    simp only [h, if_true, decide_eq_false this, Bool.false_and]
    exact Ev.now _
  · have h3 : (s.size : Int) ≤ 300 := by omega
    simp only [h, if_false, decide_eq_true h3, Bool.true_and]
    have go := all_loop (fun k i => spec_l23Bits.l0 k s i) s.size (fun i => decide (bt s (i : Int) = 48) || decide (bt s (i : Int) = 49)) true false
      (Ev.next ⟨0, fun k _ => by simp only [spec_l23Bits.l0]; rw [if_neg (by omega)]⟩)
      (fun i hi hp => ⟨0, fun k _ => by
        have e : wrap64 ((i : Int) + 1) = ((i + 1 : Nat) : Int) := wrap_succ i (by omega)
        simp only [spec_l23Bits.l0, e]
        rw [if_pos (by omega), if_pos (by omega)]
        rw [Bool.or_eq_true, decide_eq_true_eq, decide_eq_true_eq] at hp
        by_cases h1 : bt s (i : Int) = 48
        · rw [if_pos h1]
        · rw [if_neg h1, if_pos (by omega)]⟩)
      (fun i hi hp => ⟨0, fun k _ => by
        simp only [spec_l23Bits.l0]
        rw [if_pos (by omega), if_pos (by omega)]
        rw [Bool.or_eq_false_iff, decide_eq_false_iff_not, decide_eq_false_iff_not] at hp
        rw [if_neg hp.1, if_neg hp.2]⟩)
    have he : (if (List.range s.size).all (fun i => decide (bt s (i : Int) = 48) || decide (bt s (i : Int) = 49)) = true then true else false) = s.data.toList.all is01 := by
      rw [show ∀ b : Bool, (if b = true then true else false) = b from fun b => by cases b <;> rfl, Bool.eq_iff_iff, range_all, List.all_eq_true]
      constructor
      · intro h x hx
        obtain ⟨i, hi, rfl⟩ := List.getElem_of_mem hx
        have hi' : i < s.size := by rw [size_list]; exact hi
        have := h i hi'
        rw [Bool.or_eq_true, decide_eq_true_eq, decide_eq_true_eq, bt_list s i hi'] at this
        unfold is01
        rw [Bool.or_eq_true, beq_iff_eq, beq_iff_eq]
        rcases this with e | e
        · left; exact UInt8.toNat_inj.1 (by have : (s.data.toList[i]).toNat = 48 := by omega
                                            exact this)
        · right; exact UInt8.toNat_inj.1 (by have : (s.data.toList[i]).toNat = 49 := by omega
                                             exact this)
      · intro h i hi
        have := at01 s (List.all_eq_true.2 h) i hi
        rw [Bool.or_eq_true, decide_eq_true_eq, decide_eq_true_eq]
        exact this
    rw [he] at go
    exact go

def bitsOf (s : ByteArray) : List Nat := s.data.toList.map fun b => b.toNat - 48
theorem bits_length (s : ByteArray) : (bitsOf s).length = s.size := by unfold bitsOf; rw [List.length_map, ← size_list]
theorem bits_lt (s : ByteArray) (h : s.data.toList.all is01 = true) : ∀ b ∈ bitsOf s, b < 2 := by
  intro b hb
  unfold bitsOf at hb
  obtain ⟨x, hx, rfl⟩ := List.mem_map.1 hb
  have := List.all_eq_true.1 h x hx
  unfold is01 at this
  rw [Bool.or_eq_true, beq_iff_eq, beq_iff_eq] at this
  rcases this with e | e <;> rw [e] <;> decide
theorem bit_at (s : ByteArray) (i : Nat) (hi : i < s.size) (h : s.data.toList.all is01 = true) : bt s (i : Int) = 48 + (((bitsOf s)[i]'(by rw [bits_length]; exact hi) : Nat) : Int) := by
  have h2 := at01 s h i hi
  rw [bt_list s i hi] at h2 ⊢
  unfold bitsOf
  rw [List.getElem_map]
  omega
def crcOf (s : ByteArray) : Nat := crc (bitsOf s) 0
theorem crc_of_lt (s : ByteArray) (h : s.data.toList.all is01 = true) : crcOf s < 32768 := crc_lt _ _ (bits_lt s h) (by decide)
theorem hk62 (n : Int) (h0 : 0 ≤ n) (h1 : n < 2 ^ 62) : IntKind.i64.wrap n = n := by rw [IntKind.wrap_i64]; omega
theorem lt62 (n : Nat) (h : n < 2 ^ 62) : (n : Int) < 2 ^ 62 := by exact_mod_cast h
theorem xor64 (a b : Nat) (ha : a < 2 ^ 62) (hb : b < 2 ^ 62) : Go.bits .xor .i64 (a : Int) (b : Int) = ((a ^^^ b : Nat) : Int) := by
  have hp : (2 : Nat) ^ 62 ≤ 2 ^ IntKind.i64.bits := by decide
  have ha' : a % 2 ^ IntKind.i64.bits = a := Nat.mod_eq_of_lt (Nat.lt_of_lt_of_le ha hp)
  have hb' : b % 2 ^ IntKind.i64.bits = b := Nat.mod_eq_of_lt (Nat.lt_of_lt_of_le hb hp)
  simp only [Go.bits, BitVec.ofInt_natCast, BitVec.toNat_xor, BitVec.toNat_ofNat, ha', hb']
  have hx : a ^^^ b < 2 ^ 62 := Nat.xor_lt_two_pow ha hb
  exact hk62 _ (Int.natCast_nonneg _) (by exact_mod_cast hx)
theorem and15 (n : Nat) (h : n < 2 ^ 61) : Go.bits .and .i64 (n : Int) 32767 = ((n % 32768 : Nat) : Int) := by
  have h1 := bits_mask .i64 62 (by decide) hk62 15 (by decide) (n : Int) (Int.natCast_nonneg _) (lt62 _ (by omega))
  have e : ((2 : Int) ^ 15 - 1) = 32767 := by decide
  rw [e] at h1
  rw [h1]
  omega
theorem cs_form (r b : Nat) : cs r b = ((2 * r) % 32768) ^^^ (cu r b * 17817) := by
  unfold cs
  rw [Nat.shiftLeft_eq, show (32767 : Nat) = 2 ^ 15 - 1 from rfl, Nat.and_two_pow_sub_one_eq_mod]
  congr 1
  omega
theorem cu_int (r b : Nat) (hr : r < 32768) (hb : b < 2) : Go.bits .xor .i64 ((r : Int) / 16384) ((48 + (b : Int) - 48) % 256) = ((cu r b : Nat) : Int) := by
  have e1 : (r : Int) / 16384 = ((r / 16384 : Nat) : Int) := by omega
  have e2 : (48 + (b : Int) - 48) % 256 = ((b : Nat) : Int) := by omega
  rw [e1, e2, xor64 _ _ (by omega) (by omega)]
  unfold cu
  rw [Nat.shiftRight_eq_div_pow]
theorem crc_take (s : ByteArray) (i : Nat) (hi : i < (bitsOf s).length) : crc ((bitsOf s).take (i + 1)) 0 = cs (crc ((bitsOf s).take i) 0) (bitsOf s)[i] := by
  rw [List.take_succ_eq_append_getElem hi, crc_append]
  rfl
theorem crc_step (r b : Nat) (hr : r < 32768) (hb : b < 2) : (if ((cu r b : Nat) : Int) = 1 then Go.bits .xor .i64 (Go.bits .and .i64 (wrap64 ((r : Int) * 2)) 32767) 17817 else Go.bits .and .i64 (wrap64 ((r : Int) * 2)) 32767) = ((cs r b : Nat) : Int) := by
  have e1 : wrap64 ((r : Int) * 2) = ((2 * r : Nat) : Int) := by rw [wrap_in (by omega) (by omega)]; omega
  rw [e1, and15 _ (by omega), cs_form]
  rcases bit01 r b hr hb with h | h
  · rw [h, if_neg (by omega)]
    simp
  · rw [h, if_pos (by omega), show (17817 : Int) = ((17817 : Nat) : Int) from rfl, xor64 _ _ (by omega) (by omega)]
theorem impl_crc_ev (s : ByteArray) (hs : s.size ≤ 1048576) (h : s.data.toList.all is01 = true) : Ev (fun k => impl_crc15.f k s) ((crcOf s : Nat) : Int) := by
  have hl := bits_length s
  have := run_loop (fun k i (r : Int) => impl_crc15.l0 k s r (s.size : Int) i) s.size (fun i => ((crc ((bitsOf s).take i) 0 : Nat) : Int)) ((crcOf s : Nat) : Int) ?_ ?_ 0 (Nat.zero_le _)
  · exact this
  · refine Ev.next ⟨0, fun k _ => ?_⟩
    simp only [impl_crc15.l0, Int.lt_irrefl, if_false]
    unfold crcOf
    rw [← hl, List.take_length]
  · intro i hi
    refine ⟨0, fun k _ => ?_⟩
    have hi2 : i < (bitsOf s).length := by omega
    have e : wrap64 ((i : Int) + 1) = ((i + 1 : Nat) : Int) := wrap_succ i (by omega)
    have hr : crc ((bitsOf s).take i) 0 < 32768 := crc_lt _ _ (fun b hb => bits_lt s h b (List.mem_of_mem_take hb)) (by decide)
    have hb := bits_lt s h (bitsOf s)[i] (List.getElem_mem hi2)
    have hstep := crc_step (crc ((bitsOf s).take i) 0) (bitsOf s)[i] hr hb
    show impl_crc15.l0 (k + 1) s ((crc ((bitsOf s).take i) 0 : Nat) : Int) (s.size : Int) (i : Int) = impl_crc15.l0 k s ((crc ((bitsOf s).take (i + 1)) 0 : Nat) : Int) (s.size : Int) ((i + 1 : Nat) : Int)
    rw [crc_take s i hi2, ← hstep]
    simp only [impl_crc15.l0, e, bit_at s i hi h]
    rw [if_pos (by omega), if_pos (by omega), if_pos (by omega), cu_int _ _ hr hb]
    split <;> rfl
theorem spec_crc_ev (s : ByteArray) (hs : s.size ≤ 1048576) (h : s.data.toList.all is01 = true) : Ev (fun k => spec_l23Crc.f k s) ((crcOf s : Nat) : Int) := by
  have hl := bits_length s
  have := run_loop (fun k i (r : Int) => spec_l23Crc.l0 k s r i) s.size (fun i => ((crc ((bitsOf s).take i) 0 : Nat) : Int)) ((crcOf s : Nat) : Int) ?_ ?_ 0 (Nat.zero_le _)
  · exact this
  · refine Ev.next ⟨0, fun k _ => ?_⟩
    simp only [spec_l23Crc.l0, Int.lt_irrefl, if_false]
    unfold crcOf
    rw [← hl, List.take_length]
  · intro i hi
    refine ⟨0, fun k _ => ?_⟩
    have hi2 : i < (bitsOf s).length := by omega
    have e : wrap64 ((i : Int) + 1) = ((i + 1 : Nat) : Int) := wrap_succ i (by omega)
    have hr : crc ((bitsOf s).take i) 0 < 32768 := crc_lt _ _ (fun b hb => bits_lt s h b (List.mem_of_mem_take hb)) (by decide)
    have hb := bits_lt s h (bitsOf s)[i] (List.getElem_mem hi2)
    have hstep := crc_step (crc ((bitsOf s).take i) 0) (bitsOf s)[i] hr hb
    have hand : Go.bits .and .i64 (((crc ((bitsOf s).take i) 0 : Nat) : Int) / 16384) 1 = ((crc ((bitsOf s).take i) 0 : Nat) : Int) / 16384 := by
      obtain ⟨q, hq⟩ : ∃ q : Nat, ((crc ((bitsOf s).take i) 0 : Nat) : Int) / 16384 = (q : Int) ∧ q < 2 := ⟨crc ((bitsOf s).take i) 0 / 16384, by omega, by omega⟩
      rw [hq.1]
      have h1 := bits_mask .i64 62 (by decide) hk62 1 (by decide) (q : Int) (Int.natCast_nonneg _) (lt62 _ (by omega))
      have e : ((2 : Int) ^ 1 - 1) = 1 := by decide
      rw [e] at h1
      rw [h1]
      omega
    show spec_l23Crc.l0 (k + 1) s ((crc ((bitsOf s).take i) 0 : Nat) : Int) (i : Int) = spec_l23Crc.l0 k s ((crc ((bitsOf s).take (i + 1)) 0 : Nat) : Int) ((i + 1 : Nat) : Int)
    rw [crc_take s i hi2, ← hstep]
    simp only [spec_l23Crc.l0, e, bit_at s i hi h, hand]
    rw [if_pos (by omega), if_pos (by omega), cu_int _ _ hr hb]
    split <;> rfl
theorem good_all (s : ByteArray) (h : good s = true) : s.data.toList.all is01 = true := by
  unfold good at h
  rw [Bool.and_eq_true] at h
  exact h.2
def strB (l : List Nat) : ByteArray := strOfNums (l.map fun b : Nat => 48 + ((b : Nat) : Int))
theorem strB_list (l : List Nat) : (strB l).data.toList = l.map fun b => UInt8.ofNat (48 + b) := by
  unfold strB strOfNums
  simp only [List.map_map]
  congr 1
theorem strB_size (l : List Nat) : (strB l).size = l.length := by rw [size_list, strB_list, List.length_map]
theorem strB_bits (l : List Nat) (h : ∀ b ∈ l, b < 2) : bitsOf (strB l) = l := by
  unfold bitsOf
  rw [strB_list, List.map_map]
  conv => rhs; rw [← List.map_id l]
  refine List.map_congr_left fun b hb => ?_
  have := h b hb
  simp only [Function.comp_apply, id]
  rcases (by omega : b = 0 ∨ b = 1) with rfl | rfl <;> rfl
theorem strB_all (l : List Nat) (h : ∀ b ∈ l, b < 2) : (strB l).data.toList.all is01 = true := by
  rw [strB_list, List.all_eq_true]
  intro x hx
  obtain ⟨b, hb, rfl⟩ := List.mem_map.1 hx
  have := h b hb
  rcases (by omega : b = 0 ∨ b = 1) with rfl | rfl <;> rfl
/-! ### Masks of tasks -/
theorem mask_shr (M t : Nat) (ht : t < 40) : shr .i64 (M : Int) (t : Int) = ((M / 2 ^ t : Nat) : Int) := by
  unfold shr
  have : min ((t : Int)).toNat IntKind.i64.bits = t := by simp [IntKind.bits]; omega
  rw [this]
  exact (Int.natCast_ediv M (2 ^ t)).symm ▸ by simp
theorem mask_shl (t : Nat) (ht : t < 40) : shl .i64 1 (t : Int) = ((2 ^ t : Nat) : Int) := by
  unfold shl
  have : min ((t : Int)).toNat IntKind.i64.bits = t := by simp [IntKind.bits]; omega
  rw [this, Int.one_mul]
  have h : 2 ^ t < 2 ^ 40 := Nat.pow_lt_pow_right (by decide) ht
  rw [IntKind.wrap_i64]
  have e : ((2 : Int) ^ t) = ((2 ^ t : Nat) : Int) := by simp
  rw [e]
  generalize 2 ^ t = p at h ⊢
  omega
theorem i64_small (n : Int) (h0 : 0 ≤ n) (h1 : n < 2 ^ 62) : IntKind.i64.wrap n = n := by rw [IntKind.wrap_i64]; omega
theorem mask_test (M t : Nat) (hM : M < 2 ^ 40) (ht : t < 40) : Go.bits .and .i64 (shr .i64 (M : Int) (t : Int)) 1 = ((M / 2 ^ t % 2 : Nat) : Int) := by
  rw [mask_shr M t ht]
  have h := (bits_nat .i64 62 (by decide) i64_small (M / 2 ^ t) 1 (Nat.lt_of_le_of_lt (Nat.div_le_self _ _) (by omega)) (by decide)).1
  rw [Nat.and_one_is_mod] at h
  exact h
theorem mask_put (M t : Nat) (hM : M < 2 ^ 40) (ht : t < 40) : Go.bits .or .i64 (M : Int) (shl .i64 1 (t : Int)) = ((M ||| 2 ^ t : Nat) : Int) := by
  rw [mask_shl t ht]
  exact (bits_nat .i64 62 (by decide) i64_small M (2 ^ t) (by omega) (Nat.pow_lt_pow_right (by decide) (by omega))).2
theorem mask_lt (M t : Nat) (hM : M < 2 ^ 40) (ht : t < 40) : M ||| 2 ^ t < 2 ^ 40 := Nat.or_lt_two_pow hM (Nat.pow_lt_pow_right (by decide) ht)
theorem mask_mem (M t u : Nat) : (M ||| 2 ^ t) / 2 ^ u % 2 = 1 ↔ (M / 2 ^ u % 2 = 1 ∨ u = t) := by
  have h1 := Nat.testBit_eq_decide_div_mod_eq (x := M ||| 2 ^ t) (i := u)
  have h2 := Nat.testBit_eq_decide_div_mod_eq (x := M) (i := u)
  rw [Nat.testBit_or, h2, Nat.testBit_two_pow] at h1
  constructor
  · intro h
    rw [decide_eq_true h, Bool.or_eq_true, decide_eq_true_eq, decide_eq_true_eq] at h1
    rcases h1 with h1 | h1
    · exact Or.inl h1
    · exact Or.inr h1.symm
  · intro h
    have : (decide (M / 2 ^ u % 2 = 1) || decide (t = u)) = true := by
      rw [Bool.or_eq_true, decide_eq_true_eq, decide_eq_true_eq]
      rcases h with h | h
      · exact Or.inl h
      · exact Or.inr h.symm
    rw [this] at h1
    exact of_decide_eq_true h1.symm
/-- The mask M has just the tasks S. -/
def MaskOf (n M : Nat) (S : List Nat) : Prop := M < 2 ^ 40 ∧ ∀ t, t < n → (M / 2 ^ t % 2 = 1 ↔ t ∈ S)
theorem mask_none (n : Nat) : MaskOf n 0 [] := ⟨by decide, fun t _ => by simp⟩
theorem mask_add {n M : Nat} {S : List Nat} (h : MaskOf n M S) (t : Nat) (ht : t < 40) : MaskOf n (M ||| 2 ^ t) (S ++ [t]) :=
  ⟨mask_lt M t h.1 ht, fun u hu => by rw [mask_mem, h.2 u hu]; simp⟩
theorem wraps_u64 (n : Int) (h₀ : 0 ≤ n) (h₁ : n < 2 ^ 64) : IntKind.u64.wrap n = n := by rw [IntKind.wrap_u64]; omega
theorem u64_rng (n : Int) : 0 ≤ IntKind.u64.wrap n ∧ IntKind.u64.wrap n < 18446744073709551616 := by rw [IntKind.wrap_u64]; omega
theorem u64_and255 (x : Int) (h₀ : 0 ≤ x) (h₁ : x < 2 ^ 64) : Go.bits .and .u64 x 255 = x % 256 := bits_mask .u64 64 (by decide) wraps_u64 8 (by decide) x h₀ h₁
/-- The bytes that the draws read. -/
def Bytes (c : List Int) : Prop := ∀ x ∈ c, 0 ≤ x ∧ x ≤ 255
theorem bytes_rd (c : List Int) (h : Bytes c) (i : Int) : 0 ≤ rd c i ∧ rd c i ≤ 255 := by
  unfold rd
  rw [List.getD_eq_getElem?_getD]
  by_cases hi : i.toNat < c.length
  · rw [List.getElem?_eq_getElem hi]
    exact h _ (List.getElem_mem _)
  · rw [List.getElem?_eq_none (by omega)]
    simp
theorem seed_byte (u : Int) : 0 ≤ wrap64 (Go.bits .and .u64 ((IntKind.u64.wrap u) / 1099511627776) 255) ∧ wrap64 (Go.bits .and .u64 ((IntKind.u64.wrap u) / 1099511627776) 255) ≤ 255 := by
  have h := u64_rng u
  have h1 : 0 ≤ (IntKind.u64.wrap u) / 1099511627776 := by omega
  have h2 : (IntKind.u64.wrap u) / 1099511627776 < 2 ^ 64 := by omega
  rw [u64_and255 _ h1 h2, wrap_in (by omega) (by omega)]
  omega
theorem next_ok (c : List Int) (hc : Bytes c) (a s : Int) (h0 : 0 ≤ a) (h1 : a < 4611686018427387904) : ∃ r s', spec_l1Cur_next.f c a s = some (r, a + 1, s') ∧ 0 ≤ r ∧ r ≤ 255 := by
  have hw : wrap64 (a + 1) = a + 1 := wrap_in (by omega) (by omega)
  have hb := bytes_rd c hc a
  have hwb : wrap64 (rd c a) = rd c a := wrap_in (by omega) (by omega)
  unfold spec_l1Cur_next.f
  simp only [hw, h0, if_true]
  split
  · split
    · exact ⟨_, _, rfl, by omega, by omega⟩
    · exact ⟨_, _, rfl, seed_byte _⟩
  · split
    · exact ⟨_, _, rfl, by omega, by omega⟩
    · exact ⟨_, _, rfl, seed_byte _⟩
theorem pick_ok (c : List Int) (hc : Bytes c) (a s n : Int) (h0 : 0 ≤ a) (h1 : a < 4611686018427387900) (hn : n < 9223372036854775808) :
    ∃ r a' s', spec_l1Cur_pick.f c a s n = some (r, a', s') ∧ 0 ≤ r ∧ (r < n ∨ r = 0) ∧ a ≤ a' ∧ a' ≤ a + 2 := by
  unfold spec_l1Cur_pick.f
  split
  · exact ⟨0, a, s, rfl, by omega, by omega, by omega, by omega⟩
  · obtain ⟨r1, s1, e1, h2, h3⟩ := next_ok c hc a s h0 (by omega)
    rw [e1]
    simp only [Option.bind_some]
    split
    · obtain ⟨r2, s2, e2, h4, h5⟩ := next_ok c hc (a + 1) s1 (by omega) (by omega)
      rw [e2]
      simp only [Option.bind_some]
      rw [if_neg (by omega)]
      have w1 : wrap64 (r1 * 256) = r1 * 256 := wrap_in (by omega) (by omega)
      have w2 : wrap64 (r1 * 256 + r2) = r1 * 256 + r2 := wrap_in (by omega) (by omega)
      rw [w1, w2]
      refine ⟨_, _, _, rfl, ?_, ?_, by omega, by omega⟩
      · rw [Int.tmod_eq_emod_of_nonneg (by omega)]
        exact Int.emod_nonneg _ (by omega)
      · rw [Int.tmod_eq_emod_of_nonneg (by omega)]
        exact .inl (Int.emod_lt_of_pos _ (by omega))
    · rw [if_neg (by omega)]
      refine ⟨_, _, _, rfl, ?_, ?_, by omega, by omega⟩
      · rw [Int.tmod_eq_emod_of_nonneg (by omega)]
        exact Int.emod_nonneg _ (by omega)
      · rw [Int.tmod_eq_emod_of_nonneg (by omega)]
        exact .inl (Int.emod_lt_of_pos _ (by omega))
theorem one_ok (c : List Int) (hc : Bytes c) (a s n : Int) (h0 : 0 ≤ a) (h1 : a < 4611686018427387900) (hn : n < 9223372036854775808) :
    ∃ (b : Bool) (a' s' : Int), spec_l1Cur_one.f c a s n = some (b, a', s') ∧ a ≤ a' ∧ a' ≤ a + 2 := by
  obtain ⟨r, a1, s1, e, p, q, m1, m2⟩ := pick_ok c hc a s n h0 h1 hn
  exact ⟨(r == 0), a1, s1, by simp only [spec_l1Cur_one.f, e, Option.bind_some], m1, m2⟩
theorem text_l1 (c : List Int) (hc : Bytes c) (m : Nat) (hm : m ≤ 400) : ∀ (d : Nat) (x : List Int) (a s : Int), m - x.length ≤ d → x.length ≤ 400 → 0 ≤ a → a + 2 * d < 4611686018427387400 →
    ∃ (r : ByteArray) (a' s' : Int), Ev (fun k => spec_l1Cur_bitText.l1 k x (m : Int) c a s) (r, a', s') ∧ r.size ≤ 400 := by
  intro d
  induction d with
  | zero =>
    intro x a s hd hx h0 h1
    refine ⟨strOfNums x, a, s, Ev.next ⟨0, fun k _ => ?_⟩, ?_⟩
    · have c0 : ¬ ((x.length : Int) < (m : Int)) := by omega
      simp only [spec_l1Cur_bitText.l1, c0, if_false]
    · have : (strOfNums x).size = x.length := by simp [strOfNums, ByteArray.size]
      omega
  | succ d ih =>
    intro x a s hd hx h0 h1
    by_cases c0 : ((x.length : Int) < (m : Int))
    · obtain ⟨r, a1, s1, e1, p1, q1, m1, n1⟩ := pick_ok c hc a s 2 h0 (by omega) (by omega)
      obtain ⟨r', a', s', he, hr⟩ := ih (x ++ [(wrap64 (48 + r)) % 256]) a1 s1 (by rw [List.length_append, List.length_singleton]; omega) (by rw [List.length_append, List.length_singleton]; omega) (by omega) (by omega)
      refine ⟨r', a', s', Ev.step (fun k => ?_) he, hr⟩
      have c1 : x.length < 140737488355328 := by omega
      simp only [spec_l1Cur_bitText.l1, c0, c1, if_true, e1, Option.bind_some]
    · refine ⟨strOfNums x, a, s, Ev.next ⟨0, fun k _ => ?_⟩, ?_⟩
      · simp only [spec_l1Cur_bitText.l1, c0, if_false]
      · have : (strOfNums x).size = x.length := by simp [strOfNums, ByteArray.size]
        omega
theorem text_j2 (c : List Int) (hc : Bytes c) (x : List Int) (a s : Int) (hx : x.length ≤ 400) (h0 : 0 ≤ a) (h1 : a < 4611686018427380000) :
    ∃ (r : ByteArray) (a' s' : Int), Ev (fun k => spec_l1Cur_bitText.j2 k x c a s) (r, a', s') ∧ r.size ≤ 400 := by
  obtain ⟨b, a1, s1, e1, m1, n1⟩ := one_ok c hc a s 30 h0 (by omega) (by omega)
  cases b with
  | true =>
    obtain ⟨r, a2, s2, e2, p2, q2, m2, n2⟩ := pick_ok c hc a1 s1 3 (by omega) (by omega) (by omega)
    obtain ⟨m, hm⟩ : ∃ m : Nat, wrap64 (299 + r) = (m : Int) ∧ m ≤ 400 := ⟨(299 + r).toNat, by rw [wrap_in (by omega) (by omega)]; omega, by omega⟩
    obtain ⟨r', a', s', he, hr⟩ := text_l1 c hc m hm.2 (m - x.length) x a2 s2 (Nat.le_refl _) hx (by omega) (by omega)
    refine ⟨r', a', s', Ev.next ?_, hr⟩
    simp only [spec_l1Cur_bitText.j2, e1, e2, Option.bind_some, if_true, hm.1]
    exact he
  | false =>
    refine ⟨strOfNums x, a1, s1, Ev.next ⟨0, fun k _ => ?_⟩, ?_⟩
    · simp only [spec_l1Cur_bitText.j2, e1, Option.bind_some, Bool.false_eq_true, if_false]
    · have : (strOfNums x).size = x.length := by simp [strOfNums, ByteArray.size]
      omega
theorem text_j1 (c : List Int) (hc : Bytes c) (x : List Int) (b : Bool) (hb : b = true → 0 < x.length) (a s : Int) (hx : x.length ≤ 400) (h0 : 0 ≤ a) (h1 : a < 4611686018427370000) :
    ∃ (r : ByteArray) (a' s' : Int), Ev (fun k => spec_l1Cur_bitText.j1 k x b c a s) (r, a', s') ∧ r.size ≤ 400 := by
  cases b with
  | true =>
    have hp := hb rfl
    obtain ⟨r, a1, s1, e1, p1, q1, m1, n1⟩ := pick_ok c hc a s (x.length : Int) h0 (by omega) (by omega)
    obtain ⟨r', a', s', he, hr⟩ := text_j2 c hc (x.set r.toNat 50) a1 s1 (by rw [List.length_set]; exact hx) (by omega) (by omega)
    refine ⟨r', a', s', Ev.next ?_, hr⟩
    have c1 : r < (x.length : Int) := by omega
    simp only [spec_l1Cur_bitText.j1, e1, Option.bind_some, if_true, p1, c1]
    exact he
  | false =>
    obtain ⟨r', a', s', he, hr⟩ := text_j2 c hc x a s hx h0 (by omega)
    refine ⟨r', a', s', Ev.next ?_, hr⟩
    simp only [spec_l1Cur_bitText.j1, Bool.false_eq_true, if_false]
    exact he
theorem text_l0 (c : List Int) (hc : Bytes c) : ∀ (d : Nat) (x : List Int) (v a s : Int), d ≤ 100 → x.length + d ≤ 400 → 0 ≤ a → a + 2 * d < 4611686018427360000 →
    ∃ (r : ByteArray) (a' s' : Int), Ev (fun k => spec_l1Cur_bitText.l0 k x v (d : Int) c a s) (r, a', s') ∧ r.size ≤ 400 := by
  intro d
  induction d with
  | zero =>
    intro x v a s _ hx h0 h1
    obtain ⟨b, a1, s1, e1, m1, n1⟩ := one_ok c hc a s 30 h0 (by omega) (by omega)
    have hd1 : ¬ (((0 : Nat) : Int) > 0) := by omega
    cases b with
    | true =>
      obtain ⟨r', a', s', he, hr⟩ := text_j1 c hc x (decide ((x.length : Int) > 0)) (fun h => by have := of_decide_eq_true h; omega) a1 s1 (by omega) (by omega) (by omega)
      refine ⟨r', a', s', Ev.next ?_, hr⟩
      simp only [spec_l1Cur_bitText.l0, hd1, if_false, e1, Option.bind_some, if_true]
      exact he
    | false =>
      obtain ⟨r', a', s', he, hr⟩ := text_j1 c hc x false (fun h => by cases h) a1 s1 (by omega) (by omega) (by omega)
      refine ⟨r', a', s', Ev.next ?_, hr⟩
      simp only [spec_l1Cur_bitText.l0, hd1, if_false, e1, Option.bind_some, Bool.false_eq_true]
      exact he
  | succ d ih =>
    intro x v a s hd hx h0 h1
    obtain ⟨b, a1, s1, e1, m1, n1⟩ := one_ok c hc a s 4 h0 (by omega) (by omega)
    have hd1 : ((d + 1 : Nat) : Int) > 0 := by omega
    have hw : wrap64 (((d + 1 : Nat) : Int) - 1) = (d : Int) := by rw [wrap_in (by omega) (by omega)]; omega
    have c1 : x.length < 140737488355328 := by omega
    cases b with
    | true =>
      obtain ⟨r', a', s', he, hr⟩ := ih (x ++ [(97 - v) % 256]) ((97 - v) % 256) a1 s1 (by omega) (by rw [List.length_append, List.length_singleton]; omega) (by omega) (by omega)
      refine ⟨r', a', s', Ev.step (fun k => ?_) he, hr⟩
      simp only [spec_l1Cur_bitText.l0, hd1, if_true, e1, Option.bind_some, c1, hw]
    | false =>
      obtain ⟨r', a', s', he, hr⟩ := ih (x ++ [v]) v a1 s1 (by omega) (by rw [List.length_append, List.length_singleton]; omega) (by omega) (by omega)
      refine ⟨r', a', s', Ev.step (fun k => ?_) he, hr⟩
      simp only [spec_l1Cur_bitText.l0, hd1, if_true, e1, Option.bind_some, c1, hw, Bool.false_eq_true, if_false]
theorem draw_crc (c : List Int) (hc : Bytes c) : ∃ r : ByteArray, Ev (fun k => spec_DrawCrc15.f k c) r ∧ r.size ≤ 400 := by
  have e41 : wrap64 (40 + 1) = 41 := by rw [wrap_in (by omega) (by omega)]; rfl
  obtain ⟨r, a1, s1, e1, p1, q1, m1, n1⟩ := pick_ok c hc 0 0 41 (by omega) (by omega) (by omega)
  obtain ⟨d, rfl⟩ : ∃ d : Nat, r = (d : Int) := ⟨r.toNat, by omega⟩
  obtain ⟨r', a', s', he, hr⟩ := text_l0 c hc d [] 48 a1 s1 (by omega) (by simp; omega) (by omega) (by omega)
  refine ⟨r', ?_, hr⟩
  simp only [spec_DrawCrc15.f, spec_l1Cur_bitText.f, e41, e1, Option.bind_some]
  exact Ev.bind he (Ev.now _)
theorem wrap_lt (n : Int) : wrap64 n < 9223372036854775808 := by unfold wrap64; omega
theorem among_ok (c : List Int) (hc : Bytes c) (a s : Int) (l : List Int) (hl : 0 < l.length) (hl2 : l.length < 1000000) (h0 : 0 ≤ a) (h1 : a < 4611686018427387900) : ∃ r a' s', spec_l1Cur_among.f c a s l = some (r, a', s') ∧ r ∈ l ∧ a ≤ a' ∧ a' ≤ a + 2 := by
  obtain ⟨r, a', s', e, h2, h3, h4, h5⟩ := pick_ok c hc a s (l.length : Int) h0 h1 (by omega)
  have h6 : r < (l.length : Int) := by omega
  have h7 : rd l r ∈ l := by
    rw [show r = ((r.toNat : Nat) : Int) by omega, rd_get l r.toNat (by omega)]
    exact List.getElem_mem _
  refine ⟨rd l r, a', s', ?_, h7, h4, h5⟩
  simp only [spec_l1Cur_among.f, e, Option.bind_some, h2, h6, if_true]
/-! ### Bits stuffed, and taken out again (of no program) -/
def nxt (last run c : Nat) : Nat := if 0 < run ∧ c = last then run + 1 else 1
def sf : Nat → Nat → List Nat → List Nat
  | _, _, [] => []
  | last, run, c :: t => if nxt last run c = 5 then c :: (1 - c) :: sf (1 - c) 1 t else c :: sf c (nxt last run c) t
def us : Nat → Nat → List Nat → Option (List Nat)
  | _, run, [] => if run = 5 then none else some []
  | last, run, c :: t => if run = 5 then (if c = last then none else us c 1 t) else (us c (nxt last run c) t).map (c :: ·)
def ul : Nat → Nat → List Nat → List Nat
  | _, _, [] => []
  | last, run, c :: t => if run = 5 then ul c 1 t else c :: ul c (nxt last run c) t
def s5 (last run : Nat) (x : List Nat) : List Nat := if run = 5 then (1 - last) :: sf (1 - last) 1 x else sf last run x
theorem nxt_le (last run c : Nat) (h : run < 5) : 1 ≤ nxt last run c ∧ nxt last run c ≤ 5 := by
  unfold nxt
  split <;> omega
theorem sf_s5 (last run c : Nat) (t : List Nat) : sf last run (c :: t) = c :: s5 c (nxt last run c) t := by
  unfold s5
  rw [sf]
  split <;> rfl
theorem us_iff : ∀ (l : List Nat) (last run : Nat) (o : List Nat), (∀ b ∈ l, b < 2) → last < 2 → run ≤ 5 → (us last run l = some o ↔ ul last run l = o ∧ s5 last run o = l)
  | [], last, run, o, _, _, hr => by
    by_cases h5 : run = 5
    · simp [us, ul, s5, h5]
    · simp only [us, ul, s5, h5, if_false, Option.some.injEq]
      constructor
      · intro h
        subst h
        exact ⟨rfl, by simp [sf]⟩
      · exact fun h => h.1
  | c :: t, last, run, o, hb, hl, hr => by
    have hc := hb c List.mem_cons_self
    have ht : ∀ b ∈ t, b < 2 := fun b h => hb b (List.mem_cons_of_mem _ h)
    by_cases h5 : run = 5
    · by_cases e : c = last
      · subst e
        simp only [us, ul, s5, h5, if_true]
        constructor
        · intro h; cases h
        · rintro ⟨_, h⟩
          injection h with h1 _
          omega
      · have ih := us_iff t c 1 o ht hc (by omega)
        have e2 : 1 - last = c := by omega
        simp only [us, ul, s5, h5, if_true, e, if_false, e2]
        rw [ih]
        simp [s5]
    · have hn := nxt_le last run c (by omega)
      have ih := us_iff t c (nxt last run c)
      simp only [us, ul, h5, if_false]
      constructor
      · intro h
        obtain ⟨o', ho, rfl⟩ := Option.map_eq_some_iff.1 h
        have := (ih o' ht hc hn.2).1 ho
        refine ⟨by rw [this.1], ?_⟩
        unfold s5
        rw [if_neg h5, sf_s5, this.2]
      · rintro ⟨h1, h2⟩
        subst h1
        unfold s5 at h2
        rw [if_neg h5, sf_s5] at h2
        injection h2 with _ h3
        rw [(ih _ ht hc hn.2).2 ⟨rfl, h3⟩]
        rfl
theorem ul_sf : ∀ (x : List Nat) (last run : Nat), run < 5 → ul last run (sf last run x) = x
  | [], last, run, _ => by simp [sf, ul]
  | c :: t, last, run, h => by
    have hn := nxt_le last run c h
    rw [sf]
    split
    · rename_i e
      have e2 : run ≠ 5 := by omega
      simp only [ul, e2, if_false, e, if_true]
      rw [ul_sf t (1 - c) 1 (by omega)]
    · rename_i e
      have e2 : run ≠ 5 := by omega
      simp only [ul, e2, if_false]
      rw [ul_sf t c (nxt last run c) (by omega)]
theorem sf_bits : ∀ (x : List Nat) (last run : Nat), (∀ b ∈ x, b < 2) → ∀ b ∈ sf last run x, b < 2
  | [], _, _, _ => by simp [sf]
  | c :: t, last, run, h => by
    have hc := h c List.mem_cons_self
    have ht : ∀ b ∈ t, b < 2 := fun b hb => h b (List.mem_cons_of_mem _ hb)
    rw [sf]
    split
    · intro b hb
      rcases List.mem_cons.1 hb with e | hb
      · omega
      · rcases List.mem_cons.1 hb with e | hb
        · omega
        · exact sf_bits t _ _ ht b hb
    · intro b hb
      rcases List.mem_cons.1 hb with e | hb
      · omega
      · exact sf_bits t _ _ ht b hb
theorem sf_len : ∀ (x : List Nat) (last run : Nat), (sf last run x).length ≤ 2 * x.length
  | [], _, _ => by simp [sf]
  | c :: t, last, run => by
    rw [sf]
    split
    · have := sf_len t (1 - c) 1
      simp only [List.length_cons]
      omega
    · have := sf_len t c (nxt last run c)
      simp only [List.length_cons]
      omega
theorem ul_bits : ∀ (x : List Nat) (last run : Nat), (∀ b ∈ x, b < 2) → ∀ b ∈ ul last run x, b < 2
  | [], _, _, _ => by simp [ul]
  | c :: t, last, run, h => by
    have hc := h c List.mem_cons_self
    have ht : ∀ b ∈ t, b < 2 := fun b hb => h b (List.mem_cons_of_mem _ hb)
    rw [ul]
    split
    · exact ul_bits t _ _ ht
    · intro b hb
      rcases List.mem_cons.1 hb with e | hb
      · omega
      · exact ul_bits t _ _ ht b hb
theorem ul_len : ∀ (x : List Nat) (last run : Nat), (ul last run x).length ≤ x.length
  | [], _, _ => by simp [ul]
  | c :: t, last, run => by
    rw [ul]
    split
    · have := ul_len t c 1
      simp only [List.length_cons]
      omega
    · have := ul_len t c (nxt last run c)
      simp only [List.length_cons]
      omega
theorem us_sf (x : List Nat) (h : ∀ b ∈ x, b < 2) : us 0 0 (sf 0 0 x) = some x :=
  (us_iff _ 0 0 x (sf_bits x 0 0 h) (by omega) (by omega)).2 ⟨ul_sf x 0 0 (by omega), by simp [s5]⟩
theorem sf_inj (x y : List Nat) (h : sf 0 0 x = sf 0 0 y) : x = y := by
  rw [← ul_sf x 0 0 (by omega), h, ul_sf y 0 0 (by omega)]
/-! #### numbers in bits -/
def bin (v n : Nat) : List Nat := (List.range n).map (fun i => v / 2 ^ (n - 1 - i) % 2)
theorem bin_len (v n : Nat) : (bin v n).length = n := by simp [bin]
theorem bin_bits (v n : Nat) : ∀ b ∈ bin v n, b < 2 := by
  intro b hb
  obtain ⟨i, _, rfl⟩ := List.mem_map.1 hb
  omega
def val (l : List Nat) : Nat := l.foldl (fun a b => 2 * a + b) 0
theorem val_lt : ∀ (l : List Nat) (a : Nat), (∀ b ∈ l, b < 2) → l.foldl (fun a b => 2 * a + b) a < (a + 1) * 2 ^ l.length
  | [], a, _ => by simp
  | c :: t, a, h => by
    have hc := h c List.mem_cons_self
    have ih := val_lt t (2 * a + c) (fun b hb => h b (List.mem_cons_of_mem _ hb))
    rw [List.foldl_cons, List.length_cons, Nat.pow_succ]
    refine Nat.lt_of_lt_of_le ih ?_
    have : 2 * a + c + 1 ≤ 2 * (a + 1) := by omega
    calc (2 * a + c + 1) * 2 ^ t.length ≤ (2 * (a + 1)) * 2 ^ t.length := Nat.mul_le_mul_right _ this
      _ = (a + 1) * (2 ^ t.length * 2) := by rw [Nat.mul_comm 2 (a + 1), Nat.mul_assoc, Nat.mul_comm 2]
def bodyH (id : Nat) (d : List Nat) : List Nat := 0 :: (bin id 11 ++ (bin d.length 4 ++ d.flatMap (fun x => bin x 8)))
def body (id : Nat) (d : List Nat) : List Nat := bodyH id d ++ bin (crc (bodyH id d) 0) 15
theorem flat_bits (d : List Nat) : ∀ b ∈ d.flatMap (fun x => bin x 8), b < 2 := by
  intro b hb
  obtain ⟨x, _, h⟩ := List.mem_flatMap.1 hb
  exact bin_bits x 8 b h
theorem flat_len (d : List Nat) : (d.flatMap (fun x => bin x 8)).length = 8 * d.length := by
  induction d with
  | nil => simp
  | cons x d ih => rw [List.flatMap_cons, List.length_append, bin_len, ih, List.length_cons]; omega
theorem bodyH_bits (id : Nat) (d : List Nat) : ∀ b ∈ bodyH id d, b < 2 := by
  intro b hb
  unfold bodyH at hb
  rcases List.mem_cons.1 hb with h | h
  · omega
  rcases List.mem_append.1 h with h | h
  · exact bin_bits _ _ b h
  rcases List.mem_append.1 h with h | h
  · exact bin_bits _ _ b h
  · exact flat_bits d b h
theorem bodyH_len (id : Nat) (d : List Nat) : (bodyH id d).length = 16 + 8 * d.length := by
  unfold bodyH
  rw [List.length_cons, List.length_append, List.length_append, bin_len, bin_len, flat_len]
  omega
theorem body_bits (id : Nat) (d : List Nat) : ∀ b ∈ body id d, b < 2 := by
  intro b hb
  rcases List.mem_append.1 hb with h | h
  · exact bodyH_bits id d b h
  · exact bin_bits _ _ b h
theorem body_len (id : Nat) (d : List Nat) : (body id d).length = 31 + 8 * d.length := by
  unfold body
  rw [List.length_append, bodyH_len, bin_len]
  omega
/-- What a text of bits is read as: the bits taken out, the frame in them; ReadFrame's answer. -/
def seg (l : List Nat) (a n : Nat) : List Nat := (l.drop a).take n
def dataOf (o : List Nat) (n : Nat) : List Nat := (List.range n).map (fun i => val (seg o (16 + 8 * i) 8))
def readOf (o : List Nat) : Nat × List Nat × Bool :=
  if o.length < 31 then (0, [], false) else if 8 < val (seg o 12 4) ∨ o.length ≠ 31 + 8 * val (seg o 12 4) then (0, [], false)
  else if body (val (seg o 1 11)) (dataOf o (val (seg o 12 4))) = o then (val (seg o 1 11), dataOf o (val (seg o 12 4)), true) else (0, [], false)
def readAns (l : List Nat) : Nat × List Nat × Bool :=
  if 7 ≤ l.length ∧ l.drop (l.length - 7) = List.replicate 7 1 then (match us 0 0 (l.take (l.length - 7)) with | some o => readOf o | none => (0, [], false)) else (0, [], false)
/-! ### Texts of bits, as the program and the reference go over them -/
theorem ba_eq_iff (a b : ByteArray) : (a.toList = b.toList) ↔ a = b := by
  rw [ByteArray.toList_eq, ByteArray.toList_eq]
  exact ⟨fun h => ba_ext h, fun h => by rw [h]⟩
theorem strB_app (a b : List Nat) : strB a ++ strB b = strB (a ++ b) := ba_ext (by rw [strB_list, List.map_append, ← strB_list, ← strB_list]; simp)
theorem strB_ext (l : List Nat) (a b : Nat) : (strB l).extract a b = strB ((l.drop a).take (b - a)) := ba_ext (by rw [ext_list, strB_list, strB_list, List.map_take, List.map_drop])
theorem strB_inj (a b : List Nat) (ha : ∀ x ∈ a, x < 2) (hb : ∀ x ∈ b, x < 2) (h : strB a = strB b) : a = b := by rw [← strB_bits a ha, h, strB_bits b hb]
theorem good_strB (s : ByteArray) (h : s.data.toList.all is01 = true) : strB (bitsOf s) = s := by
  refine ba_ext ?_
  rw [strB_list]
  unfold bitsOf
  rw [List.map_map]
  conv => rhs; rw [← List.map_id s.data.toList]
  refine List.map_congr_left fun x hx => ?_
  have := List.all_eq_true.1 h x hx
  unfold is01 at this
  rw [Bool.or_eq_true, beq_iff_eq, beq_iff_eq] at this
  rcases this with e | e <;> subst e <;> rfl
theorem btB (l : List Nat) (h : ∀ b ∈ l, b < 2) (i : Nat) (hi : i < l.length) : bt (strB l) (i : Int) = 48 + ((l[i] : Nat) : Int) := by
  have := bit_at (strB l) i (by rw [strB_size]; exact hi) (strB_all l h)
  rw [this]
  congr 2
  have e := strB_bits l h
  simp only [e]
theorem one_strB : (⟨#[48]⟩ : ByteArray) = strB [0] := rfl
theorem seven_strB : (⟨#[49, 49, 49, 49, 49, 49, 49]⟩ : ByteArray) = strB (List.replicate 7 1) := rfl
theorem nil_strB : (⟨#[]⟩ : ByteArray) = strB [] := rfl
/-! #### binary, l23Put -/
theorem bit_val (v j : Nat) (hv : v < 2 ^ 40) (hj : j < 40) : (wrap64 (48 + (Go.bits .and .i64 (shr .i64 (v : Int) (j : Int)) 1))) % 256 = 48 + ((v / 2 ^ j % 2 : Nat) : Int) := by
  rw [mask_test v j hv hj]
  have : v / 2 ^ j % 2 < 2 := Nat.mod_lt _ (by decide)
  rw [wrap_in (by omega) (by omega)]
  omega
theorem binary_ev (v n : Nat) (hv : v < 2 ^ 40) (hn : n ≤ 30) : Ev (fun k => impl_binary.f k (v : Int) (n : Int)) (strB (bin v n)) := by
  have h := run_loop (fun k i (x : List Int) => impl_binary.l0 k (v : Int) (n : Int) x (n : Int) i) n (fun i => (List.range n).map (fun j => if j < i then 48 + ((v / 2 ^ (n - 1 - j) % 2 : Nat) : Int) else 0)) (strB (bin v n)) ?_ ?_ 0 (Nat.zero_le _)
  · refine Ev.congr (fun k => ?_) h
    have e0 : List.replicate ((n : Int)).toNat (0 : Int) = (List.range n).map (fun j => if j < 0 then 48 + ((v / 2 ^ (n - 1 - j) % 2 : Nat) : Int) else 0) := by
      rw [toNat_i]
      refine List.ext_getElem (by simp) (fun i h1 h2 => by simp)
    have g1 : (0 : Int) ≤ (n : Int) := by omega
    have g2 : ((n : Int)).toNat ≤ 281474976710656 := by omega
    simp only [impl_binary.f, g1, g2, if_true, Option.bind_some, e0, List.length_map, List.length_range]
    rfl
  · refine Ev.next ⟨0, fun k _ => ?_⟩
    simp only [impl_binary.l0, Int.lt_irrefl, if_false]
    congr 1
    unfold strB bin
    congr 1
    refine List.ext_getElem (by simp) (fun i h1 h2 => ?_)
    have hi : i < n := by simpa using h1
    simp [hi]
  · intro i hi
    refine ⟨0, fun k _ => ?_⟩
    have g1 : (i : Int) < (n : Int) := by omega
    have e1 : wrap64 (wrap64 ((n : Int) - 1) - (i : Int)) = ((n - 1 - i : Nat) : Int) := by
      rw [wrap_in (n := (n : Int) - 1) (by omega) (by omega), wrap_in (by omega) (by omega)]
      omega
    have g2 : (0 : Int) ≤ ((n - 1 - i : Nat) : Int) := by omega
    have g3 : (0 : Int) ≤ (i : Int) := by omega
    have g4 : (i : Int) < (((List.range n).map (fun j => if j < i then 48 + ((v / 2 ^ (n - 1 - j) % 2 : Nat) : Int) else 0)).length : Int) := by simp; omega
    simp only [impl_binary.l0, g1, e1, g2, g3, g4, if_true, bit_val v (n - 1 - i) hv (by omega), wrap_succ i (by omega), toNat_i]
    congr 1
    refine List.ext_getElem (by simp) (fun j h1 h2 => ?_)
    rw [List.getElem_set]
    simp only [List.getElem_map, List.getElem_range]
    by_cases e : i = j
    · subst e; simp
    · rw [if_neg e]
      by_cases q : j < i
      · rw [if_pos q, if_pos (by omega)]
      · rw [if_neg q, if_neg (by omega)]
theorem up48 (a b : List Nat) : (a ++ b).map (fun b : Nat => 48 + ((b : Nat) : Int)) = a.map (fun b : Nat => 48 + ((b : Nat) : Int)) ++ b.map (fun b : Nat => 48 + ((b : Nat) : Int)) := List.map_append
theorem put_ev (A : List Nat) (v n : Nat) (hv : v < 2 ^ 40) (hn : n ≤ 30) (hA : A.length ≤ 100000) : Ev (fun k => spec_l23Put.f k (A.map (fun b : Nat => 48 + ((b : Nat) : Int))) (v : Int) (n : Int)) ((A ++ bin v n).map (fun b : Nat => 48 + ((b : Nat) : Int))) := by
  have h := run_loop (fun k i (x : List Int) => spec_l23Put.l0 k x (v : Int) ((n : Int) - 1 - i)) n (fun i => (A ++ (bin v n).take i).map (fun b : Nat => 48 + ((b : Nat) : Int))) ((A ++ bin v n).map (fun b : Nat => 48 + ((b : Nat) : Int))) ?_ ?_ 0 (Nat.zero_le _)
  · refine Ev.congr (fun k => ?_) h
    have e1 : wrap64 ((n : Int) - 1) = (n : Int) - 1 - ((0 : Nat) : Int) := by rw [wrap_in (by omega) (by omega)]; omega
    simp only [spec_l23Put.f, e1, List.take_zero, List.append_nil]
  · refine Ev.next ⟨0, fun k _ => ?_⟩
    have g1 : ¬ ((n : Int) - 1 - (n : Int) ≥ 0) := by omega
    have e2 : (bin v n).take n = bin v n := List.take_of_length_le (by rw [bin_len]; exact Nat.le_refl _)
    simp only [spec_l23Put.l0, g1, if_false, e2]
  · intro i hi
    refine ⟨0, fun k _ => ?_⟩
    have e0 : (n : Int) - 1 - (i : Int) = ((n - 1 - i : Nat) : Int) := by omega
    have e3 : ((n - 1 - i : Nat) : Int) - 1 = (n : Int) - 1 - ((i + 1 : Nat) : Int) := by omega
    have g1 : ((n - 1 - i : Nat) : Int) ≥ 0 := by omega
    have e1 : IntKind.u64.wrap ((n - 1 - i : Nat) : Int) = ((n - 1 - i : Nat) : Int) := by rw [IntKind.wrap_u64]; omega
    have g2 : (0 : Int) ≤ ((n - 1 - i : Nat) : Int) := by omega
    have g3 : ((A ++ (bin v n).take i).map (fun b : Nat => 48 + ((b : Nat) : Int))).length < 140737488355328 := by
      simp [bin_len]; omega
    have hb : i < (bin v n).length := by rw [bin_len]; exact hi
    have e2 : (bin v n).take (i + 1) = (bin v n).take i ++ [v / 2 ^ (n - 1 - i) % 2] := by
      rw [List.take_add_one, List.getElem?_eq_getElem hb]
      simp [bin]
    have e4 : wrap64 (((n - 1 - i : Nat) : Int) - 1) = (n : Int) - 1 - ((i + 1 : Nat) : Int) := (wrap_in (by omega) (by omega)).trans e3
    clear e3
    simp only [e0, spec_l23Put.l0, g1, e1, g2, g3, if_true, bit_val v (n - 1 - i) hv (by omega), e4, e2]
    congr 1
    rw [← List.append_assoc, List.map_append (l₂ := [v / 2 ^ (n - 1 - i) % 2])]
    rfl
/-! #### stuff -/
theorem rd_last (B : List Int) (x : Int) (h : B.length < 1000000000) : rd (B ++ [x]) (wrap64 (((B ++ [x]).length : Int) - 1)) = x := by
  have e : wrap64 (((B ++ [x]).length : Int) - 1) = ((B.length : Nat) : Int) := by
    rw [List.length_append, List.length_singleton, wrap_in (by omega) (by omega)]
    omega
  rw [e]
  simp [rd]
/-- The text so far ends in 'last' (where some are alike at its end). -/
def Ends (B : List Int) (last run : Nat) : Prop := 0 < run → ∃ B', B = B' ++ [48 + (last : Int)]
theorem put_sf (B : List Int) (last run c : Nat) (hc : c < 2) (hl : last < 2) (hr : run ≤ 5) (hB : Ends B last run) (hlen : B.length < 1000000) : putStep (B, (run : Int)) (48 + (c : Int)) = (B ++ [48 + (c : Int)], ((nxt last run c : Nat) : Int)) := by
  unfold putStep nxt
  by_cases h0 : 0 < run
  · obtain ⟨B', rfl⟩ := hB h0
    have e := rd_last B' (48 + (last : Int)) (by simp at hlen; omega)
    simp only [e]
    by_cases q : c = last
    · subst q
      rw [if_pos ⟨by omega, rfl⟩, if_pos ⟨h0, rfl⟩]
      congr 1
      rw [wrap_in (by omega) (by omega)]
      omega
    · rw [if_neg (fun h => q (by omega)), if_neg (fun h => q h.2)]
      rfl
  · rw [if_neg (fun h => h0 (by omega)), if_neg (fun h => h0 h.1)]
    rfl
theorem nxt_bound (last run c : Nat) (h : run < 5) : nxt last run c ≤ 5 := (nxt_le last run c h).2
theorem stuff_sf : ∀ (l : List Nat) (B : List Int) (last run : Nat), (∀ b ∈ l, b < 2) → last < 2 → run < 5 → Ends B last run → B.length + 2 * l.length < 1000000 →
    (l.foldl (fun s c => stuffStep s (48 + ((c : Nat) : Int))) (B, (run : Int))).1 = B ++ (sf last run l).map (fun b : Nat => 48 + ((b : Nat) : Int))
  | [], B, last, run, _, _, _, _, _ => by simp [sf]
  | c :: t, B, last, run, hb, hl, hr, hB, hlen => by
    have hc := hb c List.mem_cons_self
    have ht : ∀ b ∈ t, b < 2 := fun b h => hb b (List.mem_cons_of_mem _ h)
    have hn := nxt_le last run c hr
    simp only [List.length_cons] at hlen
    have e1 := put_sf B last run c hc hl (by omega) hB (by omega)
    rw [List.foldl_cons, sf]
    by_cases q : nxt last run c = 5
    · have e2 : stuffStep (B, (run : Int)) (48 + (c : Int)) = putStep (B ++ [48 + (c : Int)], ((5 : Nat) : Int)) (48 + ((1 - c : Nat) : Int)) := by
        unfold stuffStep
        rw [e1, q, if_pos (show ((B ++ [48 + (c : Int)], ((5 : Nat) : Int)) : List Int × Int).2 = 5 from rfl)]
        congr 1
        omega
      have e3 := put_sf (B ++ [48 + (c : Int)]) c 5 (1 - c) (by omega) hc (by omega) (fun _ => ⟨B, rfl⟩) (by simp; omega)
      have e4 : nxt c 5 (1 - c) = 1 := by unfold nxt; rw [if_neg (by omega)]
      rw [e2, e3, e4, if_pos q]
      have ih := stuff_sf t (B ++ [48 + (c : Int)] ++ [48 + ((1 - c : Nat) : Int)]) (1 - c) 1 ht (by omega) (by omega) (fun _ => ⟨_, rfl⟩) (by simp; omega)
      rw [ih]
      simp
    · have e2 : stuffStep (B, (run : Int)) (48 + (c : Int)) = (B ++ [48 + (c : Int)], ((nxt last run c : Nat) : Int)) := by
        unfold stuffStep
        rw [e1, if_neg (by simp only; omega)]
      rw [e2, if_neg q]
      have ih := stuff_sf t (B ++ [48 + (c : Int)]) c (nxt last run c) ht hc (by omega) (fun _ => ⟨B, rfl⟩) (by simp; omega)
      rw [ih]
      simp
theorem stuff_fold (l : List Nat) (h : ∀ b ∈ l, b < 2) : ∀ i, i ≤ l.length → stuffTo (strB l) i = (l.take i).foldl (fun s c => stuffStep s (48 + ((c : Nat) : Int))) ([], 0)
  | 0, _ => by simp [stuffTo]
  | i + 1, hi => by
    have e : l.take (i + 1) = l.take i ++ [l[i]] := by rw [List.take_add_one, List.getElem?_eq_getElem (by omega)]; rfl
    rw [e, List.foldl_append, List.foldl_cons, List.foldl_nil, ← stuff_fold l h i (by omega)]
    simp only [stuffTo]
    rw [btB l h i (by omega)]
theorem stuff_ev (l : List Nat) (h : ∀ b ∈ l, b < 2) (hl : l.length ≤ 400000) : impl_stuff.f (strB l) = some (strB (sf 0 0 l)) := by
  unfold impl_stuff.f
  rw [strB_size, if_pos (by omega)]
  congr 1
  have e := stuff_fold l h l.length (Nat.le_refl _)
  rw [List.take_length] at e
  rw [e]
  have := stuff_sf l [] 0 0 h (by omega) (by omega) (fun h => absurd h (by omega)) (by simp; omega)
  unfold strB
  congr 1
/-! #### UnstuffBits -/
theorem drop_at (l : List Nat) (i : Nat) (hi : i < l.length) : l.drop i = l[i] :: l.drop (i + 1) := List.drop_eq_getElem_cons hi
def lastB (last run : Nat) : Int := if run = 0 then 0 else 48 + (last : Int)
theorem unstuff_impl (l : List Nat) (h : ∀ b ∈ l, b < 2) (hl : l.length ≤ 300) (R : ByteArray × Bool) : ∀ (d i : Nat) (B : List Nat) (last run : Nat), i + d = l.length → last < 2 → run ≤ 5 → B.length ≤ i →
    Ev (fun k => (impl_stuff.f (strB (B ++ ul last run (l.drop i)))).bind fun t => if t.toList = (strB l).toList then some (strB (B ++ ul last run (l.drop i)), true) else some ((⟨#[]⟩ : ByteArray), false)) R →
    Ev (fun k => impl_UnstuffBits.l0 k (strB l) (B.map (fun b : Nat => 48 + ((b : Nat) : Int))) (run : Int) (lastB last run) (i : Int)) R
  | 0, i, B, last, run, hi, _, hr, _, hR => by
    obtain rfl : i = l.length := by omega
    rw [List.drop_length] at hR
    simp only [ul, List.append_nil] at hR
    refine Ev.back 1 0 (fun k _ => ?_) hR
    have g1 : ¬ (l.length : Int) < ((strB l).size : Int) := by rw [strB_size]; omega
    simp only [impl_UnstuffBits.l0, g1, if_false]
    rfl
  | d + 1, i, B, last, run, hi, hl2, hr, hBl, hR => by
    have hlt : i < l.length := by omega
    have hc := h l[i] (List.getElem_mem hlt)
    have g1 : (i : Int) < ((strB l).size : Int) := by rw [strB_size]; omega
    have g2 : (0 : Int) ≤ (i : Int) := by omega
    have eb := btB l h i hlt
    rw [drop_at l i hlt] at hR
    by_cases q : run = 5
    · subst q
      simp only [ul, if_true] at hR
      have ih := unstuff_impl l h hl R d (i + 1) B l[i] 1 (by omega) hc (by omega) (by omega) hR
      refine Ev.back 1 0 (fun k _ => ?_) ih
      simp only [impl_UnstuffBits.l0, g1, g2, if_true, eb, wrap_succ i (by omega)]
      rfl
    · have q2 : ¬ (run : Int) = 5 := by omega
      have hn := nxt_le last run l[i] (by omega)
      simp only [ul, q, if_false] at hR
      have ih := unstuff_impl l h hl R d (i + 1) (B ++ [l[i]]) l[i] (nxt last run l[i]) (by omega) hc hn.2 (by simp; omega) (by simpa using hR)
      have g3 : (B.map (fun b : Nat => 48 + ((b : Nat) : Int))).length < 140737488355328 := by rw [List.length_map]; omega
      have e3 : (B ++ [l[i]]).map (fun b : Nat => 48 + ((b : Nat) : Int)) = B.map (fun b : Nat => 48 + ((b : Nat) : Int)) ++ [48 + ((l[i] : Nat) : Int)] := by simp
      refine Ev.back 1 0 (fun k _ => ?_) ih
      rw [e3]
      by_cases e0 : 0 < run
      · have g5 : (run : Int) > 0 := by omega
        have eL : lastB last run = 48 + (last : Int) := by unfold lastB; rw [if_neg (by omega)]
        by_cases e : l[i] = last
        · have en : nxt last run l[i] = run + 1 := by unfold nxt; rw [if_pos ⟨e0, e⟩]
          have eL2 : lastB l[i] (run + 1) = 48 + (last : Int) := by unfold lastB; rw [if_neg (by omega), e]
          have e4 : 48 + ((l[i] : Nat) : Int) = 48 + (last : Int) := by rw [e]
          simp only [impl_UnstuffBits.l0, g1, g2, if_true, q2, if_false, eb, eL, eL2, en, e4, g3, g5, wrap_succ i (by omega), wrap_succ run (by omega)]
        · have en : nxt last run l[i] = 1 := by unfold nxt; rw [if_neg (fun h => e h.2)]
          have eL2 : lastB l[i] 1 = 48 + ((l[i] : Nat) : Int) := by unfold lastB; rw [if_neg (by omega)]
          have e4 : ¬ (48 + ((l[i] : Nat) : Int) = 48 + (last : Int)) := by omega
          simp only [impl_UnstuffBits.l0, g1, g2, if_true, q2, if_false, eb, eL, eL2, en, e4, g3, g5, wrap_succ i (by omega)]
          rfl
      · have g5 : ¬ (run : Int) > 0 := by omega
        have en : nxt last run l[i] = 1 := by unfold nxt; rw [if_neg (fun h => e0 h.1)]
        have eL2 : lastB l[i] 1 = 48 + ((l[i] : Nat) : Int) := by unfold lastB; rw [if_neg (by omega)]
        simp only [impl_UnstuffBits.l0, g1, g2, if_true, q2, if_false, eb, eL2, en, g3, g5, wrap_succ i (by omega)]
        rfl
def unAns (l : List Nat) : ByteArray × Bool := match us 0 0 l with | some o => (strB o, true) | none => (strB [], false)
theorem good_len (l : List Nat) (h : ∀ b ∈ l, b < 2) : good (strB l) = decide (l.length ≤ 300) := by
  unfold good
  rw [strB_all l h, strB_size, Bool.and_true]
  congr 1
  simp
  omega
def upN (d : List Nat) : List Int := d.map (fun (t : Nat) => (t : Int))
theorem upN_len (d : List Nat) : (upN d).length = d.length := List.length_map ..
theorem upN_at (d : List Nat) (i : Nat) (h : i < d.length) : rd (upN d) (i : Int) = ((d[i] : Nat) : Int) := by
  rw [rd_get (upN d) i (by rw [upN_len]; exact h)]
  simp [upN]
/-! #### number, l23Take -/
theorem val_snoc (l : List Nat) (b : Nat) : val (l ++ [b]) = 2 * val l + b := by simp [val]
theorem val_small (l : List Nat) (h : ∀ b ∈ l, b < 2) (hl : l.length ≤ 60) : val l < 2 ^ 60 := by
  have h1 := val_lt l 0 h
  have h2 : 2 ^ l.length ≤ 2 ^ 60 := Nat.pow_le_pow_right (by decide) hl
  unfold val
  omega
theorem digit (b : Nat) (hb : b < 2) : (48 + (b : Int) - 48) % 256 = (b : Int) := by omega
theorem number_ev (l : List Nat) (h : ∀ b ∈ l, b < 2) (hl : l.length ≤ 60) : Ev (fun k => impl_number.f k (strB l)) ((val l : Nat) : Int) := by
  have hr := run_loop (fun k i (x : Int) => impl_number.l0 k (strB l) x ((strB l).size : Int) i) l.length (fun i => ((val (l.take i) : Nat) : Int)) ((val l : Nat) : Int) ?_ ?_ 0 (Nat.zero_le _)
  · exact Ev.congr (fun k => rfl) hr
  · refine Ev.next ⟨0, fun k _ => ?_⟩
    have g1 : ¬ (l.length : Int) < ((strB l).size : Int) := by rw [strB_size]; omega
    simp only [impl_number.l0, g1, if_false, List.take_length]
  · intro i hi
    refine ⟨0, fun k _ => ?_⟩
    have g1 : (i : Int) < ((strB l).size : Int) := by rw [strB_size]; omega
    have g2 : (0 : Int) ≤ (i : Int) := by omega
    have hb := h l[i] (List.getElem_mem hi)
    have e : l.take (i + 1) = l.take i ++ [l[i]] := by rw [List.take_add_one, List.getElem?_eq_getElem hi]; rfl
    have hv := val_small (l.take i) (fun b hb => h b (List.mem_of_mem_take hb)) (by rw [List.length_take]; omega)
    simp only [impl_number.l0, g1, g2, if_true, btB l h i hi, digit _ hb, wrap_succ i (by omega), e, val_snoc]
    congr 1
    rw [wrap_in (n := 2 * ((val (l.take i) : Nat) : Int)) (by omega) (by omega), wrap_in (by omega) (by omega)]
    omega
theorem seg_len (l : List Nat) (a n : Nat) (h : a + n ≤ l.length) : (seg l a n).length = n := by
  unfold seg
  rw [List.length_take, List.length_drop]
  omega
theorem seg_bits (l : List Nat) (a n : Nat) (h : ∀ b ∈ l, b < 2) : ∀ b ∈ seg l a n, b < 2 := fun b hb => h b (List.mem_of_mem_drop (List.mem_of_mem_take hb))
theorem seg_at (l : List Nat) (a n i : Nat) (h : a + n ≤ l.length) (hi : i < n) : (seg l a n)[i]'(by rw [seg_len l a n h]; exact hi) = l[a + i]'(by omega) := by
  unfold seg
  rw [List.getElem_take, List.getElem_drop]
/-! #### FrameBits, l23Body -/
theorem good_frame (id : Int) (d : List Int) : impl_GoodFrame.f id d = some (decide (0 ≤ id ∧ id ≤ 2047 ∧ d.length ≤ 8)) := by
  unfold impl_GoodFrame.f impl_between.f
  by_cases h0 : id ≥ 0
  · rw [if_pos h0]
    by_cases h1 : id ≤ 2047
    · simp only [Option.bind_some, decide_eq_true h1, if_true]
      congr 1
      rw [decide_eq_decide]
      omega
    · simp only [Option.bind_some, decide_eq_false h1, Bool.false_eq_true, if_false]
      congr 1
      rw [eq_comm, decide_eq_false_iff_not]
      omega
  · rw [if_neg h0]
    simp only [Option.bind_some, Bool.false_eq_true, if_false]
    congr 1
    rw [eq_comm, decide_eq_false_iff_not]
    omega
def pref (id : Nat) (d : List Nat) (i : Nat) : List Nat := 0 :: (bin id 11 ++ (bin d.length 4 ++ (d.take i).flatMap (fun x => bin x 8)))
theorem pref_next (id : Nat) (d : List Nat) (i : Nat) (hi : i < d.length) : pref id d (i + 1) = pref id d i ++ bin d[i] 8 := by
  unfold pref
  have e : d.take (i + 1) = d.take i ++ [d[i]] := by rw [List.take_add_one, List.getElem?_eq_getElem hi]; rfl
  rw [e, List.flatMap_append]
  simp
theorem pref_all (id : Nat) (d : List Nat) : pref id d d.length = bodyH id d := by simp [pref, bodyH]
theorem pref_len (id : Nat) (d : List Nat) (i : Nat) : (pref id d i).length ≤ 16 + 8 * d.length := by
  unfold pref
  rw [List.length_cons, List.length_append, List.length_append, bin_len, bin_len, flat_len, List.length_take]
  omega
theorem crc_strB (l : List Nat) (h : ∀ b ∈ l, b < 2) : crcOf (strB l) = crc l 0 := by unfold crcOf; rw [strB_bits l h]
theorem frame_bits (id : Nat) (d : List Nat) (hid : id ≤ 2047) (hd : d.length ≤ 8) (hb : ∀ x ∈ d, x < 256) : Ev (fun k => impl_FrameBits.f k (id : Int) (upN d)) (strB (sf 0 0 (body id d) ++ List.replicate 7 1)) := by
  have hg := good_frame (id : Int) (upN d)
  rw [decide_eq_true (by rw [upN_len]; omega)] at hg
  have hbo := body_bits id d
  have hbl := body_len id d
  have hbh := bodyH_bits id d
  have hbhl := bodyH_len id d
  have hsl := sf_len (body id d) 0 0
  have hcr : crc (bodyH id d) 0 < 32768 := crc_lt _ _ hbh (by decide)
  obtain ⟨K1, h1⟩ := binary_ev id 11 (by omega) (by omega)
  obtain ⟨K2, h2⟩ := binary_ev d.length 4 (by omega) (by omega)
  obtain ⟨K3, h3⟩ := binary_ev (crc (bodyH id d) 0) 15 (by omega) (by omega)
  obtain ⟨K4, h4⟩ := impl_crc_ev (strB (bodyH id d)) (by rw [strB_size]; omega) (strB_all _ hbh)
  rw [crc_strB _ hbh] at h4
  have hr := run_loop (fun k i (x : ByteArray) => impl_FrameBits.l0 k x (upN d) (d.length : Int) i) d.length (fun i => strB (pref id d i)) (strB (sf 0 0 (body id d) ++ List.replicate 7 1)) ?_ ?_ 0 (Nat.zero_le _)
  · obtain ⟨K5, h5⟩ := hr
    refine ⟨K1 + K2 + K5, fun k hk => ?_⟩
    have a1 := h1 k (by omega)
    have a2 := h2 k (by omega)
    have a5 := h5 k (by omega)
    simp only at a1 a2 a5
    have g1 : 1 + (strB (bin id 11)).size ≤ 9223372036854775807 := by rw [strB_size, bin_len]; omega
    have e1 : (⟨#[48]⟩ : ByteArray) ++ strB (bin id 11) = strB ([0] ++ bin id 11) := by rw [one_strB, strB_app]
    have g2 : (strB ([0] ++ bin id 11)).size + (strB (bin d.length 4)).size ≤ 9223372036854775807 := by rw [strB_size, strB_size, List.length_append, bin_len, bin_len]; simp
    have e2 : strB ([0] ++ bin id 11) ++ strB (bin d.length 4) = strB (pref id d 0) := by rw [strB_app]; simp [pref]
    have g0 : ((11 : Nat) : Int) = 11 := rfl
    have g4 : ((4 : Nat) : Int) = 4 := rfl
    rw [g0] at a1
    rw [g4] at a2
    simp only [impl_FrameBits.f, hg, Option.bind_some, if_true, a1, g1, e1, upN_len, a2, g2, e2]
    exact a5
  · refine Ev.next ⟨K3 + K4, fun k hk => ?_⟩
    have a3 := h3 k (by omega)
    have a4 := h4 k (by omega)
    simp only at a3 a4
    have g0 : ((15 : Nat) : Int) = 15 := rfl
    rw [g0] at a3
    have g1 : (strB (bodyH id d)).size + (strB (bin (crc (bodyH id d) 0) 15)).size ≤ 9223372036854775807 := by rw [strB_size, strB_size, bin_len]; omega
    have e1 : strB (bodyH id d) ++ strB (bin (crc (bodyH id d) 0) 15) = strB (body id d) := strB_app _ _
    have g2 : (strB (sf 0 0 (body id d))).size + 7 ≤ 9223372036854775807 := by rw [strB_size]; omega
    have e2 : strB (sf 0 0 (body id d)) ++ (⟨#[49, 49, 49, 49, 49, 49, 49]⟩ : ByteArray) = strB (sf 0 0 (body id d) ++ List.replicate 7 1) := by rw [seven_strB, strB_app]
    simp only [impl_FrameBits.l0, Int.lt_irrefl, if_false, pref_all, a4, Option.bind_some, a3, g1, if_true, e1, stuff_ev _ hbo (by omega), g2, e2]
  · intro i hi
    obtain ⟨K, hK⟩ := binary_ev d[i] 8 (by have := hb d[i] (List.getElem_mem hi); omega) (by omega)
    refine ⟨K, fun k hk => ?_⟩
    have a := hK k hk
    simp only at a
    have g0 : ((8 : Nat) : Int) = 8 := rfl
    rw [g0] at a
    have g1 : (i : Int) < (d.length : Int) := by omega
    have g2 : (0 : Int) ≤ (i : Int) := by omega
    have g3 : (i : Int) < ((upN d).length : Int) := by rw [upN_len]; omega
    have e1 : wrap64 (rd (upN d) (i : Int)) = ((d[i] : Nat) : Int) := by
      rw [upN_at d i hi]
      have := hb d[i] (List.getElem_mem hi)
      exact wrap_in (by omega) (by omega)
    have g4 : (strB (pref id d i)).size + (strB (bin d[i] 8)).size ≤ 9223372036854775807 := by
      have := pref_len id d i
      rw [strB_size, strB_size, bin_len]
      omega
    have e2 : strB (pref id d i) ++ strB (bin d[i] 8) = strB (pref id d (i + 1)) := by rw [strB_app, pref_next id d i hi]
    simp only [impl_FrameBits.l0, g1, g2, g3, if_true, e1, a, Option.bind_some, g4, e2, wrap_succ i (by omega)]
theorem body_ev (id : Nat) (d : List Nat) (hid : id ≤ 2047) (hd : d.length ≤ 8) (hb : ∀ x ∈ d, x < 256) : Ev (fun k => spec_l23Body.f k (id : Int) (upN d)) (strB (body id d)) := by
  have hbh := bodyH_bits id d
  have hbhl := bodyH_len id d
  have hcr : crc (bodyH id d) 0 < 32768 := crc_lt _ _ hbh (by decide)
  obtain ⟨K1, h1⟩ := put_ev [0] id 11 (by omega) (by omega) (by simp)
  obtain ⟨K2, h2⟩ := put_ev ([0] ++ bin id 11) d.length 4 (by omega) (by omega) (by simp [bin_len])
  obtain ⟨K3, h3⟩ := put_ev (bodyH id d) (crc (bodyH id d) 0) 15 (by omega) (by omega) (by omega)
  obtain ⟨K4, h4⟩ := spec_crc_ev (strB (bodyH id d)) (by rw [strB_size]; omega) (strB_all _ hbh)
  rw [crc_strB _ hbh] at h4
  have hr := run_loop (fun k i (x : List Int) => spec_l23Body.l0 k x (upN d) (d.length : Int) i) d.length (fun i => (pref id d i).map (fun b : Nat => 48 + ((b : Nat) : Int))) (strB (body id d)) ?_ ?_ 0 (Nat.zero_le _)
  · obtain ⟨K5, h5⟩ := hr
    refine ⟨K1 + K2 + K5, fun k hk => ?_⟩
    have a1 := h1 k (by omega)
    have a2 := h2 k (by omega)
    have a5 := h5 k (by omega)
    simp only at a1 a2 a5
    have g0 : ((11 : Nat) : Int) = 11 := rfl
    have g4 : ((4 : Nat) : Int) = 4 := rfl
    rw [g0] at a1
    rw [g4] at a2
    have e0 : ([48] : List Int) = ([0] : List Nat).map (fun b : Nat => 48 + ((b : Nat) : Int)) := rfl
    have e2 : ([0] ++ bin id 11 ++ bin d.length 4) = pref id d 0 := by simp [pref]
    rw [e2] at a2
    simp only [spec_l23Body.f, e0, a1, Option.bind_some, upN_len, a2]
    exact a5
  · refine Ev.next ⟨K3 + K4, fun k hk => ?_⟩
    have a3 := h3 k (by omega)
    have a4 := h4 k (by omega)
    simp only at a3 a4
    have g0 : ((15 : Nat) : Int) = 15 := rfl
    rw [g0] at a3
    have e1 : strOfNums ((bodyH id d).map (fun b : Nat => 48 + ((b : Nat) : Int))) = strB (bodyH id d) := rfl
    simp only [spec_l23Body.l0, Int.lt_irrefl, if_false, pref_all, e1, a4, Option.bind_some, a3]
    rfl
  · intro i hi
    obtain ⟨K, hK⟩ := put_ev (pref id d i) d[i] 8 (by have := hb d[i] (List.getElem_mem hi); omega) (by omega) (by have := pref_len id d i; omega)
    refine ⟨K, fun k hk => ?_⟩
    have a := hK k hk
    simp only at a
    have g0 : ((8 : Nat) : Int) = 8 := rfl
    rw [g0] at a
    have g1 : (i : Int) < (d.length : Int) := by omega
    have g2 : (0 : Int) ≤ (i : Int) := by omega
    have g3 : (i : Int) < ((upN d).length : Int) := by rw [upN_len]; omega
    have e1 : wrap64 (rd (upN d) (i : Int)) = ((d[i] : Nat) : Int) := by
      rw [upN_at d i hi]
      have := hb d[i] (List.getElem_mem hi)
      exact wrap_in (by omega) (by omega)
    simp only [spec_l23Body.l0, g1, g2, g3, if_true, e1, a, Option.bind_some, wrap_succ i (by omega), pref_next id d i hi]
/-! #### ReadFrame -/
theorem seg_val (o : List Nat) (h : ∀ b ∈ o, b < 2) (a n : Nat) : val (seg o a n) < 2 ^ n := by
  have h1 := val_lt (seg o a n) 0 (seg_bits o a n h)
  have h2 : 2 ^ (seg o a n).length ≤ 2 ^ n := Nat.pow_le_pow_right (by decide) (by unfold seg; rw [List.length_take]; omega)
  unfold val
  omega
theorem data_next (o : List Nat) (n : Nat) : dataOf o (n + 1) = dataOf o n ++ [val (seg o (16 + 8 * n) 8)] := by
  unfold dataOf
  rw [List.range_succ, List.map_append]
  rfl
theorem data_len (o : List Nat) (n : Nat) : (dataOf o n).length = n := by simp [dataOf]
theorem data_lt (o : List Nat) (h : ∀ b ∈ o, b < 2) (n : Nat) : ∀ x ∈ dataOf o n, x < 256 := by
  intro x hx
  obtain ⟨i, _, rfl⟩ := List.mem_map.1 hx
  exact seg_val o h _ 8
theorem upN_snoc (d : List Nat) (x : Nat) : upN (d ++ [x]) = upN d ++ [(x : Int)] := by simp [upN]
def trip (R : Nat × List Nat × Bool) : Int × List Int × Bool := ((R.1 : Int), upN R.2.1, R.2.2)
theorem tail_impl (o l : List Nat) (ho : ∀ b ∈ o, b < 2) (hlo : l = sf 0 0 o ++ List.replicate 7 1) (n id : Nat) (hn : n ≤ 8) (hid : id ≤ 2047) (hol : o.length = 31 + 8 * n) :
    Ev (fun k => impl_ReadFrame.l0 k (strB l) (strB o) (n : Int) 0 (id : Int) []) (trip (if body id (dataOf o n) = o then (id, dataOf o n, true) else (0, [], false))) := by
  have hr := run_loop (fun k i (x : List Int) => impl_ReadFrame.l0 k (strB l) (strB o) (n : Int) i (id : Int) x) n (fun i => upN (dataOf o i)) (trip (if body id (dataOf o n) = o then (id, dataOf o n, true) else (0, [], false))) ?_ ?_ 0 (Nat.zero_le _)
  · exact Ev.congr (fun k => rfl) hr
  · obtain ⟨K, hK⟩ := frame_bits id (dataOf o n) hid (by rw [data_len]; exact hn) (data_lt o ho n)
    refine Ev.next ⟨K, fun k hk => ?_⟩
    have a := hK k hk
    simp only at a
    simp only [impl_ReadFrame.l0, Int.lt_irrefl, if_false, a, Option.bind_some]
    have hbb := body_bits id (dataOf o n)
    have hone : ∀ b ∈ List.replicate 7 1, b < 2 := fun b hb => by rw [List.eq_of_mem_replicate hb]; decide
    have h1 : ∀ b ∈ sf 0 0 (body id (dataOf o n)) ++ List.replicate 7 1, b < 2 := fun b hb => by
      rcases List.mem_append.1 hb with q | q
      · exact sf_bits _ _ _ hbb b q
      · exact hone b q
    have h2 : ∀ b ∈ l, b < 2 := fun b hb => by
      rw [hlo] at hb
      rcases List.mem_append.1 hb with q | q
      · exact sf_bits _ _ _ ho b q
      · exact hone b q
    by_cases e : body id (dataOf o n) = o
    · rw [if_pos ((ba_eq_iff _ _).2 (by rw [hlo, e])), if_pos e]
      rfl
    · rw [if_neg (fun q => e (sf_inj _ _ (by
        have := strB_inj _ _ h1 h2 ((ba_eq_iff _ _).1 q)
        rw [hlo] at this
        exact List.append_cancel_right this))), if_neg e]
      rfl
  · intro i hi
    obtain ⟨K, hK⟩ := number_ev (seg o (16 + 8 * i) 8) (seg_bits o _ _ ho) (by rw [seg_len _ _ _ (by omega)]; omega)
    refine ⟨K, fun k hk => ?_⟩
    have a := hK k hk
    simp only at a
    have w8 : wrap64 (8 * (i : Int)) = 8 * (i : Int) := wrap_in (by omega) (by omega)
    have w1 : wrap64 (16 + 8 * (i : Int)) = ((16 + 8 * i : Nat) : Int) := (wrap_in (by omega) (by omega)).trans (by omega)
    have w2 : wrap64 (24 + 8 * (i : Int)) = ((24 + 8 * i : Nat) : Int) := (wrap_in (by omega) (by omega)).trans (by omega)
    have g1 : (i : Int) < (n : Int) := by omega
    have g2 : (0 : Int) ≤ ((16 + 8 * i : Nat) : Int) := by omega
    have g3 : ((16 + 8 * i : Nat) : Int) ≤ ((24 + 8 * i : Nat) : Int) := by omega
    have g4 : ((24 + 8 * i : Nat) : Int) ≤ ((strB o).size : Int) := by rw [strB_size]; omega
    have e1 : (strB o).extract (16 + 8 * i) (24 + 8 * i) = strB (seg o (16 + 8 * i) 8) := by
      rw [strB_ext]
      unfold seg
      rw [show 24 + 8 * i - (16 + 8 * i) = 8 by omega]
    have hv := seg_val o ho (16 + 8 * i) 8
    have e2 : ((val (seg o (16 + 8 * i) 8) : Nat) : Int) % 256 = ((val (seg o (16 + 8 * i) 8) : Nat) : Int) := by omega
    have g5 : (upN (dataOf o i)).length < 140737488355328 := by rw [upN_len, data_len]; omega
    simp only [impl_ReadFrame.l0, g1, w8, w1, w2, g2, g3, g4, if_true, toNat_i, e1, a, Option.bind_some, g5, e2, wrap_succ i (by omega), data_next, upN_snoc]
theorem trip_no : trip (0, [], false) = (0, [], false) := rfl
theorem mid_impl (o l : List Nat) (ho : ∀ b ∈ o, b < 2) (hol : o.length ≤ 300) (hlo : l = sf 0 0 o ++ List.replicate 7 1) : Ev (fun k => impl_ReadFrame.j1 k (strB l) (strB o) (decide (((strB o).size : Int) < 31))) (trip (readOf o)) := by
  rw [strB_size]
  unfold readOf
  by_cases h31 : o.length < 31
  · rw [if_pos h31, decide_eq_true (by omega)]
    exact Ev.at 1 0 (fun k _ => by simp only [impl_ReadFrame.j1, if_true]; rfl)
  · rw [if_neg h31, decide_eq_false (by omega)]
    obtain ⟨K1, h1⟩ := number_ev (seg o 1 11) (seg_bits o _ _ ho) (by rw [seg_len _ _ _ (by omega)]; omega)
    obtain ⟨K2, h2⟩ := number_ev (seg o 12 4) (seg_bits o _ _ ho) (by rw [seg_len _ _ _ (by omega)]; omega)
    have hv1 := seg_val o ho 1 11
    have hv2 := seg_val o ho 12 4
    have e1 : (strB o).extract 1 12 = strB (seg o 1 11) := strB_ext o 1 12
    have e2 : (strB o).extract 12 16 = strB (seg o 12 4) := strB_ext o 12 16
    have g1 : (12 : Int) ≤ ((strB o).size : Int) := by rw [strB_size]; omega
    have g2 : (16 : Int) ≤ ((strB o).size : Int) := by rw [strB_size]; omega
    have w : wrap64 (31 + wrap64 (8 * ((val (seg o 12 4) : Nat) : Int))) = 31 + 8 * ((val (seg o 12 4) : Nat) : Int) := by
      rw [wrap_in (n := 8 * ((val (seg o 12 4) : Nat) : Int)) (by omega) (by omega), wrap_in (by omega) (by omega)]
    have q1 : (1 : Int) ≤ 12 := by omega
    have q2 : (12 : Int) ≤ 16 := by omega
    by_cases hc : 8 < val (seg o 12 4) ∨ o.length ≠ 31 + 8 * val (seg o 12 4)
    · rw [if_pos hc]
      refine ⟨K1 + K2 + 2, fun k hk => ?_⟩
      obtain ⟨m, rfl⟩ : ∃ m, k = m + 2 := ⟨k - 2, by omega⟩
      have a1 := h1 (m + 1) (by omega)
      have a2 := h2 (m + 1) (by omega)
      simp only at a1 a2
      by_cases h8 : 8 < val (seg o 12 4)
      · have g8 : ((val (seg o 12 4) : Nat) : Int) > 8 := by omega
        simp only [impl_ReadFrame.j1, impl_ReadFrame.j2, Bool.false_eq_true, if_false, g1, g2, if_true, e1, e2, a1, a2, Option.bind_some, g8]
        first | rfl | simp [trip, upN]
      · have g8 : ¬ ((val (seg o 12 4) : Nat) : Int) > 8 := by omega
        have gne : (((strB o).size : Int) != 31 + 8 * ((val (seg o 12 4) : Nat) : Int)) = true := by
          rw [strB_size, bne_iff_ne]
          omega
        simp only [impl_ReadFrame.j1, impl_ReadFrame.j2, Bool.false_eq_true, if_false, g1, g2, if_true, e1, e2, a1, a2, Option.bind_some, g8, w, gne]
        first | rfl | simp [trip, upN]
    · rw [if_neg hc]
      obtain ⟨K3, h3⟩ := tail_impl o l ho hlo (val (seg o 12 4)) (val (seg o 1 11)) (by omega) (by omega) (by omega)
      refine ⟨K1 + K2 + K3 + 2, fun k hk => ?_⟩
      obtain ⟨m, rfl⟩ : ∃ m, k = m + 2 := ⟨k - 2, by omega⟩
      have a1 := h1 (m + 1) (by omega)
      have a2 := h2 (m + 1) (by omega)
      have a3 := h3 m (by omega)
      simp only at a1 a2 a3
      have g8 : ¬ ((val (seg o 12 4) : Nat) : Int) > 8 := by omega
      have gne : (((strB o).size : Int) != 31 + 8 * ((val (seg o 12 4) : Nat) : Int)) = false := by
        rw [strB_size, bne_eq_false_iff_eq]
        omega
      simp only [impl_ReadFrame.j1, impl_ReadFrame.j2, Bool.false_eq_true, if_false, g1, g2, if_true, e1, e2, a1, a2, Option.bind_some, g8, w, gne]
      first | exact a3 | simpa using a3
theorem suffix_iff (l : List Nat) (h : ∀ b ∈ l, b < 2) : ((strB l).extract (l.length - 7) (strB l).size).toList = ([49, 49, 49, 49, 49, 49, 49] : List UInt8) ↔ l.drop (l.length - 7) = List.replicate 7 1 := by
  have hone : ∀ b ∈ List.replicate 7 1, b < 2 := fun b hb => by rw [List.eq_of_mem_replicate hb]; decide
  have e7 : ([49, 49, 49, 49, 49, 49, 49] : List UInt8) = (strB (List.replicate 7 1)).toList := by rw [← seven_strB, ByteArray.toList_eq]
  rw [e7, strB_ext, ba_eq_iff, strB_size, List.take_of_length_le (by rw [List.length_drop]; exact Nat.le_refl _)]
  constructor
  · exact fun e => strB_inj _ _ (fun b hb => h b (List.mem_of_mem_drop hb)) hone e
  · exact fun e => by rw [e]
theorem seven_list : (⟨#[49, 49, 49, 49, 49, 49, 49]⟩ : ByteArray).toList = ([49, 49, 49, 49, 49, 49, 49] : List UInt8) := by rw [ByteArray.toList_eq]
theorem seven_size : (⟨#[49, 49, 49, 49, 49, 49, 49]⟩ : ByteArray).size = 7 := rfl
theorem n7 : ((7 : Nat) : Int) = 7 := rfl
theorem cut_any (a : ByteArray) (ha : a.size ≤ 1099511627776) : strings_CutSuffix.f a (⟨#[49, 49, 49, 49, 49, 49, 49]⟩ : ByteArray) = some (if 7 ≤ a.size ∧ (a.extract (a.size - 7) a.size).toList = ([49, 49, 49, 49, 49, 49, 49] : List UInt8) then (a.extract 0 (a.size - 7), true) else (a, false)) := by
  by_cases h7 : 7 ≤ a.size
  · have w : wrap64 ((a.size : Int) - 7) = ((a.size - 7 : Nat) : Int) := (wrap_in (by omega) (by omega)).trans (by omega)
    have p0 : (0 : Int) ≤ ((a.size - 7 : Nat) : Int) := by omega
    have p1 : ((a.size - 7 : Nat) : Int) ≤ (a.size : Int) := by omega
    have p3 : (a.size : Int) ≥ 7 := by omega
    by_cases hs : (a.extract (a.size - 7) a.size).toList = ([49, 49, 49, 49, 49, 49, 49] : List UInt8)
    · have hsb := beq_iff_eq.mpr hs
      rw [if_pos ⟨h7, hs⟩]
      simp only [strings_CutSuffix.f, stringslite_CutSuffix.f, stringslite_HasSuffix.f, seven_size, n7, p3, w, p0, p1, if_true, toNat_i, seven_list, hsb, Option.bind_some]
    · have hsb : ((a.extract (a.size - 7) a.size).toList == ([49, 49, 49, 49, 49, 49, 49] : List UInt8)) = false := beq_eq_false_iff_ne.mpr hs
      rw [if_neg (fun q => hs q.2)]
      simp only [strings_CutSuffix.f, stringslite_CutSuffix.f, stringslite_HasSuffix.f, seven_size, n7, p3, w, p0, p1, if_true, toNat_i, seven_list, hsb, Option.bind_some, Bool.false_eq_true, if_false]
  · have p3 : ¬ (a.size : Int) ≥ 7 := by omega
    rw [if_neg (fun q => h7 q.1)]
    simp only [strings_CutSuffix.f, stringslite_CutSuffix.f, stringslite_HasSuffix.f, seven_size, n7, p3, if_false, Option.bind_some, Bool.false_eq_true]
theorem read_len (l : List Nat) : (readAns l).2.1.length ≤ 8 := by
  unfold readAns
  split
  · split
    · unfold readOf
      split
      · simp
      · split
        · simp
        · split
          · rename_i h1 h2 h3
            rw [data_len]
            omega
          · simp
    · simp
  · simp
/-! ### Drawn frames; stuffed bits -/
theorem bytes_l0 (c : List Int) (hc : Bytes c) : ∀ (d : Nat) (x : List Int) (a s : Int), d ≤ 20 → x.length + d ≤ 40 → 0 ≤ a → a + d ≤ 100100 → (∀ y ∈ x, 0 ≤ y ∧ y < 256) →
    ∃ (r : List Int) (a' s' : Int), Ev (fun k => spec_l1Cur_bytes.l0 k x (d : Int) c a s) (r, a', s') ∧ r.length = x.length + d ∧ (∀ y ∈ r, 0 ≤ y ∧ y < 256) ∧ a ≤ a' ∧ a' ≤ a + d := by
  intro d
  induction d with
  | zero =>
    intro x a s _ _ h0 _ hx
    refine ⟨x, a, s, Ev.next ⟨0, fun k _ => ?_⟩, rfl, hx, Int.le_refl _, by omega⟩
    have g : ¬ ((0 : Nat) : Int) > 0 := by omega
    simp only [spec_l1Cur_bytes.l0, g, if_false]
  | succ d ih =>
    intro x a s hd hx h0 h1 hxb
    obtain ⟨r, s1, e, h2, h3⟩ := next_ok c hc a s h0 (by omega)
    obtain ⟨r', a', s', he, hl, hb, h4, h5⟩ := ih (x ++ [r % 256]) (a + 1) s1 (by omega) (by simp; omega) (by omega) (by omega) (fun y hy => by
      rcases List.mem_append.1 hy with q | q
      · exact hxb y q
      · rw [List.mem_singleton.1 q]; omega)
    refine ⟨r', a', s', Ev.step (fun k => ?_) he, by rw [hl]; simp; omega, hb, by omega, by omega⟩
    have g : ((d + 1 : Nat) : Int) > 0 := by omega
    have g1 : x.length < 140737488355328 := by omega
    have hw : wrap64 (((d + 1 : Nat) : Int) - 1) = (d : Int) := by rw [wrap_in (by omega) (by omega)]; omega
    simp only [spec_l1Cur_bytes.l0, g, if_true, e, Option.bind_some, g1, hw]
theorem bytes_ok (c : List Int) (hc : Bytes c) (a s : Int) (m : Nat) (hm : m ≤ 15) (h0 : 0 ≤ a) (h1 : a ≤ 90000) :
    ∃ (r : List Int) (a' s' : Int), Ev (fun k => spec_l1Cur_bytes.f k c a s (m : Int)) (r, a', s') ∧ r.length ≤ m ∧ (∀ y ∈ r, 0 ≤ y ∧ y < 256) ∧ a ≤ a' ∧ a' ≤ a + 30 := by
  have hw : wrap64 ((m : Int) + 1) = (m : Int) + 1 := wrap_in (by omega) (by omega)
  obtain ⟨r, a1, s1, e1, p1, q1, m1, n1⟩ := pick_ok c hc a s ((m : Int) + 1) h0 (by omega) (by omega)
  obtain ⟨d, rfl⟩ : ∃ d : Nat, r = (d : Int) := ⟨r.toNat, by omega⟩
  obtain ⟨r', a', s', he, hl, hb, h2, h3⟩ := bytes_l0 c hc d [] a1 s1 (by omega) (by simp; omega) (by omega) (by omega) (by simp)
  refine ⟨r', a', s', ?_, by rw [hl]; simp; omega, hb, by omega, by omega⟩
  simp only [spec_l1Cur_bytes.f, hw, e1, Option.bind_some]
  exact he
theorem draw_frame (c : List Int) (hc : Bytes c) : ∃ (id : Int) (d : List Int), Ev (fun k => spec_DrawFrameBits.f k c) (id, d) ∧ -1 ≤ id ∧ id ≤ 2048 ∧ d.length ≤ 20 ∧ ∀ x ∈ d, 0 ≤ x ∧ x < 256 := by
  have key : ∃ (id : Int) (d : List Int) (a' s' : Int), Ev (fun k => spec_l1Cur_frame.f k c 0 0) (id, d, a', s') ∧ -1 ≤ id ∧ id ≤ 2048 ∧ d.length ≤ 20 ∧ ∀ x ∈ d, 0 ≤ x ∧ x < 256 := by
    obtain ⟨r1, a1, s1, e1, p1, q1, m1, n1⟩ := pick_ok c hc 0 0 40 (by omega) (by omega) (by omega)
    obtain ⟨B, a2, s2, e2, hl2, hb2, m2, n2⟩ := bytes_ok c hc a1 s1 4 (by omega) (by omega) (by omega)
    obtain ⟨r3, a3, s3, e3, p3, q3, m3, n3⟩ := pick_ok c hc a2 s2 12 (by omega) (by omega) (by omega)
    have n4 : ((4 : Nat) : Int) = 4 := rfl
    have n9 : ((9 : Nat) : Int) = 9 := rfl
    rw [n4] at e2
    by_cases c0 : r3 = 0
    · obtain ⟨r4, a4, s4, e4, hm4, m4, n4⟩ := among_ok c hc a3 s3 [-1, 0, 2047, 2048] (by decide) (by decide) (by omega) (by omega)
      refine ⟨r4, B, a4, s4, ?_, ?_, ?_, by omega, hb2⟩
      · simp only [spec_l1Cur_frame.f, e1, Option.bind_some]
        refine Ev.bind e2 ?_
        simp only [e3, Option.bind_some, c0, if_true, e4]
        exact Ev.now _
      · simp at hm4; omega
      · simp at hm4; omega
    · by_cases c1 : r3 = 1
      · obtain ⟨B2, a4, s4, e4, hl4, hb4, m4, n4⟩ := bytes_ok c hc a3 s3 9 (by omega) (by omega) (by omega)
        rw [n9] at e4
        refine ⟨r1, B2, a4, s4, ?_, by omega, by omega, by omega, hb4⟩
        simp only [spec_l1Cur_frame.f, e1, Option.bind_some]
        refine Ev.bind e2 ?_
        simp only [e3, Option.bind_some, c0, c1, if_true, if_false]
        refine Ev.bind e4 ?_
        exact Ev.now _
      · by_cases c2 : r3 = 2
        · obtain ⟨r4, a4, s4, e4, p4, q4, m4, n4⟩ := pick_ok c hc a3 s3 2048 (by omega) (by omega) (by omega)
          refine ⟨r4, B, a4, s4, ?_, by omega, by omega, by omega, hb2⟩
          simp only [spec_l1Cur_frame.f, e1, Option.bind_some]
          refine Ev.bind e2 ?_
          simp only [e3, Option.bind_some, c0, c1, c2, if_true, if_false, e4]
          exact Ev.now _
        · by_cases c3 : r3 = 3
          · obtain ⟨r4, a4, s4, e4, p4, q4, m4, n4⟩ := pick_ok c hc a3 s3 9 (by omega) (by omega) (by omega)
            have g1 : r4.toNat ≤ 281474976710656 := by omega
            refine ⟨r1, List.replicate r4.toNat 0, a4, s4, ?_, by omega, by omega, by simp; omega, fun x hx => by rw [List.eq_of_mem_replicate hx]; omega⟩
            simp only [spec_l1Cur_frame.f, e1, Option.bind_some]
            refine Ev.bind e2 ?_
            simp only [e3, Option.bind_some, c0, c1, c2, c3, if_true, if_false, e4, p4, g1]
            exact Ev.now _
          · refine ⟨r1, B, a3, s3, ?_, by omega, by omega, by omega, hb2⟩
            simp only [spec_l1Cur_frame.f, e1, Option.bind_some]
            refine Ev.bind e2 ?_
            simp only [e3, Option.bind_some, c0, c1, c2, c3, if_false]
            exact Ev.now _
  obtain ⟨id, d, a', s', he, h1, h2, h3, h4⟩ := key
  refine ⟨id, d, ?_, h1, h2, h3, h4⟩
  simp only [spec_DrawFrameBits.f, spec_DrawGoodFrame.f]
  exact Ev.bind (Ev.bind he (Ev.now _)) (Ev.now _)
/-! #### the reference's stuffing -/
theorem stuff_spec (l : List Nat) (h : ∀ b ∈ l, b < 2) (hl : l.length ≤ 100000) : ∀ (d i : Nat) (B : List Nat) (last run : Nat), i + d = l.length → last < 2 → run < 5 → B.length ≤ 2 * i →
    Ev (fun k => spec_l23Stuff.l0 k (strB l) (B.map (fun b : Nat => 48 + ((b : Nat) : Int))) (run : Int) (lastB last run) (i : Int)) (strB (B ++ sf last run (l.drop i)))
  | 0, i, B, last, run, hi, _, hr, _ => by
    obtain rfl : i = l.length := by omega
    rw [List.drop_length]
    refine Ev.at 1 0 (fun k _ => ?_)
    have g1 : ¬ (l.length : Int) < ((strB l).size : Int) := by rw [strB_size]; omega
    simp only [spec_l23Stuff.l0, g1, if_false, sf, List.append_nil]
    rfl
  | d + 1, i, B, last, run, hi, hl2, hr, hBl => by
    have hlt : i < l.length := by omega
    have w9 : i < 9223372036854775807 := by omega
    have v9 : run < 9223372036854775807 := by omega
    have hc := h l[i] (List.getElem_mem hlt)
    have g1 : (i : Int) < ((strB l).size : Int) := by rw [strB_size]; omega
    have g2 : (0 : Int) ≤ (i : Int) := by omega
    have eb := btB l h i hlt
    have hn := nxt_le last run l[i] hr
    have g3 : (B.map (fun b : Nat => 48 + ((b : Nat) : Int))).length < 140737488355328 := by rw [List.length_map]; omega
    have g4 : (B.map (fun b : Nat => 48 + ((b : Nat) : Int)) ++ [48 + ((l[i] : Nat) : Int)]).length < 140737488355328 := by simp; omega
    have e3 : (B ++ [l[i]]).map (fun b : Nat => 48 + ((b : Nat) : Int)) = B.map (fun b : Nat => 48 + ((b : Nat) : Int)) ++ [48 + ((l[i] : Nat) : Int)] := by simp
    have e5 : (B ++ [l[i], 1 - l[i]]).map (fun b : Nat => 48 + ((b : Nat) : Int)) = B.map (fun b : Nat => 48 + ((b : Nat) : Int)) ++ [48 + ((l[i] : Nat) : Int)] ++ [48 + ((1 - l[i] : Nat) : Int)] := by simp
    have e6 : (97 - (48 + ((l[i] : Nat) : Int))) % 256 = 48 + ((1 - l[i] : Nat) : Int) := by omega
    rw [drop_at l i hlt, sf]
    by_cases e : 0 < run ∧ l[i] = last
    · have eL : lastB last run = 48 + (last : Int) := by unfold lastB; rw [if_neg (by omega)]
      have en : nxt last run l[i] = run + 1 := by unfold nxt; rw [if_pos e]
      have e4 : 48 + ((l[i] : Nat) : Int) = 48 + (last : Int) := by rw [e.2]
      by_cases q : nxt last run l[i] = 5
      · have ih := stuff_spec l h hl d (i + 1) (B ++ [l[i], 1 - l[i]]) (1 - l[i]) 1 (by omega) (by omega) (by omega) (by simp; omega)
        rw [if_pos q]
        have q2 : ((run + 1 : Nat) : Int) = 5 := by omega
        rw [show B ++ l[i] :: (1 - l[i]) :: sf (1 - l[i]) 1 (l.drop (i + 1)) = B ++ [l[i], 1 - l[i]] ++ sf (1 - l[i]) 1 (l.drop (i + 1)) by simp]
        refine Ev.back 1 0 (fun k _ => ?_) ih
        rw [e5]
        have eL2 : lastB (1 - l[i]) 1 = 48 + ((1 - l[i] : Nat) : Int) := rfl
        rw [eL2, ← e6, e4]
        rw [e4] at eb g4
        simp only [spec_l23Stuff.l0, g1, g2, if_true, eb, eL, g3, Option.bind_some, wrap_succ run v9, q2, g4, wrap_succ i w9]
        rfl
      · have ih := stuff_spec l h hl d (i + 1) (B ++ [l[i]]) l[i] (nxt last run l[i]) (by omega) hc (by omega) (by simp; omega)
        rw [if_neg q]
        have q2 : ¬ ((run + 1 : Nat) : Int) = 5 := by omega
        rw [show B ++ l[i] :: sf l[i] (nxt last run l[i]) (l.drop (i + 1)) = B ++ [l[i]] ++ sf l[i] (nxt last run l[i]) (l.drop (i + 1)) by simp]
        refine Ev.back 1 0 (fun k _ => ?_) ih
        rw [e3, en]
        have eL2 : lastB l[i] (run + 1) = 48 + (last : Int) := by unfold lastB; rw [if_neg (by omega), e.2]
        rw [eL2, e4]
        rw [e4] at eb
        simp only [spec_l23Stuff.l0, g1, g2, if_true, eb, eL, g3, Option.bind_some, wrap_succ run v9, q2, if_false, wrap_succ i w9]
    · have en : nxt last run l[i] = 1 := by unfold nxt; rw [if_neg e]
      have e4 : ¬ (48 + ((l[i] : Nat) : Int) = lastB last run) := by
        unfold lastB
        split
        · omega
        · intro h
          exact e ⟨by omega, by omega⟩
      have ih := stuff_spec l h hl d (i + 1) (B ++ [l[i]]) l[i] (nxt last run l[i]) (by omega) hc (by omega) (by simp; omega)
      rw [if_neg (by omega)]
      rw [show B ++ l[i] :: sf l[i] (nxt last run l[i]) (l.drop (i + 1)) = B ++ [l[i]] ++ sf l[i] (nxt last run l[i]) (l.drop (i + 1)) by simp]
      refine Ev.back 1 0 (fun k _ => ?_) ih
      rw [e3, en]
      have eL2 : lastB l[i] 1 = 48 + ((l[i] : Nat) : Int) := rfl
      rw [eL2]
      generalize lastB last run = LL at e4 ⊢
      simp only [spec_l23Stuff.l0]
      simp only [g1, g2, if_true, eb, e4, if_false]
      rw [if_pos g3, Option.bind_some, if_neg (by decide), wrap_succ i w9]
      rfl
theorem spec_stuff_ev (l : List Nat) (h : ∀ b ∈ l, b < 2) (hl : l.length ≤ 100000) : Ev (fun k => spec_l23Stuff.f k (strB l)) (strB (sf 0 0 l)) := by
  have := stuff_spec l h hl l.length 0 [] 0 0 (by omega) (by omega) (by omega) (by simp)
  simp only [List.drop_zero, List.nil_append] at this
  have g : (strB l).size ≤ 1000000 := by rw [strB_size]; omega
  simp only [spec_l23Stuff.f, g, if_true]
  exact Ev.congr (fun k => rfl) this
theorem spec_good_frame (id : Int) (d : List Int) : spec_GoodFrame.f id d = some (decide (0 ≤ id ∧ id ≤ 2047 ∧ d.length ≤ 8)) := by
  rw [← good_frame id d]
  unfold spec_GoodFrame.f impl_GoodFrame.f impl_between.f
  by_cases h0 : id ≥ 0
  · by_cases h1 : id ≤ 2047
    · simp [h0, h1]
    · simp [h0, h1]
  · simp [h0]
/-! #### what a frame's bits are read as -/
theorem val_bin (v : Nat) : ∀ n, val (bin v n) = v % 2 ^ n := by
  have key : ∀ n, ∀ w, (List.range n).foldl (fun a i => 2 * a + w / 2 ^ (n - 1 - i) % 2) 0 = w % 2 ^ n := by
    intro n
    induction n with
    | zero => intro w; simp [Nat.mod_one]
    | succ n ih =>
      intro w
      rw [List.range_succ, List.foldl_append, List.foldl_cons, List.foldl_nil]
      have e : (List.range n).foldl (fun a i => 2 * a + w / 2 ^ (n + 1 - 1 - i) % 2) 0 = (List.range n).foldl (fun a i => 2 * a + (w / 2) / 2 ^ (n - 1 - i) % 2) 0 := by
        have hc : ∀ (l : List Nat), (∀ i ∈ l, i < n) → ∀ a, l.foldl (fun a i => 2 * a + w / 2 ^ (n + 1 - 1 - i) % 2) a = l.foldl (fun a i => 2 * a + (w / 2) / 2 ^ (n - 1 - i) % 2) a := by
          intro l
          induction l with
          | nil => intro _ a; rfl
          | cons i l ihl =>
            intro hl a
            have hi := hl i List.mem_cons_self
            rw [List.foldl_cons, List.foldl_cons, ihl (fun j hj => hl j (List.mem_cons_of_mem _ hj))]
            congr 3
            rw [Nat.div_div_eq_div_mul, show n + 1 - 1 - i = (n - 1 - i) + 1 by omega, Nat.pow_succ, Nat.mul_comm]
        exact hc _ (fun i hi => List.mem_range.1 hi) 0
      rw [e, ih (w / 2), show n + 1 - 1 - n = 0 by omega, Nat.pow_zero, Nat.div_one, Nat.pow_succ]
      have h2 := Nat.mod_mul_left_div_self w 2 (2 ^ n)
      have h3 : w % (2 ^ n * 2) % 2 = w % 2 := Nat.mod_mul_left_mod w (2 ^ n) 2
      have h4 : w % (2 ^ n * 2) / 2 = w / 2 % 2 ^ n := by rw [Nat.mul_comm, Nat.mod_mul_right_div_self]
      omega
  intro n
  unfold val bin
  rw [List.foldl_map]
  exact key n v
theorem seg_mid (A B C : List Nat) (a n : Nat) (ha : a = A.length) (hn : n = B.length) : seg (A ++ (B ++ C)) a n = B := by
  subst ha
  subst hn
  unfold seg
  rw [List.drop_left, List.take_left]
theorem flat_split (d : List Nat) (i : Nat) (hi : i < d.length) : d.flatMap (fun x => bin x 8) = (d.take i).flatMap (fun x => bin x 8) ++ (bin d[i] 8 ++ (d.drop (i + 1)).flatMap (fun x => bin x 8)) := by
  have e : d = d.take i ++ (d[i] :: d.drop (i + 1)) := by rw [← List.drop_eq_getElem_cons hi, List.take_append_drop]
  have e2 := congrArg (fun l : List Nat => l.flatMap (fun x => bin x 8)) e
  simp only [List.flatMap_append, List.flatMap_cons] at e2
  exact e2
theorem read_body (id : Nat) (d : List Nat) (hid : id ≤ 2047) (hd : d.length ≤ 8) (hb : ∀ x ∈ d, x < 256) : readOf (body id d) = (id, d, true) := by
  have hl := body_len id d
  have e1 : seg (body id d) 1 11 = bin id 11 := by
    have : body id d = [0] ++ (bin id 11 ++ (bin d.length 4 ++ d.flatMap (fun x => bin x 8) ++ bin (crc (bodyH id d) 0) 15)) := by
      conv => lhs; unfold body
      conv => lhs; lhs; unfold bodyH
      simp
    rw [this]
    exact seg_mid _ _ _ _ _ rfl (bin_len _ _).symm
  have e2 : seg (body id d) 12 4 = bin d.length 4 := by
    have : body id d = (0 :: bin id 11) ++ (bin d.length 4 ++ (d.flatMap (fun x => bin x 8) ++ bin (crc (bodyH id d) 0) 15)) := by
      conv => lhs; unfold body
      conv => lhs; lhs; unfold bodyH
      simp
    rw [this]
    exact seg_mid _ _ _ _ _ (by simp [bin_len]) (bin_len _ _).symm
  have v1 : val (seg (body id d) 1 11) = id := by rw [e1, val_bin]; omega
  have v2 : val (seg (body id d) 12 4) = d.length := by rw [e2, val_bin]; omega
  have v3 : dataOf (body id d) d.length = d := by
    unfold dataOf
    refine List.ext_getElem (by simp) (fun i h1 h2 => ?_)
    simp only [List.getElem_map, List.getElem_range]
    have hx := hb d[i] (List.getElem_mem h2)
    have : body id d = (0 :: (bin id 11 ++ (bin d.length 4 ++ (d.take i).flatMap (fun x => bin x 8)))) ++ (bin d[i] 8 ++ ((d.drop (i + 1)).flatMap (fun x => bin x 8) ++ bin (crc (bodyH id d) 0) 15)) := by
      conv => lhs; unfold body
      conv => lhs; lhs; unfold bodyH
      rw [flat_split d i h2]
      simp
    rw [this, seg_mid _ _ _ _ _ (by simp only [List.length_cons, List.length_append, bin_len, flat_len, List.length_take]; omega) (bin_len _ _).symm, val_bin]
    omega
  unfold readOf
  rw [v1, v2, v3, if_neg (by omega), if_neg (by omega), if_pos rfl]
theorem read_frame (id : Nat) (d : List Nat) (hid : id ≤ 2047) (hd : d.length ≤ 8) (hb : ∀ x ∈ d, x < 256) : readAns (sf 0 0 (body id d) ++ List.replicate 7 1) = (id, d, true) := by
  unfold readAns
  have e1 : (sf 0 0 (body id d) ++ List.replicate 7 1).length - 7 = (sf 0 0 (body id d)).length := by simp
  rw [e1, List.drop_left, List.take_left, if_pos ⟨by simp, rfl⟩, us_sf _ (body_bits id d)]
  exact read_body id d hid hd hb
/-! #### no six alike -/
def okRun : Nat → Nat → List Nat → Prop
  | _, _, [] => True
  | last, run, c :: t => nxt last run c ≤ 5 ∧ okRun c (nxt last run c) t
theorem sf_ok : ∀ (x : List Nat) (last run : Nat), (∀ b ∈ x, b < 2) → run < 5 → okRun last run (sf last run x)
  | [], _, _, _, _ => by simp [sf, okRun]
  | c :: t, last, run, hb, hr => by
    have hc := hb c List.mem_cons_self
    have ht : ∀ b ∈ t, b < 2 := fun b h => hb b (List.mem_cons_of_mem _ h)
    have hn := nxt_le last run c hr
    rw [sf]
    by_cases q : nxt last run c = 5
    · rw [if_pos q]
      have e4 : nxt c 5 (1 - c) = 1 := by unfold nxt; rw [if_neg (by omega)]
      refine ⟨by omega, ?_⟩
      rw [q]
      refine ⟨by omega, ?_⟩
      rw [e4]
      exact sf_ok t (1 - c) 1 ht (by omega)
    · rw [if_neg q]
      exact ⟨by omega, sf_ok t c _ ht (by omega)⟩
theorem six_loop (m : List Nat) (h : ∀ b ∈ m, b < 2) (hm : m.length ≤ 100000) : ∀ (d i last run : Nat), i + d = m.length → run ≤ 5 → okRun last run (m.drop i) → (0 < run ↔ 0 < i) → (∀ h0 : 0 < i, i ≤ m.length → m[i - 1]? = some last) →
    Ev (fun k => spec_NoSix.l0 k (strB m) (run : Int) (i : Int)) true
  | 0, i, last, run, hi, _, _, _, _ => by
    obtain rfl : i = m.length := by omega
    refine Ev.at 1 0 (fun k _ => ?_)
    have g1 : ¬ (m.length : Int) < ((strB m).size : Int) := by rw [strB_size]; omega
    simp only [spec_NoSix.l0, g1, if_false]
  | d + 1, i, last, run, hi, hr, hok, hri, hprev => by
    have hlt : i < m.length := by omega
    have hz : ((strB m).size : Int) = (m.length : Int) := by rw [strB_size]
    have g1 : (i : Int) < (m.length : Int) := by omega
    rw [drop_at m i hlt] at hok
    obtain ⟨hn, hok2⟩ := hok
    have hn1 : 1 ≤ nxt last run m[i] := by unfold nxt; split <;> omega
    have ih := six_loop m h hm d (i + 1) m[i] (nxt last run m[i]) (by omega) hn hok2 ⟨fun _ => by omega, fun _ => by omega⟩ (fun _ _ => by simp [hlt])
    refine Ev.back 2 0 (fun k _ => ?_) ih
    by_cases h0 : 0 < i
    · have hrun : 0 < run := hri.2 h0
      have hp := hprev h0 (by omega)
      rw [List.getElem?_eq_getElem (by omega)] at hp
      have hp := Option.some.inj hp
      have g2 : (i : Int) > 0 := by omega
      have g3 : (0 : Int) ≤ (i : Int) := by omega
      have w : wrap64 ((i : Int) - 1) = ((i - 1 : Nat) : Int) := (wrap_in (by omega) (by omega)).trans (by omega)
      have g4 : (0 : Int) ≤ ((i - 1 : Nat) : Int) := by omega
      have g5 : ((i - 1 : Nat) : Int) < (m.length : Int) := by omega
      have e1 := btB m h i hlt
      have e2 := btB m h (i - 1) (by omega)
      rw [hp] at e2
      by_cases q : m[i] = last
      · have eb : (bt (strB m) (i : Int) == bt (strB m) ((i - 1 : Nat) : Int)) = true := by rw [e1, e2, q]; simp
        have en : nxt last run m[i] = run + 1 := by unfold nxt; rw [if_pos ⟨hrun, q⟩]
        rw [en] at hn ⊢
        have g6 : ¬ ((run + 1 : Nat) : Int) > 5 := by omega
        simp only [spec_NoSix.l0, spec_NoSix.j1, hz, g1, g2, g3, w, g4, g5, if_true, eb, wrap_succ run (by omega), wrap_succ i (by omega), g6, if_false]
      · have eb : (bt (strB m) (i : Int) == bt (strB m) ((i - 1 : Nat) : Int)) = false := by
          rw [e1, e2, beq_eq_false_iff_ne]
          omega
        have en : nxt last run m[i] = 1 := by unfold nxt; rw [if_neg (fun h => q h.2)]
        rw [en]
        have g6 : ¬ ((1 : Int) > 5) := by decide
        simp only [spec_NoSix.l0, spec_NoSix.j1, hz, g1, g2, g3, w, g4, g5, if_true, eb, wrap_succ i (by omega), g6, if_false, Bool.false_eq_true]
        rfl
    · have hrun : run = 0 := by
        by_cases q : run = 0
        · exact q
        · exact absurd (hri.1 (by omega)) h0
      have g2 : ¬ (i : Int) > 0 := by omega
      have en : nxt last run m[i] = 1 := by unfold nxt; rw [if_neg (by omega)]
      rw [en]
      have g6 : ¬ ((1 : Int) > 5) := by decide
      simp only [spec_NoSix.l0, spec_NoSix.j1, hz, g1, g2, if_true, if_false, wrap_succ i (by omega), g6, Bool.false_eq_true]
      rfl
theorem six_ev (l : List Nat) (h : ∀ b ∈ l, b < 2) (hl : l.length ≤ 10000) : Ev (fun k => spec_NoSix.f k (strB (sf 0 0 l))) true := by
  have hs := sf_len l 0 0
  have := six_loop (sf 0 0 l) (sf_bits l 0 0 h) (by omega) (sf 0 0 l).length 0 0 0 (by omega) (by omega) (by simpa using sf_ok l 0 0 h (by omega)) (by omega) (fun h0 _ => absurd h0 (by omega))
  exact Ev.congr (fun k => rfl) this
theorem unstuff_own (l : List Nat) (h : ∀ b ∈ l, b < 2) (hl : l.length ≤ 300) : Ev (fun k => impl_UnstuffBits.f k (strB l)) (unAns l) := by
  have hg : good (strB l) = true := by rw [good_len l h]; simpa using hl
  have h2 := impl_goodBits_ev (strB l) (by rw [strB_size]; omega)
  rw [hg] at h2
  simp only [impl_UnstuffBits.f]
  refine Ev.bind h2 ?_
  simp only [if_true]
  have hu := ul_bits l 0 0 h
  have hul := ul_len l 0 0
  have := unstuff_impl l h hl (unAns l) l.length 0 [] 0 0 (by omega) (by omega) (by omega) (by simp) ⟨0, fun k _ => by
    simp only [List.drop_zero, List.nil_append]
    rw [stuff_ev _ hu (by omega), Option.bind_some]
    have key := us_iff l 0 0 (ul 0 0 l) h (by omega) (by omega)
    have e5 : s5 0 0 (ul 0 0 l) = sf 0 0 (ul 0 0 l) := by simp [s5]
    rw [e5] at key
    by_cases q : sf 0 0 (ul 0 0 l) = l
    · rw [if_pos ((ba_eq_iff _ _).2 (by rw [q]))]
      unfold unAns
      rw [key.2 ⟨rfl, q⟩]
    · rw [if_neg (fun e => q (strB_inj _ _ (sf_bits _ _ _ hu) h ((ba_eq_iff _ _).1 e)))]
      have en : us 0 0 l = none := by
        cases hu2 : us 0 0 l with
        | none => rfl
        | some o =>
          have := (us_iff l 0 0 o h (by omega) (by omega)).1 hu2
          exact absurd (by rw [this.1]; simpa [s5] using this.2) q
      unfold unAns
      rw [en]
      rfl⟩
  exact Ev.congr (fun k => rfl) this
theorem read_own (l : List Nat) (h : ∀ b ∈ l, b < 2) (hl : l.length ≤ 300) : Ev (fun k => impl_ReadFrame.f k (strB l)) (trip (readAns l)) := by
  have hz := strB_size l
  have hg : good (strB l) = true := by rw [good_len l h]; simpa using hl
  have h2 := impl_goodBits_ev (strB l) (by rw [strB_size]; omega)
  rw [hg] at h2
  have hsuf := suffix_iff l h
  rw [hz] at hsuf
  have hcut := cut_any (strB l) (by rw [hz]; omega)
  rw [hz] at hcut
  unfold readAns
  by_cases h7 : 7 ≤ l.length
  · have w : wrap64 ((l.length : Int) - 7) = ((l.length - 7 : Nat) : Int) := (wrap_in (by omega) (by omega)).trans (by omega)
    have p0 : (0 : Int) ≤ ((l.length - 7 : Nat) : Int) := by omega
    have p1 : ((l.length - 7 : Nat) : Int) ≤ (l.length : Int) := by omega
    have p2 : ¬ ((l.length - 7 : Nat) : Int) < 0 := by omega
    by_cases hs : l.drop (l.length - 7) = List.replicate 7 1
    · have es := hsuf.2 hs
      rw [if_pos ⟨h7, hs⟩]
      rw [if_pos ⟨h7, es⟩] at hcut
      have esn : (((strB l).extract (l.length - 7) l.length).toList != ([49, 49, 49, 49, 49, 49, 49] : List UInt8)) = false := by rw [bne_eq_false_iff_eq]; exact es
      have ex : (strB l).extract 0 (l.length - 7) = strB (l.take (l.length - 7)) := by rw [strB_ext]; simp
      rw [ex] at hcut
      have hb : ∀ b ∈ l.take (l.length - 7), b < 2 := fun b hb => h b (List.mem_of_mem_take hb)
      have hbl : (l.take (l.length - 7)).length ≤ 300 := by rw [List.length_take]; omega
      have u2 := unstuff_own (l.take (l.length - 7)) hb hbl
      have hlt := List.take_append_drop (l.length - 7) l
      rw [hs] at hlt
      unfold unAns at u2
      have key1 : Ev (fun k => impl_ReadFrame.j0 k (strB l) (strB (l.take (l.length - 7))) false) (trip (match us 0 0 (l.take (l.length - 7)) with | some o => readOf o | none => (0, [], false))) := by
        refine Ev.next ?_
        simp only [impl_ReadFrame.j0, Bool.false_eq_true, if_false]
        refine Ev.bind u2 ?_
        cases hu : us 0 0 (l.take (l.length - 7)) with
        | none =>
          simp only [Bool.false_eq_true, if_false]
          exact Ev.at 1 0 (fun k _ => by simp only [impl_ReadFrame.j1, if_true]; rfl)
        | some o =>
          have ho := (us_iff _ 0 0 o hb (by omega) (by omega)).1 hu
          have hob : ∀ b ∈ o, b < 2 := by rw [← ho.1]; exact ul_bits _ _ _ hb
          have hol : o.length ≤ 300 := by
            have := ul_len (l.take (l.length - 7)) 0 0
            rw [ho.1] at this
            omega
          simp only [if_true]
          refine mid_impl o l hob hol ?_
          rw [← hlt]
          congr 1
          have := ho.2
          simp only [s5] at this
          rw [← this]
          rfl
      simp only [impl_ReadFrame.f, hcut, Option.bind_some, if_true]
      refine Ev.bind h2 ?_
      simp only [Bool.not_true]
      exact key1
    · rw [if_neg (fun q => hs q.2)]
      rw [if_neg (fun q => hs (hsuf.1 q.2))] at hcut
      have esn : (((strB l).extract (l.length - 7) l.length).toList != ([49, 49, 49, 49, 49, 49, 49] : List UInt8)) = true := by rw [bne_iff_ne]; exact fun e => hs (hsuf.1 e)
      refine Ev.at 1 0 (fun k _ => ?_)
      simp only [impl_ReadFrame.f, hcut, Option.bind_some, Bool.false_eq_true, if_false, impl_ReadFrame.j0, if_true]
      rfl
  · rw [if_neg (fun q => h7 q.1)]
    rw [if_neg (fun q => h7 q.1)] at hcut
    have p2 : wrap64 ((l.length : Int) - 7) < 0 := by rw [wrap_in (by omega) (by omega)]; omega
    refine Ev.at 1 0 (fun k _ => ?_)
    simp only [impl_ReadFrame.f, hcut, Option.bind_some, Bool.false_eq_true, if_false, impl_ReadFrame.j0, if_true]
    rfl
theorem stuff_part (m : List Int) (hm : Bytes m) : Ev (fun k => laws_FnFrames.j1 k m false) true := by
  obtain ⟨r, hr, hrs⟩ := draw_crc m hm
  have hgood := impl_goodBits_ev r (by omega)
  have hdraw : Ev (fun k => spec_DrawStuffBits.f k m) r := by
    simp only [spec_DrawStuffBits.f]
    exact Ev.bind hr (Ev.now _)
  refine Ev.next ?_
  simp only [laws_FnFrames.j1, Bool.false_eq_true, if_false]
  refine Ev.bind hdraw ?_
  cases hg : good r with
  | false =>
    rw [hg] at hgood
    have h2 : Ev (fun k => impl_StuffBits.f k r) ((⟨#[]⟩ : ByteArray), false) := by
      simp only [impl_StuffBits.f]
      refine Ev.bind hgood ?_
      simp only [Bool.false_eq_true, if_false]
      exact Ev.now _
    refine Ev.bind h2 ?_
    have h3 := unstuff_own [] (by simp) (by simp)
    rw [← nil_strB] at h3
    refine Ev.bind h3 ?_
    simp only [Bool.false_eq_true, if_false]
    exact Ev.now _
  | true =>
    rw [hg] at hgood
    have e := good_strB r (good_all r hg)
    have hb := bits_lt r (good_all r hg)
    have hl : (bitsOf r).length ≤ 300 := by
      have := good_len (bitsOf r) hb
      rw [e, hg] at this
      exact of_decide_eq_true this.symm
    generalize bitsOf r = l at e hb hl
    subst e
    have h2 : Ev (fun k => impl_StuffBits.f k (strB l)) (strB (sf 0 0 l), true) := by
      simp only [impl_StuffBits.f]
      refine Ev.bind hgood ?_
      simp only [if_true, stuff_ev l hb (by omega), Option.bind_some]
      exact Ev.now _
    refine Ev.bind h2 ?_
    have hsb := sf_bits l 0 0 hb
    by_cases hs : (sf 0 0 l).length ≤ 300
    · have h3 := unstuff_own (sf 0 0 l) hsb hs
      unfold unAns at h3
      rw [us_sf l hb] at h3
      refine Ev.bind h3 ?_
      simp only [if_true]
      refine Ev.bind (six_ev l hb (by omega)) ?_
      exact Ev.now _
    · have hgood2 := impl_goodBits_ev (strB (sf 0 0 l)) (by rw [strB_size]; have := sf_len l 0 0; omega)
      rw [good_len _ hsb, decide_eq_false hs] at hgood2
      have h3 : Ev (fun k => impl_UnstuffBits.f k (strB (sf 0 0 l))) ((⟨#[]⟩ : ByteArray), false) := by
        simp only [impl_UnstuffBits.f]
        refine Ev.bind hgood2 ?_
        simp only [Bool.false_eq_true, if_false]
        exact Ev.now _
      refine Ev.bind h3 ?_
      have g : ((strB (sf 0 0 l)).size : Int) > 300 := by rw [strB_size]; omega
      simp only [if_true, Bool.false_eq_true, if_false, g]
      exact Ev.now _
theorem same_frame (id : Int) (d : List Int) (hd : d.length ≤ 100) : Ev (fun k => spec_SameFrame.f k id d id d) true := by
  simp only [spec_SameFrame.f, if_true, bne_self_eq_false]
  refine Ev.next ?_
  simp only [spec_SameFrame.j0, Bool.false_eq_true, if_false]
  have := eq_loop (fun k i => spec_SameFrame.l0 k (d.length : Int) i id d id d) d.length true (fun k => by simp [spec_SameFrame.l0]) (fun i hi => ⟨0, fun k _ => by
    have h1 : (i : Int) < (d.length : Int) := by omega
    have h2 : (0 : Int) ≤ (i : Int) := by omega
    simp only [spec_SameFrame.l0, h1, h2, if_true, wrap_succ i (by omega)]⟩)
  exact this
theorem FnFrames : laws_FnFrames.Pure := by
  intro c m _ _ hc _ _ hm
  by_cases h1 : (c.length : Int) > 1048576
  · exact ⟨1, by simp [laws_FnFrames.f, laws_FnFrames.j0, h1]⟩
  by_cases h2 : (m.length : Int) > 1048576
  · exact ⟨1, by simp [laws_FnFrames.f, laws_FnFrames.j0, h1, h2]⟩
  have bytes : ∀ l : List Int, (∀ x ∈ l, (Lit.int .u8 x).wf = true) → Bytes l := fun l hl x hx => by
    have := hl x hx
    simp only [Lit.wf, IntKind.min, IntKind.max, IntKind.signed, IntKind.bits, Bool.and_eq_true, decide_eq_true_eq] at this
    simp at this
    omega
  have hrest := stuff_part m (bytes m hm)
  obtain ⟨id, d, hdr, hi1, hi2, hd1, hd2⟩ := draw_frame c (bytes c hc)
  refine Ev.rounds (g := fun k => laws_FnFrames.f k c m) ?_
  simp only [laws_FnFrames.f, h1, h2, if_false, decide_false]
  refine Ev.next ?_
  simp only [laws_FnFrames.j0, Bool.false_eq_true, if_false]
  refine Ev.bind hdr ?_
  by_cases hg : 0 ≤ id ∧ id ≤ 2047 ∧ d.length ≤ 8
  · obtain ⟨n, rfl⟩ : ∃ n : Nat, id = (n : Int) := ⟨id.toNat, by omega⟩
    obtain ⟨D, rfl⟩ : ∃ D : List Nat, d = upN D := ⟨d.map Int.toNat, by
      unfold upN
      rw [List.map_map]
      conv => lhs; rw [← List.map_id d]
      refine List.map_congr_left fun x hx => ?_
      have := hd2 x hx
      simp only [Function.comp_apply, id]
      omega⟩
    have hDl : D.length ≤ 8 := by have := hg.2.2; rwa [upN_len] at this
    have hDb : ∀ x ∈ D, x < 256 := fun x hx => by
      have := hd2 (x : Int) (List.mem_map.2 ⟨x, hx, rfl⟩)
      omega
    have hn : n ≤ 2047 := by omega
    have hF := frame_bits n D hn hDl hDb
    have hbb := body_bits n D
    have hbl := body_len n D
    have hsl := sf_len (body n D) 0 0
    have hone : ∀ b ∈ List.replicate 7 1, b < 2 := fun b hb => by rw [List.eq_of_mem_replicate hb]; decide
    have hsg := spec_good_frame (n : Int) (upN D)
    rw [decide_eq_true hg] at hsg
    have hSF : Ev (fun k => spec_FrameBits.f k (n : Int) (upN D)) (strB (sf 0 0 (body n D) ++ List.replicate 7 1)) := by
      simp only [spec_FrameBits.f, hsg, Option.bind_some, if_true]
      refine Ev.bind (body_ev n D hn hDl hDb) (Ev.bind (spec_stuff_ev _ hbb (by omega)) ?_)
      have g2 : (strB (sf 0 0 (body n D))).size + 7 ≤ 9223372036854775807 := by rw [strB_size]; omega
      simp only [g2, if_true, seven_strB, strB_app]
      exact Ev.now _
    have hR := (read_own (sf 0 0 (body n D) ++ List.replicate 7 1) (fun b hb => by
      rcases List.mem_append.1 hb with q | q
      · exact sf_bits _ _ _ hbb b q
      · exact hone b q) (by rw [List.length_append, List.length_replicate]; omega))
    rw [read_frame n D hn hDl hDb] at hR
    unfold trip at hR
    refine Ev.bind hF (Ev.bind hSF ?_)
    simp only [if_true]
    refine Ev.bind hR ?_
    simp only [hsg, Option.bind_some, bne_self_eq_false, Bool.false_eq_true, if_false, if_true]
    refine Ev.bind (same_frame (n : Int) (upN D) (by rw [upN_len]; omega)) ?_
    simp only [Bool.not_true]
    exact hrest
  · have hsg := spec_good_frame id d
    have hig := good_frame id d
    rw [decide_eq_false hg] at hsg hig
    have hF : Ev (fun k => impl_FrameBits.f k id d) (⟨#[]⟩ : ByteArray) := by
      simp only [impl_FrameBits.f, hig, Option.bind_some, Bool.false_eq_true, if_false]
      exact Ev.now _
    have hSF : Ev (fun k => spec_FrameBits.f k id d) (⟨#[]⟩ : ByteArray) := by
      simp only [spec_FrameBits.f, hsg, Option.bind_some, Bool.false_eq_true, if_false]
      exact Ev.now _
    have hR := read_own [] (by simp) (by simp)
    have e : readAns [] = (0, [], false) := by simp [readAns]
    rw [e, ← nil_strB] at hR
    unfold trip at hR
    refine Ev.bind hF (Ev.bind hSF ?_)
    simp only [if_true]
    refine Ev.bind hR ?_
    simp only [hsg, Option.bind_some, bne_self_eq_false, Bool.false_eq_true, if_false]
    exact hrest

end Go.Proofs.YtimaapbgoooibaaDoor.Pure
