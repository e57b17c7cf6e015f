/- 'FnExactRunBus': what the program's function and the reference's answer, told over numbers and lists alone, meets the law at every input within the kinds' own bounds; no other condition. -/
import Derived.Test.YtdiibgbekjlmlaaQFnExactRunBusx13
import Derived.Test.YtdiibgbekjlmlaaPlain
namespace Go.Proofs.Ytdiibgbekjlmlaa.Pure
open Go.RowKit Go.Proofs.Ytdiibgbekjlmlaa.PFnExactRunBus Go.Proofs.Ytdiibgbekjlmlaa.Plain Go.Proofs.YtdiibgbekjlmlaaW.PrintWords Go.Proofs.YtdiibgbekjlmlaaW.PrintLast
set_option linter.unusedVariables false
set_option linter.unusedSimpArgs false

theorem szByteS_eq (l : List Int) (h : l.length ≤ 140737488351232) (n : Int) (h0 : 0 ≤ n) (h1 : n ≤ 1048576) : laws_szByteS.f l n = some (if (l.length : Int) > n then -1 else n - l.length) := by
 unfold laws_szByteS.f
 rw [wrap_in (by omega) (by omega)]
 split <;> split <;> first | rfl | (exfalso; omega)
theorem toByteS_ev (l : List Int) (h : l.length ≤ 1048576) : Ev (fun k => laws_toByteS.f k l) l := by
 have := to_loop (fun k acc i => laws_toByteS.l0 k l acc i) id l 0 (fun k acc => by simp [laws_toByteS.l0]) (fun i hi => ⟨0, fun k _ acc hacc => by
  have h1 : (i : Int) < (l.length : Int) := by omega
  have h2 : (0 : Int) ≤ (i : Int) := by omega
  have h3 : (i : Int) < (acc.length : Int) := by omega
  have h4 : rd l (i : Int) = l[i] := by simp [rd, hi]
  simp only [laws_toByteS.l0, h1, h2, h3, h4, if_true, wrap_succ i (by omega), toNat_i]
  rfl⟩)
 rw [List.map_id] at this
 exact Ev.congr (fun k => by
  have h5 : l.length ≤ 100000000 := by omega
  simp only [laws_toByteS.f, toNat_i]
  rw [if_pos (by omega), if_pos (by omega)]) this
theorem toIntS_ev (l : List Int) (h : l.length ≤ 1048576) : Ev (fun k => laws_toIntS.f k l) l := by
 have := to_loop (fun k acc i => laws_toIntS.l0 k l acc i) id l 0 (fun k acc => by simp [laws_toIntS.l0]) (fun i hi => ⟨0, fun k _ acc hacc => by
  have h1 : (i : Int) < (l.length : Int) := by omega
  have h2 : (0 : Int) ≤ (i : Int) := by omega
  have h3 : (i : Int) < (acc.length : Int) := by omega
  have h4 : rd l (i : Int) = l[i] := by simp [rd, hi]
  simp only [laws_toIntS.l0, h1, h2, h3, h4, if_true, wrap_succ i (by omega), toNat_i]
  rfl⟩)
 rw [List.map_id] at this
 exact Ev.congr (fun k => by
  have h5 : l.length ≤ 100000000 := by omega
  simp only [laws_toIntS.f, toNat_i]
  rw [if_pos (by omega), if_pos (by omega)]) this
theorem eqSentS_ev (l : List (S53)) (h : l.length < 9223372036854775807) : Ev (fun k => laws_eqSentS.f k l l) true := by
 have := eq_loop (fun k i => laws_eqSentS.l0 k l l i) l.length true (fun k => by simp [laws_eqSentS.l0]) (fun i hi => ⟨0, fun k _ => by
  have h1 : (i : Int) < (l.length : Int) := by omega
  have h2 : (0 : Int) ≤ (i : Int) := by omega
  simp only [laws_eqSentS.l0, laws_eqSent.f, h1, h2, if_true, Option.bind_some, wrap_succ i (by omega), bne_self_eq_false, Bool.false_eq_true, if_false]⟩)
 exact Ev.congr (fun k => by simp only [laws_eqSentS.f, if_true]) this
theorem eqByteS_ev (l : List Int) (h : l.length < 9223372036854775807) : Ev (fun k => laws_eqByteS.f k l l) true := by
 have := eq_loop (fun k i => laws_eqByteS.l0 k l l i) l.length true (fun k => by simp [laws_eqByteS.l0]) (fun i hi => ⟨0, fun k _ => by
  have h1 : (i : Int) < (l.length : Int) := by omega
  have h2 : (0 : Int) ≤ (i : Int) := by omega
  simp only [laws_eqByteS.l0, h1, h2, if_true, Option.bind_some, wrap_succ i (by omega), bne_self_eq_false, Bool.false_eq_true, if_false]⟩)
 exact Ev.congr (fun k => by simp only [laws_eqByteS.f, if_true]) this
theorem eqIntS_ev (l : List Int) (h : l.length < 9223372036854775807) : Ev (fun k => laws_eqIntS.f k l l) true := by
 have := eq_loop (fun k i => laws_eqIntS.l0 k l l i) l.length true (fun k => by simp [laws_eqIntS.l0]) (fun i hi => ⟨0, fun k _ => by
  have h1 : (i : Int) < (l.length : Int) := by omega
  have h2 : (0 : Int) ≤ (i : Int) := by omega
  simp only [laws_eqIntS.l0, h1, h2, if_true, Option.bind_some, wrap_succ i (by omega), bne_self_eq_false, Bool.false_eq_true, if_false]⟩)
 exact Ev.congr (fun k => by simp only [laws_eqIntS.f, if_true]) this
theorem markIntS_at (l : List Int) (h : l.length ≤ 1000000000) (m0 : Int) (h0 : 0 ≤ m0) (hm : m0 ≤ 1000000000000000) : Ev (fun k => laws_markIntS.f k l m0) (m0 + ((1 : Nat) : Int) * (l.length : Int), (List.range l.length).map fun (j : Nat) => id (m0 + ((1 : Nat) : Int) * (j : Int))) := by
 refine mark_loop (fun k ys m i => laws_markIntS.l0 k ys m i) id 1 m0 l (fun k ys m hy => by simp [laws_markIntS.l0, hy]) (fun i hi => ⟨0, fun k _ ys hy => ?_⟩)
 have h1 : (i : Int) < (ys.length : Int) := by omega
 have h2 : (0 : Int) ≤ (i : Int) := by omega
 have hw1 : wrap64 (m0 + 1 * (i : Int) + 1) = m0 + 1 * ((i + 1 : Nat) : Int) := (wrap_in (by omega) (by omega)).trans (by omega)
 simp only [Int.cast_ofNat_Int] at *
 simp only [laws_markIntS.l0, h1, h2, if_true, wrap_succ i (by omega), toNat_i, Option.bind_some, hw1]
 all_goals rfl
theorem markIntS_ev (l : List Int) (h : l.length ≤ 1000000000) : Ev (fun k => laws_markIntS.f k l 1) (1 + ((1 : Nat) : Int) * (l.length : Int), (List.range l.length).map fun (j : Nat) => id (1 + ((1 : Nat) : Int) * (j : Int))) := markIntS_at l h 1 (by omega) (by omega)
/-! ### Rows within rows: their sizes, copies, comparisons and marks -/
theorem len_le_sum {α : Type} (W : α → Nat) (h : ∀ x, 1 ≤ W x) : ∀ L : List α, L.length ≤ (L.map W).sum
 | [] => by simp
 | x :: L => by
  have := len_le_sum W h L
  have := h x
  simp only [List.map_cons, List.sum_cons, List.length_cons]
  omega
theorem sum_ones {α : Type} : ∀ L : List α, (L.map (fun _ => 1)).sum = L.length
 | [] => rfl
 | x :: L => by
  have := sum_ones L
  simp only [List.map_cons, List.sum_cons, List.length_cons]
  omega
theorem mem_le_sum {α : Type} (W : α → Nat) : ∀ (L : List α) (x : α), x ∈ L → W x ≤ (L.map W).sum
 | y :: L, x, h => by
  simp only [List.map_cons, List.sum_cons]
  rcases List.mem_cons.mp h with rfl | h
  · omega
  · have := mem_le_sum W L x h
    omega
theorem sum_le_mul {α : Type} (W : α → Nat) (b : Nat) : ∀ (L : List α), (∀ x ∈ L, W x ≤ b) → (L.map W).sum ≤ L.length * b
 | [], _ => by simp
 | x :: L, h => by
  have h1 := sum_le_mul W b L (fun y hy => h y (List.mem_cons_of_mem _ hy))
  have h2 := h x List.mem_cons_self
  simp only [List.map_cons, List.sum_cons, List.length_cons, Nat.succ_mul]
  omega
theorem step_len {β : Type} (pre : List β) (x : β) : (((pre ++ [x]).length : Nat) : Int) = ((pre.length + 1 : Nat) : Int) := by rw [List.length_append, List.length_singleton]
/-- Marks and what is held, element by element. -/
theorem mh_loop {β : Type} (F : Nat → List β → Int → Int → Option (Int × List β)) (G : Nat → List β → Int → Int → Option Int) (W : β → Nat)
 (hF : ∀ k ys m, F (k + 1) ys m (ys.length : Int) = some (m, ys)) (hG : ∀ k ys m, G (k + 1) ys m (ys.length : Int) = some m)
 (step : ∀ (pre post : List β) (x : β) (m : Int), 0 ≤ m → m + (W x : Int) ≤ 1000000000000000 → pre.length + (post.length + 1) ≤ 1000000000000000 → ∃ m' y, m ≤ m' ∧ m' ≤ m + (W x : Int) ∧ (∃ K, ∀ k, K ≤ k → F (k + 1) (pre ++ x :: post) m (pre.length : Int) = F k (pre ++ y :: post) m' ((pre.length + 1 : Nat) : Int)) ∧ (∃ K, ∀ k, K ≤ k → ∀ q : List β, G (k + 1) (pre ++ y :: q) m (pre.length : Int) = G k (pre ++ y :: q) m' ((pre.length + 1 : Nat) : Int))) :
 ∀ (L pre : List β) (m : Int), 0 ≤ m → m + ((L.map W).sum : Int) ≤ 1000000000000000 → pre.length + L.length ≤ 1000000000000000 →
  ∃ m' L', L'.length = L.length ∧ m ≤ m' ∧ m' ≤ m + ((L.map W).sum : Int) ∧ Ev (fun k => F k (pre ++ L) m (pre.length : Int)) (m', pre ++ L') ∧ Ev (fun k => G k (pre ++ L') m (pre.length : Int)) m' := by
 intro L
 induction L with
 | nil =>
  intro pre m h0 hm hl
  refine ⟨m, [], rfl, Int.le_refl _, by simp, Ev.next ⟨0, fun k _ => ?_⟩, Ev.next ⟨0, fun k _ => ?_⟩⟩
  · simpa using hF k pre m
  · simpa using hG k pre m
 | cons x L ih =>
  intro pre m h0 hm hl
  simp only [List.map_cons, List.sum_cons, List.length_cons] at hm hl ⊢
  obtain ⟨m1, y, h1, h2, ⟨K1, f1⟩, ⟨K2, g1⟩⟩ := step pre L x m h0 (by omega) (by omega)
  obtain ⟨m', L', hl', h3, h4, f2, g2⟩ := ih (pre ++ [y]) m1 (by omega) (by omega) (by rw [List.length_append, List.length_singleton]; omega)
  rw [step_len, List.append_assoc, List.singleton_append] at f2 g2
  rw [List.append_assoc, List.singleton_append] at f2
  exact ⟨m', y :: L', by rw [List.length_cons, hl'], by omega, by omega, Ev.back 1 K1 f1 f2, Ev.back 1 K2 (fun k hk => g1 k hk L') g2⟩
theorem at_mid {β : Type} (d : β) (pre post : List β) (x : β) : (pre ++ x :: post).getD ((pre.length : Int)).toNat d = x := by simp
theorem set_mid {β : Type} (pre post : List β) (x y : β) : (pre ++ x :: post).set ((pre.length : Int)).toNat y = pre ++ y :: post := by simp
theorem mid_lt {β : Type} (pre post : List β) (x : β) : ((pre.length : Int) < ((pre ++ x :: post).length : Int)) = True := by
 apply eq_true
 rw [List.length_append, List.length_cons]
 omega
theorem nat_ge (n : Nat) : ((0 : Int) ≤ (n : Int)) = True := eq_true (by omega)
theorem end_lt (n : Nat) : ((n : Int) < (n : Int)) = False := eq_false (by omega)
theorem mhByte (l : List Int) (m : Int) (h0 : 0 ≤ m) (hm : m + (l.length : Int) ≤ 1000000000000000) : ∃ m' l', l'.length = l.length ∧ m ≤ m' ∧ m' ≤ m + (l.length : Int) ∧ Ev (fun k => laws_markByteS.f k l m) (m', l') ∧ Ev (fun k => laws_heldByteS.f k l' m) m' := by
 have h := mh_loop (fun k ys m i => laws_markByteS.l0 k ys m i) (fun k ys m i => laws_heldByteS.l0 k ys m i) (fun _ : Int => 1)
  (fun k ys m => by simp only [laws_markByteS.l0, end_lt, if_false]) (fun k ys m => by simp only [laws_heldByteS.l0, end_lt, if_false])
  (fun pre post x m h0 hm hl => ⟨m + 1, m % 256, by omega, by omega, ⟨0, fun k _ => by
   simp only [laws_markByteS.l0, mid_lt, nat_ge, if_true, set_mid]
   rw [wrap_in (by omega) (by omega), wrap_succ _ (by omega)]⟩, ⟨0, fun k _ q => by
   simp only [laws_heldByteS.l0, mid_lt, nat_ge, if_true, rd, at_mid]
   rw [wrap_in (by omega) (by omega), wrap_succ _ (by omega)]⟩⟩) l [] m h0 (by rw [sum_ones]; exact hm) (by simp only [List.length_nil]; omega)
 rw [sum_ones] at h
 exact h
def wF (x : S49) : Nat := 1 + x.f1.length
def wT (x : S44) : Nat := 3 + (x.f0.map wF).sum
theorem mhFrame (l : List S49) (m : Int) (h0 : 0 ≤ m) (hm : m + ((l.map wF).sum : Int) ≤ 1000000000000000) : ∃ m' l', l'.length = l.length ∧ m ≤ m' ∧ m' ≤ m + ((l.map wF).sum : Int) ∧ Ev (fun k => laws_markFrameS.f k l m) (m', l') ∧ Ev (fun k => laws_heldFrameS.f k l' m) m' := by
 have hl := len_le_sum wF (fun x => by unfold wF; omega) l
 exact mh_loop (fun k ys m i => laws_markFrameS.l0 k ys m i) (fun k ys m i => laws_heldFrameS.l0 k ys m i) wF
  (fun k ys m => by simp only [laws_markFrameS.l0, end_lt, if_false]) (fun k ys m => by simp only [laws_heldFrameS.l0, end_lt, if_false])
  (fun pre post x m h0 hm hl => by
   unfold wF at hm ⊢
   obtain ⟨m1, b, hb, h1, h2, ⟨K1, f1⟩, ⟨K2, g1⟩⟩ := mhByte x.f1 (m + 1) (by omega) (by omega)
   refine ⟨m1, ⟨m, b⟩, by omega, by omega, ⟨K1, fun k hk => ?_⟩, ⟨K2, fun k hk q => ?_⟩⟩
   · have f1' := f1 k hk
     simp only at f1'
     simp only [laws_markFrameS.l0, mid_lt, nat_ge, if_true, rd_T49, at_mid, set_mid]
     rw [wrap_in (n := m + 1) (by omega) (by omega), wrap_succ _ (by omega), f1']
     rfl
   · have g1' := g1 k hk
     simp only at g1'
     have c : ¬ m1 < 0 := by omega
     simp only [laws_heldFrameS.l0, mid_lt, nat_ge, if_true, rd_T49, at_mid]
     rw [wrap_in (n := m + 1) (by omega) (by omega), wrap_succ _ (by omega), g1']
     simp only [Option.bind_some, c, if_false]) l [] m h0 hm (by simp only [List.length_nil]; omega)
theorem mhTalker (l : List S44) (m : Int) (h0 : 0 ≤ m) (hm : m + ((l.map wT).sum : Int) ≤ 1000000000000000) : ∃ m' l', l'.length = l.length ∧ m ≤ m' ∧ m' ≤ m + ((l.map wT).sum : Int) ∧ Ev (fun k => laws_markTalkerS.f k l m) (m', l') ∧ Ev (fun k => laws_heldTalkerS.f k l' m) m' := by
 have hl := len_le_sum wT (fun x => by unfold wT; omega) l
 exact mh_loop (fun k ys m i => laws_markTalkerS.l0 k ys m i) (fun k ys m i => laws_heldTalkerS.l0 k ys m i) wT
  (fun k ys m => by simp only [laws_markTalkerS.l0, end_lt, if_false]) (fun k ys m => by simp only [laws_heldTalkerS.l0, end_lt, if_false])
  (fun pre post x m h0 hm hl => by
   unfold wT at hm ⊢
   obtain ⟨m1, b, hb, h1, h2, ⟨K1, f1⟩, ⟨K2, g1⟩⟩ := mhFrame x.f0 m (by omega) (by omega)
   refine ⟨m1 + 3, ⟨b, m1, m1 + 1, ((Int.tmod (m1 + 2) 3) == 0)⟩, by omega, by omega, ⟨K1, fun k hk => ?_⟩, ⟨K2, fun k hk q => ?_⟩⟩
   · have f1' := f1 k hk
     simp only at f1'
     simp only [laws_markTalkerS.l0, mid_lt, nat_ge, if_true, rd_T44, at_mid, set_mid]
     rw [f1', wrap_succ _ (by omega)]
     simp only [Option.bind_some]
     rw [wrap_in (n := m1 + 1) (by omega) (by omega), wrap_in (n := m1 + 1 + 1) (by omega) (by omega), wrap_in (n := m1 + 1 + 1 + 1) (by omega) (by omega), show m1 + 1 + 1 = m1 + 2 by omega, show m1 + 2 + 1 = m1 + 3 by omega]
   · have g1' := g1 k hk
     simp only at g1'
     have c : ¬ m1 < 0 := by omega
     simp only [laws_heldTalkerS.l0, mid_lt, nat_ge, if_true, rd_T44, at_mid]
     rw [g1', wrap_succ _ (by omega)]
     simp only [Option.bind_some, c, if_false]
     rw [wrap_in (n := m1 + 1) (by omega) (by omega), wrap_in (n := m1 + 1 + 1) (by omega) (by omega), wrap_in (n := m1 + 1 + 1 + 1) (by omega) (by omega)]
     have e : m1 + 1 + 1 = m1 + 2 := by omega
     have e3 : m1 + 1 + 1 + 1 = m1 + 3 := by omega
     simp only [e, bne_self_eq_false, Bool.false_eq_true, if_false, if_true]
     rw [show m1 + 2 + 1 = m1 + 3 by omega]) l [] m h0 hm (by simp only [List.length_nil]; omega)
theorem mhSent (l : List S53) (m : Int) (h0 : 0 ≤ m) (hm : m + 4 * (l.length : Int) ≤ 1000000000000000) : ∃ m' l', l'.length = l.length ∧ m ≤ m' ∧ m' ≤ m + 4 * (l.length : Int) ∧ Ev (fun k => laws_markSentS.f k l m) (m', l') ∧ Ev (fun k => laws_heldSentS.f k l' m) m' := by
 have e4 : (((l.map (fun _ : S53 => 4)).sum : Nat) : Int) = 4 * (l.length : Int) := by
  have : (l.map (fun _ : S53 => 4)).sum = 4 * l.length := by
   clear hm
   induction l with
   | nil => rfl
   | cons x l ih => simp only [List.map_cons, List.sum_cons, List.length_cons, ih]; omega
  omega
 have h := mh_loop (fun k ys m i => laws_markSentS.l0 k ys m i) (fun k ys m i => laws_heldSentS.l0 k ys m i) (fun _ : S53 => 4)
  (fun k ys m => by simp only [laws_markSentS.l0, end_lt, if_false]) (fun k ys m => by simp only [laws_heldSentS.l0, end_lt, if_false])
  (fun pre post x m h0 hm hl => ⟨m + 4, ⟨m, m + 1, m + 2, ((Int.tmod (m + 3) 3) == 0)⟩, by omega, by omega, ⟨0, fun k _ => by
   have e1 : wrap64 (m + 1) = m + 1 := wrap_in (by omega) (by omega)
   have e2 : wrap64 (m + 1 + 1) = m + 2 := (wrap_in (by omega) (by omega)).trans (by omega)
   have e3 : wrap64 (m + 2 + 1) = m + 3 := (wrap_in (by omega) (by omega)).trans (by omega)
   have e4 : wrap64 (m + 3 + 1) = m + 4 := (wrap_in (by omega) (by omega)).trans (by omega)
   simp only [laws_markSentS.l0, mid_lt, nat_ge, if_true, set_mid, rd_T53, at_mid, Option.bind_some, e1, e2, e3, e4]
   rw [wrap_succ _ (by omega)]⟩, ⟨0, fun k _ q => by
   have e1 : wrap64 (m + 1) = m + 1 := wrap_in (by omega) (by omega)
   have e2 : wrap64 (m + 1 + 1) = m + 2 := (wrap_in (by omega) (by omega)).trans (by omega)
   have e3 : wrap64 (m + 2 + 1) = m + 3 := (wrap_in (by omega) (by omega)).trans (by omega)
   have e4 : wrap64 (m + 3 + 1) = m + 4 := (wrap_in (by omega) (by omega)).trans (by omega)
   simp only [laws_heldSentS.l0, mid_lt, nat_ge, if_true, rd_T53, at_mid, e1, e2, e3, e4, bne_self_eq_false, Bool.false_eq_true, if_false]
   rw [wrap_succ _ (by omega)]⟩⟩) l [] m h0 (by rw [e4]; exact hm) (by simp only [List.length_nil]; omega)
 rw [e4] at h
 exact h
/-! sizes -/
theorem sz_loop {β : Type} (F : Nat → List β → Int → Int → Option Int) (c : β → Nat) (hF : ∀ k ys m, F (k + 1) ys m (ys.length : Int) = some m)
 (ok : β → Prop) (step : ∀ (pre post : List β) (x : β) (m : Int), ok x → 0 ≤ m → m ≤ 1048576 → pre.length + (post.length + 1) ≤ 1000000000000000 → (∃ K, ∀ k, K ≤ k → F (k + 1) (pre ++ x :: post) m (pre.length : Int) = some (-1)) ∨ (∃ t : Int, 0 ≤ t ∧ t + (c x : Int) = m ∧ ∃ K, ∀ k, K ≤ k → F (k + 1) (pre ++ x :: post) m (pre.length : Int) = F k (pre ++ x :: post) t ((pre.length + 1 : Nat) : Int))) :
 ∀ (L pre : List β) (m : Int), (∀ x ∈ L, ok x) → 0 ≤ m → m ≤ 1048576 → pre.length + L.length ≤ 1000000000000000 → ∃ t, Ev (fun k => F k (pre ++ L) m (pre.length : Int)) t ∧ (t = -1 ∨ (0 ≤ t ∧ t + ((L.map c).sum : Int) = m)) := by
 intro L
 induction L with
 | nil =>
  intro pre m _ h0 hm hl
  exact ⟨m, Ev.next ⟨0, fun k _ => by simpa using hF k pre m⟩, .inr ⟨h0, by simp⟩⟩
 | cons x L ih =>
  intro pre m hx h0 hm hl
  simp only [List.map_cons, List.sum_cons, List.length_cons] at hl ⊢
  rcases step pre L x m (hx x List.mem_cons_self) h0 hm hl with ⟨K, h⟩ | ⟨t, ht, hc, K, h⟩
  · exact ⟨-1, Ev.next ⟨K, h⟩, .inl rfl⟩
  · obtain ⟨t', h', ht'⟩ := ih (pre ++ [x]) t (fun y hy => hx y (List.mem_cons_of_mem _ hy)) ht (by omega) (by rw [List.length_append, List.length_singleton]; omega)
    rw [step_len, List.append_assoc, List.singleton_append] at h'
    refine ⟨t', Ev.back 1 K h h', ht'.imp_right (fun q => ⟨q.1, ?_⟩)⟩
    omega
theorem szFrameS_ev (l : List S69) (m : Int) (h0 : 0 ≤ m) (hm : m ≤ 1048576) (hl : l.length ≤ 100000000000000) (hx : ∀ x ∈ l, x.f1.length ≤ 140737488351232) : ∃ t, Ev (fun k => laws_szFrameS.f k l m) t ∧ (t = -1 ∨ (0 ≤ t ∧ t + (l.length : Int) + (((l.map (fun x => x.f1.length)).sum : Nat) : Int) = m)) := by
 have e : wrap64 (m - (l.length : Int)) = m - (l.length : Int) := wrap_in (by omega) (by omega)
 by_cases c : m - (l.length : Int) < 0
 · exact ⟨-1, ⟨0, fun k _ => by simp only [laws_szFrameS.f, e, c, if_true]⟩, .inl rfl⟩
 · obtain ⟨t, ht, hc⟩ := sz_loop (fun k ys m i => laws_szFrameS.l0 k ys m i) (fun x : S69 => x.f1.length) (fun k ys m => by simp only [laws_szFrameS.l0, end_lt, if_false]) (fun x => x.f1.length ≤ 140737488351232)
    (fun pre post x m hx h0 hm hl => by
     have hs := szByteS_eq x.f1 hx m h0 hm
     by_cases c : (x.f1.length : Int) > m
     · rw [if_pos c] at hs
       refine .inl ⟨0, fun k _ => ?_⟩
       have cn : (-1 : Int) < 0 := by omega
       simp only [laws_szFrameS.l0, mid_lt, nat_ge, if_true, rd_T69, at_mid, laws_szFrame.f, hs, Option.bind_some, cn]
     · rw [if_neg c] at hs
       have cn : ¬ (m - (x.f1.length : Int) < 0) := by omega
       refine .inr ⟨m - (x.f1.length : Int), by omega, by omega, 0, fun k _ => ?_⟩
       simp only [laws_szFrameS.l0, mid_lt, nat_ge, if_true, rd_T69, at_mid, laws_szFrame.f, hs, Option.bind_some, cn, if_false]
       rw [wrap_succ _ (by omega)]) l [] (m - (l.length : Int)) hx (by omega) (by omega) (by simp only [List.length_nil]; omega)
   refine ⟨t, Ev.congr (fun k => by simp only [laws_szFrameS.f, e, c, if_false]; rfl) ht, hc.imp_right (fun q => ⟨q.1, ?_⟩)⟩
   have := q.2
   omega
def cT (x : S41) : Nat := x.f0.length + (x.f0.map (fun y => y.f1.length)).sum
theorem szTalkerS_ev (l : List S41) (hl : l.length ≤ 100000000000000) (hx : ∀ x ∈ l, x.f0.length ≤ 100000000000000 ∧ ∀ y ∈ x.f0, y.f1.length ≤ 140737488351232) : ∃ t, Ev (fun k => laws_szTalkerS.f k l 1048576) t ∧ (t = -1 ∨ (0 ≤ t ∧ t + (l.length : Int) + (((l.map cT).sum : Nat) : Int) = 1048576)) := by
 have e : wrap64 (1048576 - (l.length : Int)) = 1048576 - (l.length : Int) := wrap_in (by omega) (by omega)
 by_cases c : 1048576 - (l.length : Int) < 0
 · exact ⟨-1, ⟨0, fun k _ => by simp only [laws_szTalkerS.f, e, c, if_true]⟩, .inl rfl⟩
 · obtain ⟨t, ht, hc⟩ := sz_loop (fun k ys m i => laws_szTalkerS.l0 k ys m i) cT (fun k ys m => by simp only [laws_szTalkerS.l0, end_lt, if_false]) (fun x => x.f0.length ≤ 100000000000000 ∧ ∀ y ∈ x.f0, y.f1.length ≤ 140737488351232)
    (fun pre post x m hx h0 hm hl => by
     obtain ⟨t, ⟨K, ht⟩, hc⟩ := szFrameS_ev x.f0 m h0 hm hx.1 hx.2
     rcases hc with rfl | ⟨hc1, hc2⟩
     · refine .inl ⟨K, fun k hk => ?_⟩
       have ht' := ht k hk
       simp only at ht'
       have cn : (-1 : Int) < 0 := by omega
       simp only [laws_szTalkerS.l0, mid_lt, nat_ge, if_true, rd_T41, at_mid, laws_szTalker.f, ht', Option.bind_some, cn]
     · refine .inr ⟨t, hc1, by unfold cT; omega, K, fun k hk => ?_⟩
       have ht' := ht k hk
       simp only at ht'
       have cn : ¬ (t < 0) := by omega
       simp only [laws_szTalkerS.l0, mid_lt, nat_ge, if_true, rd_T41, at_mid, laws_szTalker.f, ht', Option.bind_some, cn, if_false]
       rw [wrap_succ _ (by omega)]) l [] (1048576 - (l.length : Int)) hx (by omega) (by omega) (by simp only [List.length_nil]; omega)
   refine ⟨t, Ev.congr (fun k => by simp only [laws_szTalkerS.f, e, c, if_false]; rfl) ht, hc.imp_right (fun q => ⟨q.1, ?_⟩)⟩
   have := q.2
   omega
/-! copies -/
def fr (x : S69) : S49 := ⟨x.f0, x.f1⟩
def tk (x : S41) : S44 := ⟨x.f0.map fr, x.f1, x.f2, x.f3⟩
theorem toFrameS_ev (l : List S69) (h : l.length ≤ 1048576) (hx : ∀ x ∈ l, x.f1.length ≤ 1048576) : Ev (fun k => laws_toFrameS.f k l) (l.map fr) := by
 have := to_loop (fun k acc i => laws_toFrameS.l0 k l acc i) fr l z49 (fun k acc => by simp [laws_toFrameS.l0]) (fun i hi => by
  obtain ⟨K, hK⟩ := toByteS_ev l[i].f1 (hx _ (List.getElem_mem hi))
  refine ⟨K, fun k hk acc hacc => ?_⟩
  have hK' := hK k hk
  simp only at hK'
  have h1 : (i : Int) < (l.length : Int) := by omega
  have h2 : (0 : Int) ≤ (i : Int) := by omega
  have h3 : (i : Int) < (acc.length : Int) := by omega
  have h4 : rd_T69 l (i : Int) = l[i] := by simp [rd_T69, hi]
  simp only [laws_toFrameS.l0, h1, h2, h3, h4, if_true, laws_toFrame.f, hK', Option.bind_some, wrap_succ i (by omega), toNat_i]
  rfl)
 exact Ev.congr (fun k => by
  have h5 : l.length ≤ 100000000 := by omega
  simp only [laws_toFrameS.f, toNat_i]
  rw [if_pos (by omega), if_pos (by omega)]) this
theorem toTalkerS_ev (l : List S41) (h : l.length ≤ 1048576) (hx : ∀ x ∈ l, x.f0.length ≤ 1048576 ∧ ∀ y ∈ x.f0, y.f1.length ≤ 1048576) : Ev (fun k => laws_toTalkerS.f k l) (l.map tk) := by
 have := to_loop (fun k acc i => laws_toTalkerS.l0 k l acc i) tk l z44 (fun k acc => by simp [laws_toTalkerS.l0]) (fun i hi => by
  have hxi := hx _ (List.getElem_mem hi)
  obtain ⟨K, hK⟩ := toFrameS_ev l[i].f0 hxi.1 hxi.2
  refine ⟨K, fun k hk acc hacc => ?_⟩
  have hK' := hK k hk
  simp only at hK'
  have h1 : (i : Int) < (l.length : Int) := by omega
  have h2 : (0 : Int) ≤ (i : Int) := by omega
  have h3 : (i : Int) < (acc.length : Int) := by omega
  have h4 : rd_T41 l (i : Int) = l[i] := by simp [rd_T41, hi]
  simp only [laws_toTalkerS.l0, h1, h2, h3, h4, if_true, laws_toTalker.f, hK', Option.bind_some, wrap_succ i (by omega), toNat_i]
  rfl)
 exact Ev.congr (fun k => by
  have h5 : l.length ≤ 100000000 := by omega
  simp only [laws_toTalkerS.f, toNat_i]
  rw [if_pos (by omega), if_pos (by omega)]) this
/-! comparisons -/
theorem eqFrameS_ev (l : List S49) (h : l.length < 9223372036854775807) (hx : ∀ x ∈ l, x.f1.length < 9223372036854775807) : Ev (fun k => laws_eqFrameS.f k l l) true := by
 have := eq_loop (fun k i => laws_eqFrameS.l0 k l l i) l.length true (fun k => by simp [laws_eqFrameS.l0]) (fun i hi => by
  obtain ⟨K, hK⟩ := eqByteS_ev l[i].f1 (hx _ (List.getElem_mem hi))
  refine ⟨K, fun k hk => ?_⟩
  have hK' := hK k hk
  simp only at hK'
  have h1 : (i : Int) < (l.length : Int) := by omega
  have h2 : (0 : Int) ≤ (i : Int) := by omega
  have h4 : rd_T49 l (i : Int) = l[i] := by simp [rd_T49, hi]
  simp only [laws_eqFrameS.l0, laws_eqFrame.f, h1, h2, h4, hK', if_true, Option.bind_some, wrap_succ i (by omega), bne_self_eq_false, Bool.false_eq_true, if_false])
 exact Ev.congr (fun k => by simp only [laws_eqFrameS.f, if_true]) this
theorem eqTalkerS_ev (l : List S44) (h : l.length < 9223372036854775807) (hx : ∀ x ∈ l, x.f0.length < 9223372036854775807 ∧ ∀ y ∈ x.f0, y.f1.length < 9223372036854775807) : Ev (fun k => laws_eqTalkerS.f k l l) true := by
 have := eq_loop (fun k i => laws_eqTalkerS.l0 k l l i) l.length true (fun k => by simp [laws_eqTalkerS.l0]) (fun i hi => by
  have hxi := hx _ (List.getElem_mem hi)
  obtain ⟨K, hK⟩ := eqFrameS_ev l[i].f0 hxi.1 hxi.2
  refine ⟨K, fun k hk => ?_⟩
  have hK' := hK k hk
  simp only at hK'
  have h1 : (i : Int) < (l.length : Int) := by omega
  have h2 : (0 : Int) ≤ (i : Int) := by omega
  have h4 : rd_T44 l (i : Int) = l[i] := by simp [rd_T44, hi]
  simp only [laws_eqTalkerS.l0, laws_eqTalker.f, h1, h2, h4, hK', if_true, Option.bind_some, wrap_succ i (by omega), bne_self_eq_false, Bool.false_eq_true, if_false])
 exact Ev.congr (fun k => by simp only [laws_eqTalkerS.f, if_true]) this
theorem mask_shr (M t : Nat) (ht : t < 40) : shr .i64 (M : Int) (t : Int) = ((M / 2 ^ t : Nat) : Int) := by
 unfold shr
 have : min ((t : Int)).toNat IntKind.i64.bits = t := by simp [IntKind.bits]; omega
 rw [this]
 exact (Int.natCast_ediv M (2 ^ t)).symm ▸ by simp
theorem i64_small (n : Int) (h0 : 0 ≤ n) (h1 : n < 2 ^ 62) : IntKind.i64.wrap n = n := by rw [IntKind.wrap_i64]; omega
theorem mask_test (M t : Nat) (hM : M < 2 ^ 40) (ht : t < 40) : Go.bits .and .i64 (shr .i64 (M : Int) (t : Int)) 1 = ((M / 2 ^ t % 2 : Nat) : Int) := by
 rw [mask_shr M t ht]
 have h := (bits_nat .i64 62 (by decide) i64_small (M / 2 ^ t) 1 (Nat.lt_of_le_of_lt (Nat.div_le_self _ _) (by omega)) (by decide)).1
 rw [Nat.and_one_is_mod] at h
 exact h
/-! ### Who may speak first: bit by bit -/
def sb (x : Int) (b : Nat) : Nat := x.toNat / 2 ^ (10 - b) % 2
theorem sb_lt (x : Int) (b : Nat) : sb x b < 2 := Nat.mod_lt _ (by decide)
theorem sb_bit (x : Int) (b : Nat) (h0 : 0 ≤ x) (h1 : x ≤ 2047) : Go.bits .and .i64 (shr .i64 x ((10 - b : Nat) : Int)) 1 = ((sb x b : Nat) : Int) := by
 obtain ⟨M, rfl⟩ : ∃ M : Nat, x = (M : Int) := ⟨x.toNat, by omega⟩
 exact mask_test M (10 - b) (by omega) (by omega)
theorem sh_i (b : Nat) (h : b ≤ 10) : wrap64 (10 - (b : Int)) = ((10 - b : Nat) : Int) := by rw [wrap_in (by omega) (by omega)]; omega
theorem sh_u (b : Nat) (h : b ≤ 10) : IntKind.u64.wrap (wrap64 (10 - (b : Int))) = ((10 - b : Nat) : Int) := by
 rw [sh_i b h]
 have : ∀ c : Nat, c < 11 → IntKind.u64.wrap ((c : Nat) : Int) = ((c : Nat) : Int) := by decide
 exact this _ (by omega)
def lowOf (b : Nat) : List Int → List Int → Bool
 | x :: I, l :: L => (decide (l < 0) && decide (sb x b = 0)) || lowOf b I L
 | _, _ => false
def nextOf (b : Nat) (low : Bool) (I L : List Int) : List Int := List.zipWith (fun x l => if low = true ∧ l < 0 ∧ sb x b = 1 then (b : Int) else l) I L
theorem lt_mid2 {α β : Type} (pre I : List α) (x : α) (preL L : List β) (y : β) (h : pre.length = preL.length) : ((pre.length : Int) < ((preL ++ y :: L).length : Int)) = True := by
 rw [h]
 exact mid_lt preL L y
theorem rd_mid2 (pre : List Int) (preL L : List Int) (y : Int) (h : pre.length = preL.length) : rd (preL ++ y :: L) (pre.length : Int) = y := by
 rw [h]
 simp [rd]
theorem rd_mid1 (pre L : List Int) (y : Int) : rd (pre ++ y :: L) (pre.length : Int) = y := by simp [rd]
theorem s_l3 (X Y : List Int) (b : Nat) (hb : b ≤ 10) (hX : X.length ≤ 6) (r : Int × List Int × Bool) : ∀ (I L preI preL : List Int) (low : Bool), X = preI ++ I → Y = preL ++ L → preI.length = preL.length → I.length = L.length → (∀ x ∈ I, 0 ≤ x ∧ x ≤ 2047) →
 Ev (fun k => spec_Arbitrate.l4 k X Y (b : Int) (low || lowOf b I L) X (X.length : Int) 0) r → Ev (fun k => spec_Arbitrate.l3 k X Y (b : Int) low X (X.length : Int) (preI.length : Int)) r
 | [], L, preI, preL, low, hX1, hY1, hp, hl, _, h => by
  refine Ev.next ?_
  have e : X.length = preI.length := by rw [hX1]; simp
  have hL : L = [] := List.length_eq_zero_iff.mp hl.symm
  subst hL
  simp only [lowOf, Bool.or_false] at h
  rw [← e]
  simp only [spec_Arbitrate.l3, end_lt, if_false]
  exact h
 | x :: I, [], _, _, _, _, _, _, hl, _, _ => by simp at hl
 | x :: I, l :: L, preI, preL, low, hX1, hY1, hp, hl, hx, h => by
  have hxx := hx x List.mem_cons_self
  have hlen : preI.length < 6 := by rw [hX1] at hX; simp at hX; omega
  have ih := s_l3 X Y b hb hX r I L (preI ++ [x]) (preL ++ [l]) (low || (decide (l < 0) && decide (sb x b = 0))) (by rw [hX1]; simp) (by rw [hY1]; simp) (by simp [hp]) (by simpa using hl) (fun y hy => hx y (List.mem_cons_of_mem _ hy)) (by
   simp only [lowOf] at h
   rw [Bool.or_assoc]
   exact h)
  rw [step_len] at ih
  refine Ev.next ?_
  have c1 : (preI.length : Int) < (X.length : Int) := by rw [hX1, List.length_append, List.length_cons]; omega
  have e1 : rd X (preI.length : Int) = x := by rw [hX1]; exact rd_mid1 _ _ _
  have c2 : (preI.length : Int) < (Y.length : Int) := by rw [hY1, hp, List.length_append, List.length_cons]; omega
  have e2 : rd Y (preI.length : Int) = l := by rw [hY1]; exact rd_mid2 _ _ _ _ hp
  have c3 : (0 : Int) ≤ ((10 - b : Nat) : Int) := by omega
  simp only [spec_Arbitrate.l3, c1, c2, e1, e2, nat_ge, if_true, sh_u b hb, sb_bit x b hxx.1 hxx.2, wrap_succ preI.length (by omega)]
  cases low with
  | true => simpa using ih
  | false =>
   by_cases hl0 : l < 0
   · simp only [hl0, if_true, Bool.false_eq_true, if_false, decide_true, Bool.true_and, Bool.false_or] at ih ⊢
     have e3 : (((sb x b : Nat) : Int) == 0) = decide (sb x b = 0) := by
      rw [Bool.eq_iff_iff, beq_iff_eq, decide_eq_true_eq]
      omega
     rw [e3]
     exact ih
   · simp only [hl0, Bool.false_eq_true, if_false, decide_false, Bool.false_and, Bool.false_or] at ih ⊢
     exact ih
theorem s_l4 (X : List Int) (b : Nat) (low : Bool) (hb : b ≤ 10) (hX : X.length ≤ 6) (r : Int × List Int × Bool) : ∀ (I L preI preL : List Int), X = preI ++ I → preI.length = preL.length → I.length = L.length → (∀ x ∈ I, 0 ≤ x ∧ x ≤ 2047) →
 Ev (fun k => spec_Arbitrate.l2 k X (preL ++ nextOf b low I L) ((b + 1 : Nat) : Int)) r → Ev (fun k => spec_Arbitrate.l4 k X (preL ++ L) (b : Int) low X (X.length : Int) (preI.length : Int)) r
 | [], L, preI, preL, hX1, hp, hl, _, h => by
  refine Ev.next ?_
  have e : X.length = preI.length := by rw [hX1]; simp
  have hL : L = [] := List.length_eq_zero_iff.mp hl.symm
  subst hL
  simp only [nextOf, List.zipWith_nil_left] at h
  rw [← e]
  simp only [spec_Arbitrate.l4, end_lt, if_false, wrap_succ b (by omega)]
  exact h
 | x :: I, [], _, _, _, _, hl, _, _ => by simp at hl
 | x :: I, l :: L, preI, preL, hX1, hp, hl, hx, h => by
  have hxx := hx x List.mem_cons_self
  have hlen : preI.length < 6 := by rw [hX1] at hX; simp at hX; omega
  have ih := s_l4 X b low hb hX r I L (preI ++ [x]) (preL ++ [if low = true ∧ l < 0 ∧ sb x b = 1 then (b : Int) else l]) (by rw [hX1]; simp) (by simp [hp]) (by simpa using hl) (fun y hy => hx y (List.mem_cons_of_mem _ hy)) (by
   simp only [nextOf, List.zipWith_cons_cons] at h
   rw [List.append_assoc, List.singleton_append]
   exact h)
  rw [step_len, List.append_assoc, List.singleton_append] at ih
  refine Ev.next ?_
  have c1 : (preI.length : Int) < (X.length : Int) := by rw [hX1, List.length_append, List.length_cons]; omega
  have e1 : rd X (preI.length : Int) = x := by rw [hX1]; exact rd_mid1 _ _ _
  have c2 : (preI.length : Int) < ((preL ++ l :: L).length : Int) := by rw [hp, List.length_append, List.length_cons]; omega
  have e2 : rd (preL ++ l :: L) (preI.length : Int) = l := rd_mid2 _ _ _ _ hp
  have e4 : (preL ++ l :: L).set ((preI.length : Int)).toNat (b : Int) = preL ++ (b : Int) :: L := by rw [hp]; exact set_mid _ _ _ _
  have c3 : (0 : Int) ≤ ((10 - b : Nat) : Int) := by omega
  simp only [spec_Arbitrate.l4, c1, c2, e1, e2, e4, nat_ge, if_true, sh_u b hb, sb_bit x b hxx.1 hxx.2, wrap_succ preI.length (by omega)]
  cases low with
  | false => simpa using ih
  | true =>
   by_cases hl0 : l < 0
   · have e3 : (((sb x b : Nat) : Int) = 1) = (sb x b = 1) := by
      apply propext
      omega
     simp only [hl0, if_true, true_and, e3] at ih ⊢
     by_cases hs : sb x b = 1
     · simp only [hs, if_true] at ih ⊢
       exact ih
     · simp only [hs, if_false] at ih ⊢
       exact ih
   · simp only [hl0, if_true, if_false, false_and, and_false] at ih ⊢
     exact ih
def wireOf (low : Bool) : Int := if low = true then 0 else 1
theorem wire_and (low : Bool) (s : Nat) (hs : s < 2) : Go.bits .and .i64 (wireOf low) ((s : Nat) : Int) = wireOf (low || decide (s = 0)) := by
 have h : ∀ (low : Bool) (s : Fin 2), Go.bits .and .i64 (wireOf low) ((s.val : Nat) : Int) = wireOf (low || decide (s.val = 0)) := by decide
 exact h low ⟨s, hs⟩
theorem i_l2 (X Y : List Int) (b : Nat) (hb : b ≤ 10) (hX : X.length ≤ 6) (r : Int × List Int × Bool) : ∀ (I L preI preL : List Int) (low : Bool), X = preI ++ I → Y = preL ++ L → preI.length = preL.length → I.length = L.length → (∀ x ∈ I, 0 ≤ x ∧ x ≤ 2047) →
 Ev (fun k => impl_Arbitrate.l3 k X Y (b : Int) (wireOf (low || lowOf b I L)) (b : Int) X (X.length : Int) 0) r → Ev (fun k => impl_Arbitrate.l2 k X Y (b : Int) (wireOf low) (b : Int) X (X.length : Int) (preI.length : Int)) r
 | [], L, preI, preL, low, hX1, hY1, hp, hl, _, h => by
  refine Ev.next ?_
  have e : X.length = preI.length := by rw [hX1]; simp
  have hL : L = [] := List.length_eq_zero_iff.mp hl.symm
  subst hL
  simp only [lowOf, Bool.or_false] at h
  rw [← e]
  simp only [impl_Arbitrate.l2, end_lt, if_false]
  exact h
 | x :: I, [], _, _, _, _, _, _, hl, _, _ => by simp at hl
 | x :: I, l :: L, preI, preL, low, hX1, hY1, hp, hl, hx, h => by
  have hxx := hx x List.mem_cons_self
  have hlen : preI.length < 6 := by rw [hX1] at hX; simp at hX; omega
  have ih := i_l2 X Y b hb hX r I L (preI ++ [x]) (preL ++ [l]) (low || (decide (l < 0) && decide (sb x b = 0))) (by rw [hX1]; simp) (by rw [hY1]; simp) (by simp [hp]) (by simpa using hl) (fun y hy => hx y (List.mem_cons_of_mem _ hy)) (by
   simp only [lowOf] at h
   rw [Bool.or_assoc]
   exact h)
  rw [step_len] at ih
  refine Ev.next ?_
  have c1 : (preI.length : Int) < (X.length : Int) := by rw [hX1, List.length_append, List.length_cons]; omega
  have e1 : rd X (preI.length : Int) = x := by rw [hX1]; exact rd_mid1 _ _ _
  have c2 : (preI.length : Int) < (Y.length : Int) := by rw [hY1, hp, List.length_append, List.length_cons]; omega
  have e2 : rd Y (preI.length : Int) = l := by rw [hY1]; exact rd_mid2 _ _ _ _ hp
  have c3 : (0 : Int) ≤ ((10 - b : Nat) : Int) := by omega
  simp only [impl_Arbitrate.l2, c1, c2, e1, e2, nat_ge, if_true, sh_i b hb, sb_bit x b hxx.1 hxx.2, wire_and low _ (sb_lt x b), wrap_succ preI.length (by omega)]
  by_cases hl0 : l < 0
  · simp only [hl0, if_true, decide_true, Bool.true_and] at ih ⊢
    exact ih
  · simp only [hl0, if_false, decide_false, Bool.false_and, Bool.or_false] at ih ⊢
    exact ih
theorem i_l3 (X : List Int) (b : Nat) (low : Bool) (hb : b ≤ 10) (hX : X.length ≤ 6) (r : Int × List Int × Bool) : ∀ (I L preI preL : List Int), X = preI ++ I → preI.length = preL.length → I.length = L.length → (∀ x ∈ I, 0 ≤ x ∧ x ≤ 2047) →
 Ev (fun k => impl_Arbitrate.l1 k X (preL ++ nextOf b low I L) ((b + 1 : Nat) : Int)) r → Ev (fun k => impl_Arbitrate.l3 k X (preL ++ L) (b : Int) (wireOf low) (b : Int) X (X.length : Int) (preI.length : Int)) r
 | [], L, preI, preL, hX1, hp, hl, _, h => by
  refine Ev.next ?_
  have e : X.length = preI.length := by rw [hX1]; simp
  have hL : L = [] := List.length_eq_zero_iff.mp hl.symm
  subst hL
  simp only [nextOf, List.zipWith_nil_left] at h
  rw [← e]
  simp only [impl_Arbitrate.l3, end_lt, if_false, wrap_succ b (by omega)]
  exact h
 | x :: I, [], _, _, _, _, hl, _, _ => by simp at hl
 | x :: I, l :: L, preI, preL, hX1, hp, hl, hx, h => by
  have hxx := hx x List.mem_cons_self
  have hlen : preI.length < 6 := by rw [hX1] at hX; simp at hX; omega
  have ih := i_l3 X b low hb hX r I L (preI ++ [x]) (preL ++ [if low = true ∧ l < 0 ∧ sb x b = 1 then (b : Int) else l]) (by rw [hX1]; simp) (by simp [hp]) (by simpa using hl) (fun y hy => hx y (List.mem_cons_of_mem _ hy)) (by
   simp only [nextOf, List.zipWith_cons_cons] at h
   rw [List.append_assoc, List.singleton_append]
   exact h)
  rw [step_len, List.append_assoc, List.singleton_append] at ih
  refine Ev.next ?_
  have c1 : (preI.length : Int) < (X.length : Int) := by rw [hX1, List.length_append, List.length_cons]; omega
  have e1 : rd X (preI.length : Int) = x := by rw [hX1]; exact rd_mid1 _ _ _
  have c2 : (preI.length : Int) < ((preL ++ l :: L).length : Int) := by rw [hp, List.length_append, List.length_cons]; omega
  have e2 : rd (preL ++ l :: L) (preI.length : Int) = l := rd_mid2 _ _ _ _ hp
  have e4 : (preL ++ l :: L).set ((preI.length : Int)).toNat (b : Int) = preL ++ (b : Int) :: L := by rw [hp]; exact set_mid _ _ _ _
  have c3 : (0 : Int) ≤ ((10 - b : Nat) : Int) := by omega
  have e3 : (((sb x b : Nat) : Int) > wireOf low) = (low = true ∧ sb x b = 1) := by
   have := sb_lt x b
   apply propext
   unfold wireOf
   cases low <;> simp <;> omega
  simp only [impl_Arbitrate.l3, c1, c2, e1, e2, e4, nat_ge, if_true, sh_i b hb, sb_bit x b hxx.1 hxx.2, e3, wrap_succ preI.length (by omega)]
  by_cases hl0 : l < 0
  · simp only [hl0, if_true, true_and] at ih ⊢
    by_cases hs : low = true ∧ sb x b = 1
    · simp only [if_pos hs] at ih ⊢
      exact ih
    · simp only [if_neg hs] at ih ⊢
      exact ih
  · simp only [hl0, if_false, false_and, and_false] at ih ⊢
    exact ih
theorem nextOf_length (b : Nat) (low : Bool) (I L : List Int) (h : I.length = L.length) : (nextOf b low I L).length = L.length := by simp [nextOf, h]
theorem nextOf_kind (b : Nat) (low : Bool) : ∀ (I L : List Int), (∀ l ∈ L, l = -1 ∨ 0 ≤ l) → ∀ l ∈ nextOf b low I L, l = -1 ∨ 0 ≤ l
 | [], L, _, l, hl => by simp [nextOf] at hl
 | x :: I, [], _, l, hl => by simp [nextOf] at hl
 | x :: I, y :: L, h, l, hl => by
  simp only [nextOf, List.zipWith_cons_cons, List.mem_cons] at hl
  rcases hl with rfl | hl
  · split
    · exact .inr (by omega)
    · exact h y List.mem_cons_self
  · exact nextOf_kind b low I L (fun z hz => h z (List.mem_cons_of_mem _ hz)) l hl
theorem nextOf_false (b : Nat) : ∀ (I L : List Int), I.length = L.length → nextOf b false I L = L
 | [], L, h => by
  have : L = [] := List.length_eq_zero_iff.mp h.symm
  subst this
  rfl
 | x :: I, [], h => by simp at h
 | x :: I, l :: L, h => by
  have := nextOf_false b I L (by simpa using h)
  simp only [nextOf, List.zipWith_cons_cons] at this ⊢
  rw [this]
  simp
theorem nextOf_some (b : Nat) (low : Bool) : ∀ (I L : List Int), (∀ l ∈ L, l = -1 ∨ 0 ≤ l) → lowOf b I L = true → (-1 : Int) ∈ nextOf b low I L
 | [], L, _, h => by simp [lowOf] at h
 | x :: I, [], _, h => by simp [lowOf] at h
 | x :: I, l :: L, hk, h => by
  simp only [lowOf, Bool.or_eq_true, Bool.and_eq_true, decide_eq_true_eq] at h
  simp only [nextOf, List.zipWith_cons_cons, List.mem_cons]
  rcases h with ⟨h1, h2⟩ | h
  · left
    rw [if_neg (by rintro ⟨_, _, h⟩; omega)]
    have := hk l List.mem_cons_self
    omega
  · right
    exact nextOf_some b low I L (fun z hz => hk z (List.mem_cons_of_mem _ hz)) h
theorem first_ev (Y : List Int) (hY : Y.length ≤ 6) : ∀ (L pre : List Int), Y = pre ++ L → (∀ l ∈ L, l = -1 ∨ 0 ≤ l) → (-1 : Int) ∈ L → ∃ i : Nat, i < Y.length ∧ Ev (fun k => spec_Arbitrate.l5 k Y (pre.length : Int)) ((i : Int), Y, true) ∧ Ev (fun k => slices_Index_int_int.l0 k Y (-1) (Y.length : Int) (pre.length : Int)) (i : Int)
 | [], _, _, _, h => by simp at h
 | l :: L, pre, hY1, hk, h => by
  have c1 : (pre.length : Int) < (Y.length : Int) := by rw [hY1, List.length_append, List.length_cons]; omega
  have e1 : rd Y (pre.length : Int) = l := by rw [hY1]; exact rd_mid1 _ _ _
  have hl := hk l List.mem_cons_self
  have hp6 : pre.length < 6 := by omega
  by_cases hl1 : l = -1
  · refine ⟨pre.length, by omega, Ev.next ⟨0, fun k _ => ?_⟩, Ev.next ⟨0, fun k _ => ?_⟩⟩
    · have c2 : ¬ (l ≥ 0) := by omega
      simp only [spec_Arbitrate.l5, c1, e1, nat_ge, if_true, c2, if_false]
    · simp only [slices_Index_int_int.l0, c1, e1, nat_ge, if_true, hl1]
  · obtain ⟨i, hi, h1, h2⟩ := first_ev Y hY L (pre ++ [l]) (by rw [hY1]; simp) (fun z hz => hk z (List.mem_cons_of_mem _ hz)) (by
     rcases List.mem_cons.mp h with h | h
     · exact absurd h.symm hl1
     · exact h)
    rw [step_len] at h1 h2
    have c2 : l ≥ 0 := by omega
    have c3 : ¬ (-1 = l) := fun e => hl1 e.symm
    refine ⟨i, hi, Ev.next ?_, Ev.next ?_⟩
    · simp only [spec_Arbitrate.l5, c1, e1, nat_ge, if_true, c2, wrap_succ pre.length (by omega)]
      exact h1
    · simp only [slices_Index_int_int.l0, c1, e1, nat_ge, if_true, c3, if_false, wrap_succ pre.length (by omega)]
      exact h2
theorem arb_loop (X : List Int) (hX : X.length ≤ 6) (hx : ∀ x ∈ X, 0 ≤ x ∧ x ≤ 2047) : ∀ (d b : Nat) (L : List Int), b + d = 11 → X.length = L.length → (∀ l ∈ L, l = -1 ∨ 0 ≤ l) → (-1 : Int) ∈ L →
 ∃ (i : Nat) (Y : List Int), i < X.length ∧ Ev (fun k => spec_Arbitrate.l2 k X L (b : Int)) ((i : Int), Y, true) ∧ Ev (fun k => impl_Arbitrate.l1 k X L (b : Int)) ((i : Int), Y, true)
 | 0, b, L, hd, hl, hk, hm => by
  obtain rfl : b = 11 := by omega
  obtain ⟨i, hi, h1, h2⟩ := first_ev L (by omega) L [] rfl hk hm
  refine ⟨i, L, by omega, Ev.next ?_, Ev.next ?_⟩
  · have c : ¬ (((11 : Nat) : Int) < 11) := by omega
    simp only [spec_Arbitrate.l2, c, if_false]
    exact h1
  · have c : ¬ (((11 : Nat) : Int) < 11) := by omega
    simp only [impl_Arbitrate.l1, c, if_false]
    exact Ev.bind h2 (Ev.now _)
 | d + 1, b, L, hd, hl, hk, hm => by
  have hb : b ≤ 10 := by omega
  have c : ((b : Nat) : Int) < 11 := by omega
  obtain ⟨i, Y, hi, h1, h2⟩ := arb_loop X hX hx d (b + 1) (nextOf b (lowOf b X L) X L) (by omega) (by rw [nextOf_length _ _ _ _ hl, hl]) (nextOf_kind _ _ _ _ hk) (by
   cases hlow : lowOf b X L with
   | true => exact nextOf_some b true X L hk hlow
   | false => rw [nextOf_false b X L hl]; exact hm)
  refine ⟨i, Y, hi, Ev.next ?_, Ev.next ?_⟩
  · simp only [spec_Arbitrate.l2, c, if_true]
    refine s_l3 X L b hb hX _ X L [] [] false rfl rfl rfl hl hx ?_
    rw [Bool.false_or]
    exact s_l4 X b _ hb hX _ X L [] [] rfl rfl hl hx h1
  · simp only [impl_Arbitrate.l1, c, if_true]
    refine i_l2 X L b hb hX _ X L [] [] false rfl rfl rfl hl hx ?_
    rw [Bool.false_or]
    exact i_l3 X b _ hb hX _ X L [] [] rfl rfl hl hx h2
theorem s_good (X : List Int) (hX : X.length ≤ 6) (r : Int × List Int × Bool) : ∀ (I pre : List Int), X = pre ++ I → (∀ x ∈ I, 0 ≤ x ∧ x ≤ 2047) → Ev (fun k => spec_Arbitrate.l1 k X (List.replicate X.length 0) (X.length : Int) 0) r → Ev (fun k => spec_Arbitrate.l0 k X X (X.length : Int) (pre.length : Int)) r
 | [], pre, hX1, _, h => by
  refine Ev.next ?_
  have e : X.length = pre.length := by rw [hX1]; simp
  have c : X.length ≤ 35184372088832 := by omega
  rw [← e]
  simp only [spec_Arbitrate.l0, end_lt, if_false, nat_ge, if_true, c, Option.bind_some, toNat_i, List.length_replicate]
  exact h
 | x :: I, pre, hX1, hx, h => by
  have hxx := hx x List.mem_cons_self
  have ih := s_good X hX r I (pre ++ [x]) (by rw [hX1]; simp) (fun y hy => hx y (List.mem_cons_of_mem _ hy)) h
  rw [step_len] at ih
  refine Ev.next ?_
  have c1 : (pre.length : Int) < (X.length : Int) := by rw [hX1, List.length_append, List.length_cons]; omega
  have e1 : rd X (pre.length : Int) = x := by rw [hX1]; exact rd_mid1 _ _ _
  have c2 : ¬ (x < 0) := by omega
  have c3 : ¬ (x > 2047) := by omega
  simp only [spec_Arbitrate.l0, c1, e1, nat_ge, if_true, c2, c3, if_false, wrap_succ pre.length (by omega)]
  exact ih
theorem s_ones (X : List Int) (hX : X.length ≤ 6) (r : Int × List Int × Bool) (n : Nat) (hn : n = X.length) : ∀ d i : Nat, i + d = n → Ev (fun k => spec_Arbitrate.l2 k X (List.replicate n (-1)) 0) r → Ev (fun k => spec_Arbitrate.l1 k X (List.replicate i (-1) ++ List.replicate d 0) (n : Int) (i : Int)) r
 | 0, i, hd, h => by
  obtain rfl : i = n := by omega
  refine Ev.next ?_
  simp only [spec_Arbitrate.l1, end_lt, if_false, List.replicate_zero, List.append_nil]
  exact h
 | d + 1, i, hd, h => by
  have ih := s_ones X hX r n hn d (i + 1) (by omega) h
  refine Ev.next ?_
  have c1 : (i : Int) < (n : Int) := by omega
  have c2 : (i : Int) < ((List.replicate i (-1 : Int) ++ List.replicate (d + 1) 0).length : Int) := by simp; omega
  have e1 : (List.replicate i (-1 : Int) ++ List.replicate (d + 1) 0).set ((i : Int)).toNat (-1) = List.replicate (i + 1) (-1) ++ List.replicate d 0 := by
   rw [toNat_i, List.set_append, if_neg (by simp), List.length_replicate, Nat.sub_self, List.replicate_succ, List.set_cons_zero, List.replicate_succ', List.append_assoc]
   rfl
  simp only [spec_Arbitrate.l1, c1, c2, e1, nat_ge, if_true, wrap_succ i (by omega)]
  exact ih
theorem i_ones (X : List Int) (hX : X.length ≤ 6) (r : Int × List Int × Bool) : ∀ (I pre : List Int), X = pre ++ I → (∀ x ∈ I, 0 ≤ x ∧ x ≤ 2047) → Ev (fun k => impl_Arbitrate.l1 k X (List.replicate X.length (-1)) 0) r → Ev (fun k => impl_Arbitrate.l0 k X (List.replicate pre.length (-1) ++ List.replicate I.length 0) X (X.length : Int) (pre.length : Int)) r
 | [], pre, hX1, _, h => by
  refine Ev.next ?_
  have e : X.length = pre.length := by rw [hX1]; simp
  rw [← e]
  simp only [impl_Arbitrate.l0, end_lt, if_false, List.length_nil, List.replicate_zero, List.append_nil]
  exact h
 | x :: I, pre, hX1, hx, h => by
  have hxx := hx x List.mem_cons_self
  have ih := i_ones X hX r I (pre ++ [x]) (by rw [hX1]; simp) (fun y hy => hx y (List.mem_cons_of_mem _ hy)) h
  rw [step_len] at ih
  refine Ev.next ?_
  have c1 : (pre.length : Int) < (X.length : Int) := by rw [hX1, List.length_append, List.length_cons]; omega
  have e1 : rd X (pre.length : Int) = x := by rw [hX1]; exact rd_mid1 _ _ _
  have c2 : x ≥ 0 := hxx.1
  have c3 : decide (x ≤ 2047) = true := decide_eq_true hxx.2
  have c4 : (pre.length : Int) < ((List.replicate pre.length (-1 : Int) ++ List.replicate (x :: I).length 0).length : Int) := by simp; omega
  have e2 : (List.replicate pre.length (-1 : Int) ++ List.replicate (x :: I).length 0).set ((pre.length : Int)).toNat (-1) = List.replicate (pre ++ [x]).length (-1) ++ List.replicate I.length 0 := by
   rw [toNat_i, List.set_append, if_neg (by simp), List.length_replicate, Nat.sub_self, List.length_cons, List.replicate_succ, List.set_cons_zero, List.length_append, List.length_singleton, List.replicate_succ', List.append_assoc]
   rfl
  simp only [impl_Arbitrate.l0, c1, e1, nat_ge, if_true, impl_between.f, c2, c3, Option.bind_some, c4, e2, wrap_succ pre.length (by omega)]
  exact ih
theorem arb_ev (X : List Int) (h1 : 1 ≤ X.length) (h6 : X.length ≤ 6) (hx : ∀ x ∈ X, 0 ≤ x ∧ x ≤ 2047) : ∃ (i : Nat) (Y : List Int), i < X.length ∧ Ev (fun k => spec_Arbitrate.f k X) ((i : Int), Y, true) ∧ Ev (fun k => impl_Arbitrate.f k X) ((i : Int), Y, true) := by
 obtain ⟨i, Y, hi, hs, hm⟩ := arb_loop X h6 hx 11 0 (List.replicate X.length (-1)) rfl (by simp) (fun l hl => .inl (List.eq_of_mem_replicate hl)) (List.mem_replicate.mpr ⟨by omega, rfl⟩)
 have c1 : ¬ ((X.length : Int) < 1) := by omega
 have c2 : decide ((X.length : Int) > 6) = false := decide_eq_false (by omega)
 have c3 : X.length ≤ 35184372088832 := by omega
 refine ⟨i, Y, hi, ?_, ?_⟩
 · simp only [spec_Arbitrate.f, c1, if_false, c2]
   refine Ev.next ?_
   simp only [spec_Arbitrate.j0, Bool.false_eq_true, if_false]
   exact s_good X h6 _ X [] rfl hx (s_ones X h6 _ X.length rfl X.length 0 (by omega) hs)
 · simp only [impl_Arbitrate.f, c1, if_false, c2]
   refine Ev.next ?_
   simp only [impl_Arbitrate.j0, Bool.false_eq_true, if_false, nat_ge, if_true, c3, toNat_i]
   exact i_ones X h6 _ X [] rfl hx hm
theorem arb_nil : Ev (fun k => impl_Arbitrate.f k []) ((0 : Int), [], false) := by
 refine Ev.next ⟨0, fun k _ => ?_⟩
 have c1 : (((([] : List Int)).length : Int) < 1) := by decide
 simp only [impl_Arbitrate.f, c1, if_true, impl_Arbitrate.j0]
/-! ### The bus, round by round: the program's and the reference's side by side -/
def gF (x : S49) : Bool := decide (0 ≤ x.f0) && (decide (x.f0 ≤ 2047) && decide ((x.f1.length : Int) ≤ 8))
def gT (x : S44) : Bool := decide ((x.f0.length : Int) ≤ 8) && (decide (1 ≤ x.f1) && (decide (x.f1 ≤ 10) && (decide (0 ≤ x.f2) && (decide (x.f2 ≤ 255) && (x.f3 == (x.f2 == 255))))))
theorem s_frame (x : S49) : spec_GoodFrame.f x.f0 x.f1 = some (gF x) := by
 unfold spec_GoodFrame.f gF
 by_cases h1 : x.f0 ≥ 0
 · by_cases h2 : x.f0 ≤ 2047
   · simp [h1, h2, (show (0 : Int) ≤ x.f0 from h1)]
   · simp [h1, h2, (show (0 : Int) ≤ x.f0 from h1)]
 · have : ¬ (0 : Int) ≤ x.f0 := h1
   simp [this]
theorem i_frame (x : S49) : impl_GoodFrame.f x.f0 x.f1 = some (gF x) := by
 unfold impl_GoodFrame.f impl_between.f gF
 by_cases h1 : x.f0 ≥ 0
 · by_cases h2 : x.f0 ≤ 2047
   · simp [h1, h2, (show (0 : Int) ≤ x.f0 from h1)]
   · simp [h1, h2, (show (0 : Int) ≤ x.f0 from h1)]
 · have : ¬ (0 : Int) ≤ x.f0 := h1
   simp [this]
theorem s_frames (l : List S49) (hl : l.length ≤ 1000000000000000) : ∀ (L pre : List S49), l = pre ++ L → Ev (fun k => spec_l23Talker.l0 k l (l.length : Int) (pre.length : Int)) (L.all gF)
 | [], pre, h => by
  have e : l.length = pre.length := by rw [h]; simp
  refine Ev.next ⟨0, fun k _ => ?_⟩
  rw [← e]
  simp only [spec_l23Talker.l0, end_lt, if_false, List.all_nil]
 | x :: L, pre, h => by
  have ih := s_frames l hl L (pre ++ [x]) (by rw [h]; simp)
  rw [step_len] at ih
  have c1 : (pre.length : Int) < (l.length : Int) := by rw [h, List.length_append, List.length_cons]; omega
  have e1 : rd_T49 l (pre.length : Int) = x := by rw [h]; exact at_mid _ _ _ _
  refine Ev.next ?_
  simp only [spec_l23Talker.l0, c1, nat_ge, if_true, e1, s_frame, Option.bind_some, List.all_cons, wrap_succ pre.length (by omega)]
  cases gF x with
  | true => simpa using ih
  | false => exact ⟨0, fun k _ => by simp⟩
theorem s_talker (x : S44) (hl : x.f0.length ≤ 1000000000000000) : Ev (fun k => spec_l23Talker.f k x.f0 x.f1 x.f2 x.f3) (gT x && x.f0.all gF) := by
 have hf := s_frames x.f0 hl x.f0 [] rfl
 unfold spec_l23Talker.f gT
 have bad : Ev (fun k => spec_l23Talker.j0 k true x.f0 x.f1 x.f2 x.f3) false := Ev.next ⟨0, fun k _ => by simp only [spec_l23Talker.j0, if_true]⟩
 by_cases h1 : (x.f0.length : Int) > 8
 · have : ¬ (x.f0.length : Int) ≤ 8 := by omega
   simp only [h1, if_true, this, decide_false, Bool.false_and]
   exact bad
 · have d1 : (x.f0.length : Int) ≤ 8 := by omega
   by_cases h2 : x.f1 < 1
   · have : ¬ 1 ≤ x.f1 := by omega
     simp only [h1, h2, if_true, if_false, this, decide_false, Bool.false_and, Bool.and_false]
     exact bad
   · have d2 : 1 ≤ x.f1 := by omega
     by_cases h3 : x.f1 > 10
     · have : ¬ x.f1 ≤ 10 := by omega
       simp only [h1, h2, h3, if_true, if_false, this, decide_false, Bool.false_and, Bool.and_false]
       exact bad
     · have d3 : x.f1 ≤ 10 := by omega
       by_cases h4 : x.f2 < 0
       · have : ¬ 0 ≤ x.f2 := by omega
         simp only [h1, h2, h3, h4, if_true, if_false, this, decide_false, Bool.false_and, Bool.and_false]
         exact bad
       · have d4 : 0 ≤ x.f2 := by omega
         by_cases h5 : x.f2 > 255
         · have : ¬ x.f2 ≤ 255 := by omega
           simp only [h1, h2, h3, h4, h5, if_true, if_false, this, decide_false, Bool.false_and, Bool.and_false]
           exact bad
         · have d5 : x.f2 ≤ 255 := by omega
           simp only [h1, h2, h3, h4, h5, if_false, d1, d2, d3, d4, d5, decide_true, Bool.true_and]
           refine Ev.next ?_
           simp only [spec_l23Talker.j0]
           cases hc : (x.f3 == (x.f2 == 255)) with
           | true =>
            have : (x.f3 != (x.f2 == 255)) = false := by rw [bne, hc]; rfl
            simp only [this, Bool.false_eq_true, if_false, Bool.true_and]
            exact hf
           | false =>
            have : (x.f3 != (x.f2 == 255)) = true := by rw [bne, hc]; rfl
            simp only [this, if_true, Bool.false_and]
            exact ⟨0, fun k _ => rfl⟩
theorem i_frames (l : List S49) (a b : Int) (c : Bool) (hl : l.length ≤ 1000000000000000) : ∀ (L pre : List S49), l = pre ++ L → Ev (fun k => impl_goodTalker.l0 k l (l.length : Int) (pre.length : Int) l a b c) (gT ⟨l, a, b, c⟩ && L.all gF)
 | [], pre, h => by
  have e : l.length = pre.length := by rw [h]; simp
  refine Ev.next ⟨0, fun k _ => ?_⟩
  have e2 : (pre.length : Int) = (l.length : Int) := by omega
  rw [e2]
  simp only [impl_goodTalker.l0, end_lt, if_false, List.all_nil, Bool.and_true, gT, impl_between.f, ge_iff_le]
  by_cases h1 : (l.length : Int) ≤ 8 <;> by_cases h2 : 1 ≤ a <;> by_cases h3 : a ≤ 10 <;> by_cases h4 : 0 ≤ b <;> by_cases h5 : b ≤ 255 <;> simp [h1, h2, h3, h4, h5]
 | x :: L, pre, h => by
  have ih := i_frames l a b c hl L (pre ++ [x]) (by rw [h]; simp)
  rw [step_len] at ih
  have c1 : (pre.length : Int) < (l.length : Int) := by rw [h, List.length_append, List.length_cons]; omega
  have e1 : rd_T49 l (pre.length : Int) = x := by rw [h]; exact at_mid _ _ _ _
  refine Ev.next ?_
  simp only [impl_goodTalker.l0, c1, nat_ge, if_true, e1, i_frame, Option.bind_some, List.all_cons, wrap_succ pre.length (by omega)]
  cases gF x with
  | true => simpa using ih
  | false => exact ⟨0, fun k _ => by simp⟩
theorem i_talker (x : S44) (hl : x.f0.length ≤ 1000000000000000) : Ev (fun k => impl_goodTalker.f k x.f0 x.f1 x.f2 x.f3) (gT x && x.f0.all gF) := i_frames x.f0 x.f1 x.f2 x.f3 hl x.f0 [] rfl
theorem s_copies (l : List S49) (hl : l.length ≤ 1000000000) (hx : ∀ x ∈ l, x.f1.length ≤ 1000000000) : ∀ (L pre : List S49), l = pre ++ L → Ev (fun k => spec_l23Frames.l0 k pre l (l.length : Int) (pre.length : Int)) l
 | [], pre, h => by
  have e : l.length = pre.length := by rw [h]; simp
  refine Ev.next ⟨0, fun k _ => ?_⟩
  rw [← e]
  simp only [spec_l23Frames.l0, end_lt, if_false]
  rw [h]
  simp
 | x :: L, pre, h => by
  have ih := s_copies l hl hx L (pre ++ [x]) (by rw [h]; simp)
  rw [step_len] at ih
  have c1 : (pre.length : Int) < (l.length : Int) := by rw [h, List.length_append, List.length_cons]; omega
  have e1 : rd_T49 l (pre.length : Int) = x := by rw [h]; exact at_mid _ _ _ _
  have hxx := hx x (by rw [h]; simp)
  have c2 : ([] : List Int).length + x.f1.length < 140737488355328 := by simp only [List.length_nil]; omega
  have c3 : pre.length < 4398046511104 := by omega
  refine Ev.next ?_
  simp only [spec_l23Frames.l0, c1, nat_ge, if_true, e1, Option.bind_some, c2, c3, List.nil_append, wrap_succ pre.length (by omega)]
  exact ih
theorem s_copy (l : List S49) (hl : l.length ≤ 1000000000) (hx : ∀ x ∈ l, x.f1.length ≤ 1000000000) : Ev (fun k => spec_l23Frames.f k l) l := s_copies l hl hx l [] rfl
theorem i_copies (p : List S44) (a1 a2 : Int) (l3 : List Int) (now : List S44) (i : Int) (l : List S49) (b c : Int) (d : Bool) (hl : l.length ≤ 1000000000) (hx : ∀ x ∈ l, x.f1.length ≤ 1000000000) (hn : now.length ≤ 1000) (r : (List (S53)) × (List (S44)) × Bool)
 (h : Ev (fun k => impl_RunBus.l0 k p a1 a2 l3 (now ++ [⟨l, b, c, d⟩]) p (p.length : Int) (wrap64 (i + 1))) r) : ∀ (L pre : List S49), l = pre ++ L → Ev (fun k => impl_RunBus.l1 k p a1 a2 l3 now pre p (p.length : Int) i l (l.length : Int) (pre.length : Int) l b c d) r
 | [], pre, e0 => by
  have e : l.length = pre.length := by rw [e0]; simp
  have e1 : pre = l := by rw [e0]; simp
  subst e1
  refine Ev.next ?_
  have c1 : now.length < 2932031007402 := by omega
  simp only [impl_RunBus.l1, end_lt, if_false, c1, if_true]
  exact h
 | x :: L, pre, e0 => by
  have ih := i_copies p a1 a2 l3 now i l b c d hl hx hn r h L (pre ++ [x]) (by rw [e0]; simp)
  rw [step_len] at ih
  have c1 : (pre.length : Int) < (l.length : Int) := by rw [e0, List.length_append, List.length_cons]; omega
  have e1 : rd_T49 l (pre.length : Int) = x := by rw [e0]; exact at_mid _ _ _ _
  have hxx := hx x (by rw [e0]; simp)
  have c2 : ([] : List Int).length + x.f1.length < 140737488355328 := by simp only [List.length_nil]; omega
  have c3 : pre.length < 4398046511104 := by omega
  refine Ev.next ?_
  simp only [impl_RunBus.l1, c1, nat_ge, if_true, e1, slices_Clone_byte_byte.f, Option.bind_some, c2, c3, List.nil_append, wrap_succ pre.length (by omega)]
  exact ih
def okT (x : S44) : Bool := gT x && x.f0.all gF
theorem okT_small (x : S44) (h : okT x = true) : (x.f0.length ≤ 8 ∧ 1 ≤ x.f1 ∧ x.f1 ≤ 10 ∧ 0 ≤ x.f2 ∧ x.f2 ≤ 255) ∧ ∀ y ∈ x.f0, (0 ≤ y.f0 ∧ y.f0 ≤ 2047) ∧ y.f1.length ≤ 8 := by
 simp only [okT, gT, gF, Bool.and_eq_true, decide_eq_true_eq, List.all_eq_true] at h
 obtain ⟨⟨h1, h2, h3, h4, h5, _⟩, hf⟩ := h
 exact ⟨⟨by omega, h2, h3, h4, h5⟩, fun y hy => ⟨⟨(hf y hy).1, (hf y hy).2.1⟩, by have := (hf y hy).2.2; omega⟩⟩
theorem s_start (p : List S44) (a1 a2 : Int) (l3 : List Int) (hp : p.length ≤ 6) (hx : ∀ x ∈ p, x.f0.length ≤ 1000000000) : ∀ (L pre : List S44), p = pre ++ L →
 (L.all okT = true → ∀ r, Ev (fun k => spec_RunBus.l1 k p a1 a2 l3 p [] (List.replicate p.length 0) 0) r → Ev (fun k => spec_RunBus.l0 k p a1 a2 l3 pre p (p.length : Int) (pre.length : Int)) r) ∧
 (L.all okT = false → Ev (fun k => spec_RunBus.l0 k p a1 a2 l3 pre p (p.length : Int) (pre.length : Int)) ([], [], false))
 | [], pre, h => by
  have e : p.length = pre.length := by rw [h]; simp
  have e1 : pre = p := by rw [h]; simp
  subst e1
  refine ⟨fun _ r hr => Ev.next ?_, fun h => by simp at h⟩
  have c1 : pre.length ≤ 35184372088832 := by omega
  simp only [spec_RunBus.l0, end_lt, if_false, nat_ge, if_true, toNat_i, c1]
  exact hr
 | x :: L, pre, h => by
  obtain ⟨ih1, ih2⟩ := s_start p a1 a2 l3 hp hx L (pre ++ [x]) (by rw [h]; simp)
  rw [step_len] at ih1 ih2
  have c1 : (pre.length : Int) < (p.length : Int) := by rw [h, List.length_append, List.length_cons]; omega
  have e1 : rd_T44 p (pre.length : Int) = x := by rw [h]; exact at_mid _ _ _ _
  have hxx := hx x (by rw [h]; simp)
  obtain ⟨K, ht⟩ := s_talker x (by omega)
  cases ho : okT x with
  | true =>
   have hs := okT_small x ho
   obtain ⟨K2, hc⟩ := s_copy x.f0 (by omega) (fun y hy => by have := (hs.2 y hy).2; omega)
   have c3 : pre.length < 2932031007402 := by omega
   have go : ∀ r, Ev (fun k => spec_RunBus.l0 k p a1 a2 l3 (pre ++ [x]) p (p.length : Int) ((pre.length + 1 : Nat) : Int)) r → Ev (fun k => spec_RunBus.l0 k p a1 a2 l3 pre p (p.length : Int) (pre.length : Int)) r := fun r hr => Ev.back 1 (K + K2) (fun k hk => by
    have ht' := ht k (by omega)
    have hc' := hc k (by omega)
    rw [show (gT x && x.f0.all gF) = true from ho] at ht'
    simp only at ht' hc'
    simp only [spec_RunBus.l0, c1, nat_ge, if_true, e1, ht', hc', Option.bind_some, c3, wrap_succ pre.length (by omega)]) hr
   refine ⟨fun ha r hr => go r (ih1 (by simpa [ho] using ha) r hr), fun ha => go _ (ih2 (by simpa [ho] using ha))⟩
  | false =>
   refine ⟨fun ha => by simp [ho] at ha, fun _ => Ev.next ⟨K, fun k hk => ?_⟩⟩
   have ht' := ht k hk
   rw [show (gT x && x.f0.all gF) = false from ho] at ht'
   simp only at ht'
   simp only [spec_RunBus.l0, c1, nat_ge, if_true, e1, ht', Option.bind_some, Bool.false_eq_true, if_false]
theorem i_start (p : List S44) (a1 a2 : Int) (l3 : List Int) (hp : p.length ≤ 6) (hx : ∀ x ∈ p, x.f0.length ≤ 1000000000) : ∀ (L pre : List S44), p = pre ++ L →
 (L.all okT = true → ∀ r, Ev (fun k => impl_RunBus.l2 k a2 l3 p [] (List.replicate p.length 0) a1 0) r → Ev (fun k => impl_RunBus.l0 k p a1 a2 l3 pre p (p.length : Int) (pre.length : Int)) r) ∧
 (L.all okT = false → Ev (fun k => impl_RunBus.l0 k p a1 a2 l3 pre p (p.length : Int) (pre.length : Int)) ([], [], false))
 | [], pre, h => by
  have e : p.length = pre.length := by rw [h]; simp
  have e1 : pre = p := by rw [h]; simp
  subst e1
  refine ⟨fun _ r hr => Ev.next ?_, fun h => by simp at h⟩
  have c1 : pre.length ≤ 35184372088832 := by omega
  simp only [impl_RunBus.l0, end_lt, if_false, nat_ge, if_true, toNat_i, c1]
  exact hr
 | x :: L, pre, h => by
  obtain ⟨ih1, ih2⟩ := i_start p a1 a2 l3 hp hx L (pre ++ [x]) (by rw [h]; simp)
  rw [step_len] at ih1 ih2
  have c1 : (pre.length : Int) < (p.length : Int) := by rw [h, List.length_append, List.length_cons]; omega
  have e1 : rd_T44 p (pre.length : Int) = x := by rw [h]; exact at_mid _ _ _ _
  have hxx := hx x (by rw [h]; simp)
  obtain ⟨K, ht⟩ := i_talker x (by omega)
  cases ho : okT x with
  | true =>
   have hs := okT_small x ho
   have go : ∀ r, Ev (fun k => impl_RunBus.l0 k p a1 a2 l3 (pre ++ [x]) p (p.length : Int) ((pre.length + 1 : Nat) : Int)) r → Ev (fun k => impl_RunBus.l0 k p a1 a2 l3 pre p (p.length : Int) (pre.length : Int)) r := fun r hr => by
    have hc := i_copies p a1 a2 l3 pre (pre.length : Int) x.f0 x.f1 x.f2 x.f3 (by omega) (fun y hy => by have := (hs.2 y hy).2; omega) (by omega) r (by rw [wrap_succ pre.length (by omega)]; exact hr) x.f0 [] rfl
    refine Ev.back 1 K (fun k hk => ?_) hc
    have ht' := ht k (by omega)
    rw [show (gT x && x.f0.all gF) = true from ho] at ht'
    simp only at ht'
    simp only [impl_RunBus.l0, c1, nat_ge, if_true, e1, ht', Option.bind_some]
    rfl
   refine ⟨fun ha r hr => go r (ih1 (by simpa [ho] using ha) r hr), fun ha => go _ (ih2 (by simpa [ho] using ha))⟩
  | false =>
   refine ⟨fun ha => by simp [ho] at ha, fun _ => Ev.next ⟨K, fun k hk => ?_⟩⟩
   have ht' := ht k hk
   rw [show (gT x && x.f0.all gF) = false from ho] at ht'
   simp only at ht'
   simp only [impl_RunBus.l0, c1, nat_ge, if_true, e1, ht', Option.bind_some, Bool.false_eq_true, if_false]
/-! who may send -/
def sel : List S44 → List Int → Nat → List (Int × Int)
 | t :: T, u :: U, i => if t.f3 = false ∧ 0 < t.f0.length ∧ u < t.f1 then ((i : Int), (rd_T49 t.f0 0).f0) :: sel T U (i + 1) else sel T U (i + 1)
 | _, _, _ => []
theorem sel_length : ∀ (T : List S44) (U : List Int) (i : Nat), (sel T U i).length ≤ T.length
 | [], _, _ => by simp [sel]
 | t :: T, [], _ => by simp [sel]
 | t :: T, u :: U, i => by
  have := sel_length T U (i + 1)
  simp only [sel]
  split <;> simp only [List.length_cons] <;> omega
theorem sel_mem : ∀ (T : List S44) (U : List Int) (i : Nat) (q : Int × Int), q ∈ sel T U i → ∃ (a : Nat) (ha : a < T.length) (hb : a < U.length), q.1 = ((i + a : Nat) : Int) ∧ T[a].f3 = false ∧ 0 < T[a].f0.length ∧ U[a] < T[a].f1 ∧ q.2 = (rd_T49 T[a].f0 0).f0
 | [], _, _, q, h => by simp [sel] at h
 | t :: T, [], _, q, h => by simp [sel] at h
 | t :: T, u :: U, i, q, h => by
  have next : q ∈ sel T U (i + 1) → ∃ (a : Nat) (ha : a < (t :: T).length) (hb : a < (u :: U).length), q.1 = ((i + a : Nat) : Int) ∧ (t :: T)[a].f3 = false ∧ 0 < (t :: T)[a].f0.length ∧ (u :: U)[a] < (t :: T)[a].f1 ∧ q.2 = (rd_T49 (t :: T)[a].f0 0).f0 := fun hq => by
   obtain ⟨a, ha, hb, h1, h2⟩ := sel_mem T U (i + 1) q hq
   exact ⟨a + 1, by simpa using ha, by simpa using hb, by rw [h1]; omega, h2⟩
  simp only [sel] at h
  split at h
  · rename_i hc
    rcases List.mem_cons.mp h with rfl | h
    · exact ⟨0, by simp, by simp, rfl, hc.1, hc.2.1, hc.2.2, rfl⟩
    · exact next h
  · exact next h
theorem s_sel (p : List S44) (a1 a2 : Int) (l3 : List Int) (now : List S44) (out : List S53) (used : List Int) (R : Int) (hn : now.length ≤ 6) (r : (List (S53)) × (List (S44)) × Bool) :
 ∀ (T preT : List S44) (U preU who ids : List Int), now = preT ++ T → used = preU ++ U → preT.length = preU.length → T.length = U.length → who.length ≤ preT.length → ids.length ≤ preT.length →
 Ev (fun k => spec_RunBus.l2 k p a1 a2 l3 now out used R (who ++ (sel T U preT.length).map (·.1)) (ids ++ (sel T U preT.length).map (·.2)) now (now.length : Int) (now.length : Int)) r →
 Ev (fun k => spec_RunBus.l2 k p a1 a2 l3 now out used R who ids now (now.length : Int) (preT.length : Int)) r
 | [], preT, U, preU, who, ids, e1, e2, hp, hl, hw, hi, h => by
  have e : (preT.length : Int) = (now.length : Int) := by rw [e1]; simp
  rw [e]
  simpa [sel] using h
 | t :: T, preT, [], preU, who, ids, e1, e2, hp, hl, hw, hi, h => by simp at hl
 | t :: T, preT, u :: U, preU, who, ids, e1, e2, hp, hl, hw, hi, h => by
  have hlen : preT.length < 6 := by rw [e1] at hn; simp at hn; omega
  have ih := fun w i => s_sel p a1 a2 l3 now out used R hn r T (preT ++ [t]) U (preU ++ [u]) w i (by rw [e1]; simp) (by rw [e2]; simp) (by simp [hp]) (by simpa using hl)
  rw [step_len] at ih
  simp only [List.length_append, List.length_singleton] at ih
  have c1 : (preT.length : Int) < (now.length : Int) := by rw [e1, List.length_append, List.length_cons]; omega
  have c2 : (preT.length : Int) < (used.length : Int) := by rw [e2, hp, List.length_append, List.length_cons]; omega
  have t1 : rd_T44 now (preT.length : Int) = t := by rw [e1]; exact at_mid _ _ _ _
  have t2 : rd used (preT.length : Int) = u := by rw [e2, hp]; exact rd_mid1 _ _ _
  have w1 : who.length < 17592186044416 := by omega
  have w2 : ids.length < 17592186044416 := by omega
  refine Ev.next ?_
  simp only [spec_RunBus.l2, c1, nat_ge, if_true, t1, c2, t2, w1, w2, wrap_succ preT.length (by omega)]
  simp only [sel] at h
  by_cases q1 : t.f3 = true
  · have n1 : ¬ (t.f3 = false ∧ 0 < t.f0.length ∧ u < t.f1) := by rw [q1]; simp
    rw [if_neg n1] at h
    simp only [q1, if_true]
    exact ih who ids (by omega) (by omega) h
  · have q1' : t.f3 = false := by simpa using q1
    by_cases q2 : (t.f0.length : Int) > 0
    · have q2' : (0 : Int) < (t.f0.length : Int) := q2
      by_cases q3 : u < t.f1
      · rw [if_pos ⟨q1', by omega, q3⟩] at h
        simp only [q1, Bool.false_eq_true, if_false, q2, q2', q3, if_true]
        refine ih _ _ (by simp; omega) (by simp; omega) ?_
        simpa using h
      · rw [if_neg (fun q => q3 q.2.2)] at h
        simp only [q1, Bool.false_eq_true, if_false, q2, q3, if_true]
        exact ih who ids (by omega) (by omega) h
    · rw [if_neg (fun q => q2 (by have := q.2.1; omega))] at h
      simp only [q1, Bool.false_eq_true, if_false, q2]
      exact ih who ids (by omega) (by omega) h
theorem i_sel (a2 : Int) (l3 : List Int) (now : List S44) (out : List S53) (used : List Int) (R a1 R2 : Int) (hn : now.length ≤ 6) (r : (List (S53)) × (List (S44)) × Bool) :
 ∀ (T preT : List S44) (U preU who ids : List Int), now = preT ++ T → used = preU ++ U → preT.length = preU.length → T.length = U.length → who.length ≤ preT.length → ids.length ≤ preT.length →
 Ev (fun k => impl_RunBus.l3 k a2 l3 now out used R (who ++ (sel T U preT.length).map (·.1)) (ids ++ (sel T U preT.length).map (·.2)) a1 R2 now (now.length : Int) (now.length : Int)) r →
 Ev (fun k => impl_RunBus.l3 k a2 l3 now out used R who ids a1 R2 now (now.length : Int) (preT.length : Int)) r
 | [], preT, U, preU, who, ids, e1, e2, hp, hl, hw, hi, h => by
  have e : (preT.length : Int) = (now.length : Int) := by rw [e1]; simp
  rw [e]
  simpa [sel] using h
 | t :: T, preT, [], preU, who, ids, e1, e2, hp, hl, hw, hi, h => by simp at hl
 | t :: T, preT, u :: U, preU, who, ids, e1, e2, hp, hl, hw, hi, h => by
  have hlen : preT.length < 6 := by rw [e1] at hn; simp at hn; omega
  have ih := fun w i => i_sel a2 l3 now out used R a1 R2 hn r T (preT ++ [t]) U (preU ++ [u]) w i (by rw [e1]; simp) (by rw [e2]; simp) (by simp [hp]) (by simpa using hl)
  rw [step_len] at ih
  simp only [List.length_append, List.length_singleton] at ih
  have c1 : (preT.length : Int) < (now.length : Int) := by rw [e1, List.length_append, List.length_cons]; omega
  have c2 : (preT.length : Int) < (used.length : Int) := by rw [e2, hp, List.length_append, List.length_cons]; omega
  have t1 : rd_T44 now (preT.length : Int) = t := by rw [e1]; exact at_mid _ _ _ _
  have t2 : rd used (preT.length : Int) = u := by rw [e2, hp]; exact rd_mid1 _ _ _
  have w1 : who.length < 17592186044416 := by omega
  have w2 : ids.length < 17592186044416 := by omega
  refine Ev.next ?_
  simp only [impl_RunBus.l3, c1, nat_ge, if_true, t1, c2, t2, w1, w2, wrap_succ preT.length (by omega)]
  simp only [sel] at h
  by_cases q1 : t.f3 = true
  · have n1 : ¬ (t.f3 = false ∧ 0 < t.f0.length ∧ u < t.f1) := by rw [q1]; simp
    rw [if_neg n1] at h
    simp only [q1, if_true]
    exact ih who ids (by omega) (by omega) h
  · have q1' : t.f3 = false := by simpa using q1
    by_cases q2 : (t.f0.length : Int) > 0
    · have q2' : (0 : Int) < (t.f0.length : Int) := q2
      by_cases q3 : u < t.f1
      · rw [if_pos ⟨q1', by omega, q3⟩] at h
        simp only [q1, Bool.false_eq_true, if_false, q2, q2', q3, if_true]
        refine ih _ _ (by simp; omega) (by simp; omega) ?_
        simpa using h
      · rw [if_neg (fun q => q3 q.2.2)] at h
        simp only [q1, Bool.false_eq_true, if_false, q2, q3, if_true]
        exact ih who ids (by omega) (by omega) h
    · rw [if_neg (fun q => q2 (by have := q.2.1; omega))] at h
      simp only [q1, Bool.false_eq_true, if_false, q2]
      exact ih who ids (by omega) (by omega) h
/-! spoilt rounds -/
theorem s_spoilt (p : List S44) (a1 a2 : Int) (now : List S44) (out : List S53) (used : List Int) (R w c0 c1 c2 : Int) (l : List Int) (hl : l.length ≤ 1000000000000000) (r : (List (S53)) × (List (S44)) × Bool) : ∀ (L pre : List Int) (g : Bool), l = pre ++ L →
 Ev (fun k => spec_RunBus.l3 k p a1 a2 l now out used R w l (l.length : Int) (l.length : Int) c0 c1 c2 (g && L.all (fun x => decide (x ≠ R)))) r →
 Ev (fun k => spec_RunBus.l3 k p a1 a2 l now out used R w l (l.length : Int) (pre.length : Int) c0 c1 c2 g) r
 | [], pre, g, e1, h => by
  have e : (pre.length : Int) = (l.length : Int) := by rw [e1]; simp
  rw [e]
  simpa using h
 | x :: L, pre, g, e1, h => by
  have ih := fun g => s_spoilt p a1 a2 now out used R w c0 c1 c2 l hl r L (pre ++ [x]) g (by rw [e1]; simp)
  rw [step_len] at ih
  have d1 : (pre.length : Int) < (l.length : Int) := by rw [e1, List.length_append, List.length_cons]; omega
  have t1 : rd l (pre.length : Int) = x := by rw [e1]; exact rd_mid1 _ _ _
  simp only [List.all_cons] at h
  refine Ev.next ?_
  simp only [spec_RunBus.l3, d1, nat_ge, if_true, t1, wrap_succ pre.length (by omega)]
  by_cases q : x = R
  · simp only [q, if_true]
    refine ih false ?_
    simpa [q] using h
  · simp only [q, if_false]
    refine ih g ?_
    simpa [q] using h
theorem i_index (l : List Int) (R : Int) (hl : l.length ≤ 1000000000000000) : ∀ (L pre : List Int), l = pre ++ L → ∃ t : Int, Ev (fun k => slices_Index_int_int.l0 k l R (l.length : Int) (pre.length : Int)) t ∧ decide (t ≥ 0) = !(L.all (fun x => decide (x ≠ R)))
 | [], pre, e1 => by
  have e : (pre.length : Int) = (l.length : Int) := by rw [e1]; simp
  refine ⟨-1, Ev.next ⟨0, fun k _ => ?_⟩, by simp⟩
  rw [e]
  simp only [slices_Index_int_int.l0, end_lt, if_false]
 | x :: L, pre, e1 => by
  have d1 : (pre.length : Int) < (l.length : Int) := by rw [e1, List.length_append, List.length_cons]; omega
  have t1 : rd l (pre.length : Int) = x := by rw [e1]; exact rd_mid1 _ _ _
  by_cases q : R = x
  · refine ⟨(pre.length : Int), Ev.next ⟨0, fun k _ => ?_⟩, ?_⟩
    · simp only [slices_Index_int_int.l0, d1, nat_ge, if_true, t1, q]
    · have : (pre.length : Int) ≥ 0 := by omega
      simp [this, q]
  · obtain ⟨t, h, ht⟩ := i_index l R hl L (pre ++ [x]) (by rw [e1]; simp)
    rw [step_len] at h
    refine ⟨t, Ev.next ?_, ?_⟩
    · simp only [slices_Index_int_int.l0, d1, nat_ge, if_true, t1, q, if_false, wrap_succ pre.length (by omega)]
      exact h
    · rw [ht, List.all_cons]
      have : x ≠ R := fun e => q e.symm
      simp [this]
theorem i_contains (l : List Int) (R : Int) (hl : l.length ≤ 1000000000000000) : Ev (fun k => slices_Contains_int_int.f k l R) (!(l.all (fun x => decide (x ≠ R)))) := by
 obtain ⟨t, h, ht⟩ := i_index l R hl l [] rfl
 rw [← ht]
 exact Ev.bind h (Ev.now _)
/-! the end -/
theorem s_end (out : List S53) (T : List S44) (hn : T.length ≤ 6) (hT : ∀ t ∈ T, t.f0.length ≤ 8 ∧ ∀ y ∈ t.f0, y.f1.length ≤ 8) : ∀ d i : Nat, i + d = T.length → Ev (fun k => spec_RunBus.l4 k T out (T.length : Int) (i : Int)) (out, T, true)
 | 0, i, hd => by
  obtain rfl : i = T.length := by omega
  refine Ev.next ⟨0, fun k _ => ?_⟩
  simp only [spec_RunBus.l4, end_lt, if_false]
 | d + 1, i, hd => by
  have ih := s_end out T hn hT d (i + 1) (by omega)
  have c1 : (i : Int) < (T.length : Int) := by omega
  have e1 : rd_T44 T (i : Int) = T[i] := by simp [rd_T44, (show i < T.length by omega)]
  have ht := hT _ (List.getElem_mem (show i < T.length by omega))
  obtain ⟨K, hc⟩ := s_copy T[i].f0 (by omega) (fun y hy => by have := ht.2 y hy; omega)
  refine Ev.back 1 K (fun k hk => ?_) ih
  have hc' := hc k hk
  simp only at hc'
  have e2 : T.set ((i : Int)).toNat (⟨T[i].f0, T[i].f1, T[i].f2, T[i].f3⟩ : S44) = T := by
   rw [toNat_i]
   exact List.set_getElem_self (show i < T.length by omega)
  simp only [spec_RunBus.l4, c1, nat_ge, if_true, e1, hc', Option.bind_some, e2, wrap_succ i (by omega)]
theorem i_end (out : List S53) (T : List S44) (hn : T.length ≤ 6) (hT : ∀ t ∈ T, t.f0.length ≤ 8 ∧ ∀ y ∈ t.f0, y.f1.length ≤ 8) : ∀ d i : Nat, i + d = T.length → Ev (fun k => impl_RunBus.l4 k T out (T.length : Int) (i : Int)) (out, T, true)
 | 0, i, hd => by
  obtain rfl : i = T.length := by omega
  refine Ev.next ⟨0, fun k _ => ?_⟩
  simp only [impl_RunBus.l4, end_lt, if_false]
 | d + 1, i, hd => by
  have ih := i_end out T hn hT d (i + 1) (by omega)
  have c1 : (i : Int) < (T.length : Int) := by omega
  have e1 : rd_T44 T (i : Int) = T[i] := by simp [rd_T44, (show i < T.length by omega)]
  have ht := hT _ (List.getElem_mem (show i < T.length by omega))
  have c2 : T[i].f0.length < 4398046511104 := by omega
  have c3 : (((i + 1 : Nat) : Int) = (i : Int) + 1) = True := eq_true (by omega)
  refine Ev.back 1 0 (fun k hk => ?_) ih
  simp only [impl_RunBus.l4, c1, nat_ge, if_true, e1, wrap_succ i (by omega), c2, c3]
/-! the rounds -/
structure Inv (now : List S44) (used : List Int) (out : List S53) (r : Nat) : Prop where
 n6 : now.length ≤ 6
 hu : used.length = now.length
 ho : out.length ≤ r
 hq : ∀ t ∈ now, t.f0.length ≤ 8 ∧ ∀ y ∈ t.f0, (0 ≤ y.f0 ∧ y.f0 ≤ 2047) ∧ y.f1.length ≤ 8
 hs : ∀ t ∈ now, t.f1 ≤ 10 ∧ 0 ≤ t.f2 ∧ t.f2 ≤ 255
 h0 : ∀ u ∈ used, 0 ≤ u ∧ u ≤ 10
def Fin_ (v : (List (S53)) × (List (S44)) × Bool) : Prop := v.1.length ≤ 40 ∧ v.2.1.length ≤ 6 ∧ ∀ t ∈ v.2.1, t.f0.length ≤ 8 ∧ ∀ y ∈ t.f0, y.f1.length ≤ 8
theorem Inv.reset {now : List S44} {used : List Int} {out : List S53} {r n : Nat} (h : Inv now used out r) (hn : n = now.length) : Inv now (List.replicate n 0) out r :=
 ⟨h.n6, by simp [hn], h.ho, h.hq, h.hs, fun u hu => by have := List.eq_of_mem_replicate hu; omega⟩
theorem mem_set {α : Type} {l : List α} {i : Nat} {a x : α} (h : x ∈ l.set i a) : x = a ∨ x ∈ l := by
 rcases List.mem_or_eq_of_mem_set h with h | h
 · exact .inr h
 · exact .inl h
theorem Inv.next {now : List S44} {used : List Int} {out : List S53} {r a : Nat} {t : S44} {u : Int} {s : S53} (h : Inv now used out r) (ht : t.f0.length ≤ 8 ∧ (∀ y ∈ t.f0, (0 ≤ y.f0 ∧ y.f0 ≤ 2047) ∧ y.f1.length ≤ 8) ∧ t.f1 ≤ 10 ∧ 0 ≤ t.f2 ∧ t.f2 ≤ 255) (hu : 0 ≤ u ∧ u ≤ 10) : Inv (now.set a t) (used.set a u) (out ++ [s]) (r + 1) :=
 ⟨by rw [List.length_set]; exact h.n6, by rw [List.length_set, List.length_set]; exact h.hu, by have := h.ho; rw [List.length_append, List.length_singleton]; omega,
  fun x hx => (mem_set hx).elim (fun e => e ▸ ⟨ht.1, ht.2.1⟩) (h.hq x), fun x hx => (mem_set hx).elim (fun e => e ▸ ht.2.2) (h.hs x), fun x hx => (mem_set hx).elim (fun e => e ▸ hu) (h.h0 x)⟩
theorem Inv.skip {now : List S44} {used : List Int} {out : List S53} {r : Nat} (h : Inv now used out r) : Inv now used out (r + 1) := ⟨h.n6, h.hu, Nat.le_succ_of_le h.ho, h.hq, h.hs, h.h0⟩
theorem rd_set (l : List S44) (a : Nat) (h : a < l.length) (x : S44) : rd_T44 (l.set a x) (a : Int) = x := by simp [rd_T44, h]
theorem set_two (l : List S44) (a : Nat) (x y : S44) : (l.set a x).set a y = l.set a y := by simp
theorem s_tail (p : List S44) (a1 a2 : Int) (l : List Int) (now : List S44) (out : List S53) (used : List Int) (r a : Nat) (id : Int) (g : Bool) (hl : l.length ≤ 1000000000000000) (ha : a < now.length) (hout : out.length ≤ 1000) (hr : r ≤ 1000)
 (h1 : 0 < now[a].f0.length) (h2 : now[a].f3 = false) (h3 : 0 ≤ now[a].f2 ∧ now[a].f2 ≤ 255) (v : (List (S53)) × (List (S44)) × Bool)
 (h : Ev (fun k => spec_RunBus.l1 k p a1 a2 l (now.set a (if g = true then busGood now[a] else busBad now[a])) (out ++ [⟨(r : Int), (a : Int), id, g⟩]) used ((r + 1 : Nat) : Int)) v) :
 Ev (fun k => spec_RunBus.l3 k p a1 a2 l now out used (r : Int) (a : Int) l (l.length : Int) (l.length : Int) (r : Int) (a : Int) id g) v := by
 refine Ev.next ?_
 have c1 : out.length < 4398046511104 := by omega
 have c2 : (a : Int) < (now.length : Int) := by omega
 have e1 : rd_T44 now (a : Int) = now[a] := by simp [rd_T44, ha]
 have c3 : (1 : Int) ≤ (now[a].f0.length : Int) := by omega
 have w1 : wrap64 (now[a].f2 - 1) = now[a].f2 - 1 := wrap_in (by omega) (by omega)
 have w8 : wrap64 (now[a].f2 + 8) = now[a].f2 + 8 := wrap_in (by omega) (by omega)
 simp only [spec_RunBus.l3, end_lt, if_false, c1, c2, nat_ge, if_true, Option.bind_some, e1, c3, toNat_i, rd_set now a ha, set_two, wrap_succ r (by omega)]
 cases g with
 | true =>
  simp only [if_true] at h ⊢
  simp only [busGood, w1] at h
  by_cases q : now[a].f2 > 0
  · have q2 : ¬ (now[a].f2 - 1 < 0) := by omega
    simp only [q, if_true, w1]
    simp only [q2, if_false] at h
    exact h
  · have q2 : now[a].f2 - 1 < 0 := by omega
    have q3 : now[a].f2 = 0 := by omega
    simp only [q, if_false]
    simp only [q2, if_true] at h
    rw [q3]
    exact h
 | false =>
  simp only [Bool.false_eq_true, if_false] at h ⊢
  simp only [busBad, w8] at h
  by_cases q : now[a].f2 + 8 ≥ 255
  · have q2 : (if 255 < now[a].f2 + 8 then (255 : Int) else now[a].f2 + 8) = 255 := by split <;> omega
    simp only [w8, q, if_true, rd_set now a ha]
    rw [q2] at h
    exact h
  · have q2 : ¬ (255 < now[a].f2 + 8) := by omega
    have q3 : (now[a].f2 + 8 == 255) = false := beq_eq_false_iff_ne.mpr (by omega)
    simp only [w8, q, if_false]
    simp only [q2, if_false, q3] at h
    rw [h2]
    exact h
theorem bus_turn (p : List S44) (a1 a2 : Int) (l : List Int) (now : List S44) (out : List S53) (used : List Int) (r : Nat) (hl : l.length ≤ 1000000000000000) (hr : r < 40) (hI : Inv now used out r) (hn : now.length = p.length)
 (ih : ∀ now' used' out', Inv now' used' out' (r + 1) → now'.length = p.length → ∃ v, Fin_ v ∧ Ev (fun k => spec_RunBus.l1 k p a1 a2 l now' out' used' ((r + 1 : Nat) : Int)) v ∧ Ev (fun k => impl_RunBus.l2 k a2 l now' out' used' a1 ((r + 1 : Nat) : Int)) v) :
 ∃ v, Fin_ v ∧ Ev (fun k => spec_RunBus.l2 k p a1 a2 l now out used (r : Int) [] [] now (now.length : Int) 0) v ∧ Ev (fun k => impl_RunBus.l3 k a2 l now out used (r : Int) [] [] a1 (r : Int) now (now.length : Int) 0) v := by
 have hn6 := hI.n6
 have hsl := sel_length now used 0
 have S1 := fun v => s_sel p a1 a2 l now out used (r : Int) hn6 v now [] used [] [] [] rfl rfl rfl hI.hu.symm (Nat.le_refl _) (Nat.le_refl _)
 have I1 := fun v => i_sel a2 l now out used (r : Int) a1 (r : Int) hn6 v now [] used [] [] [] rfl rfl rfl hI.hu.symm (Nat.le_refl _) (Nat.le_refl _)
 simp only [List.nil_append, List.length_nil] at S1 I1
 cases hS : sel now used 0 with
 | nil =>
  rw [hS] at S1 I1
  obtain ⟨v, hv, h1, h2⟩ := ih now used out hI.skip hn
  refine ⟨v, hv, S1 v (Ev.next ?_), I1 v (Ev.next ?_)⟩
  · simp only [spec_RunBus.l2, end_lt, if_false, List.map_nil, List.length_nil, wrap_succ r (by omega)]
    exact h1
  · simp only [impl_RunBus.l3, end_lt, if_false, List.map_nil, wrap_succ r (by omega)]
    refine Ev.bind arb_nil ?_
    simp only [Bool.false_eq_true, if_false]
    exact h2
 | cons q0 S0 =>
  rw [hS] at S1 I1 hsl
  have hmem : ∀ q ∈ q0 :: S0, ∃ (a : Nat) (ha : a < now.length) (hb : a < used.length), q.1 = (a : Int) ∧ now[a].f3 = false ∧ 0 < now[a].f0.length ∧ used[a] < now[a].f1 ∧ q.2 = (rd_T49 now[a].f0 0).f0 := fun q hq => by
   obtain ⟨a, ha, hb, h1, h2⟩ := sel_mem now used 0 q (by rw [hS]; exact hq)
   exact ⟨a, ha, hb, by rw [h1]; omega, h2⟩
  have hid : ∀ x ∈ (q0 :: S0).map (·.2), 0 ≤ x ∧ x ≤ 2047 := fun x hx => by
   obtain ⟨q, hq, rfl⟩ := List.mem_map.mp hx
   obtain ⟨a, ha, hb, _, _, h0, _, e⟩ := hmem q hq
   have hy := (hI.hq _ (List.getElem_mem ha)).2 _ (List.getElem_mem h0)
   have e2 : rd_T49 now[a].f0 0 = now[a].f0[0] := by simp [rd_T49, h0]
   rw [e, e2]
   exact hy.1
  obtain ⟨i, Y, hi, hs, hm⟩ := arb_ev ((q0 :: S0).map (·.2)) (by simp) (by rw [List.length_map]; omega) hid
  have hi' : i < (q0 :: S0).length := by simpa using hi
  obtain ⟨a, ha, hb, ew, hf3, hf0, hlt, eid⟩ := hmem (q0 :: S0)[i] (List.getElem_mem hi')
  have rw1 : rd ((q0 :: S0).map (·.1)) (i : Int) = (a : Int) := by rw [rd_get _ _ (by simpa using hi'), List.getElem_map, ew]
  have rw2 : rd ((q0 :: S0).map (·.2)) (i : Int) = (rd_T49 now[a].f0 0).f0 := by rw [rd_get _ _ (by simpa using hi'), List.getElem_map, eid]
  have ru : rd used (a : Int) = used[a] := rd_get _ _ hb
  have rt : rd_T44 now (a : Int) = now[a] := by simp [rd_T44, ha]
  have hst := hI.hs _ (List.getElem_mem ha)
  have hqt := hI.hq _ (List.getElem_mem ha)
  have hu0 := hI.h0 _ (List.getElem_mem hb)
  have wu : wrap64 (used[a] + 1) = used[a] + 1 := wrap_in (by omega) (by omega)
  have w1 : wrap64 (now[a].f2 - 1) = now[a].f2 - 1 := wrap_in (by omega) (by omega)
  have w8 : wrap64 (now[a].f2 + 8) = now[a].f2 + 8 := wrap_in (by omega) (by omega)
  obtain ⟨g, hg⟩ : ∃ g, g = l.all (fun x => decide (x ≠ (r : Int))) := ⟨_, rfl⟩
  have hk : (if g = true then busGood now[a] else busBad now[a]).f0.length ≤ 8 ∧ (∀ y ∈ (if g = true then busGood now[a] else busBad now[a]).f0, (0 ≤ y.f0 ∧ y.f0 ≤ 2047) ∧ y.f1.length ≤ 8) ∧ (if g = true then busGood now[a] else busBad now[a]).f1 ≤ 10 ∧ 0 ≤ (if g = true then busGood now[a] else busBad now[a]).f2 ∧ (if g = true then busGood now[a] else busBad now[a]).f2 ≤ 255 := by
   cases g with
   | true =>
    simp only [if_true, busGood, w1]
    refine ⟨by rw [List.length_drop]; omega, fun y hy => hqt.2 y (List.mem_of_mem_drop hy), hst.1, ?_, ?_⟩ <;> split <;> omega
   | false =>
    simp only [Bool.false_eq_true, if_false, busBad, w8]
    refine ⟨hqt.1, hqt.2, hst.1, ?_, ?_⟩ <;> split <;> omega
  obtain ⟨v, hv, h1, h2⟩ := ih (now.set a (if g = true then busGood now[a] else busBad now[a])) (used.set a (used[a] + 1)) (out ++ [⟨(r : Int), (a : Int), (rd_T49 now[a].f0 0).f0, g⟩]) (hI.next hk (by omega)) (by rw [List.length_set]; exact hn)
  have ci : (i : Int) < ((((q0 :: S0).map (·.1)).length : Nat) : Int) := by rw [List.length_map]; omega
  have ci2 : (i : Int) < ((((q0 :: S0).map (·.2)).length : Nat) : Int) := by rw [List.length_map]; omega
  have cu : (a : Int) < (used.length : Int) := by omega
  have cn : (a : Int) < (now.length : Int) := by omega
  have cq : (0 : Int) < (now[a].f0.length : Int) := by omega
  have hout := hI.ho
  have co : out.length < 4398046511104 := by omega
  refine ⟨v, hv, S1 v (Ev.next ?_), I1 v (Ev.next ?_)⟩
  · have c0 : ¬ (((((q0 :: S0).map (·.1)).length : Nat) : Int) = 0) := by rw [List.length_map, List.length_cons]; omega
    simp only [spec_RunBus.l2, end_lt, if_false, c0]
    refine Ev.bind hs ?_
    simp only [nat_ge, if_true, ci, rw1, cu, cn, rt, ru, cq, wu, toNat_i]
    refine s_spoilt p a1 a2 now out _ (r : Int) (a : Int) _ _ _ l hl v l [] true rfl ?_
    rw [Bool.true_and, ← hg]
    exact s_tail p a1 a2 l now out _ r a _ g hl ha (by omega) (by omega) hf0 hf3 hst.2 v h1
  · simp only [impl_RunBus.l3, end_lt, if_false]
    refine Ev.bind hm ?_
    simp only [nat_ge, if_true, ci, ci2, rw1, rw2, cu, cn, rt, ru, cq, wu, toNat_i, Option.bind_some, co]
    refine Ev.bind (i_contains l (r : Int) hl) ?_
    rw [← hg, wrap_succ r (by omega)]
    cases g with
    | true => simpa using h2
    | false => simpa using h2
theorem bus_loop (p : List S44) (a2 : Int) (l : List Int) (N : Nat) (hN : N ≤ 40) (ha : a2 ≠ 0) (hp : p.length ≤ 6) (hl : l.length ≤ 1000000000000000) : ∀ (d r : Nat) (now : List S44) (used : List Int) (out : List S53), r + d = N → Inv now used out r → now.length = p.length →
 ∃ v, Fin_ v ∧ Ev (fun k => spec_RunBus.l1 k p (N : Int) a2 l now out used (r : Int)) v ∧ Ev (fun k => impl_RunBus.l2 k a2 l now out used (N : Int) (r : Int)) v
 | 0, r, now, used, out, hd, hI, hn => by
  obtain rfl : r = N := by omega
  have hT : ∀ t ∈ now, t.f0.length ≤ 8 ∧ ∀ y ∈ t.f0, y.f1.length ≤ 8 := fun t ht => ⟨(hI.hq t ht).1, fun y hy => ((hI.hq t ht).2 y hy).2⟩
  have := hI.ho
  refine ⟨(out, now, true), ⟨by show out.length ≤ 40; omega, hI.n6, hT⟩, Ev.next ?_, Ev.next ?_⟩
  · simp only [spec_RunBus.l1, end_lt, if_false]
    exact s_end out now hI.n6 hT now.length 0 (by omega)
  · simp only [impl_RunBus.l2, end_lt, if_false]
    exact i_end out now hI.n6 hT now.length 0 (by omega)
 | d + 1, r, now, used, out, hd, hI, hn => by
  have ih := fun now' used' out' => bus_loop p a2 l N hN ha hp hl d (r + 1) now' used' out' (by omega)
  have c1 : (r : Int) < (N : Int) := by omega
  have c2 : p.length ≤ 35184372088832 := by omega
  by_cases q : Int.tmod (r : Int) a2 = 0
  · obtain ⟨v, hv, h1, h2⟩ := bus_turn p (N : Int) a2 l now out (List.replicate p.length 0) r hl (by omega) (hI.reset hn.symm) hn ih
    refine ⟨v, hv, Ev.next ?_, Ev.next ?_⟩
    · simp only [spec_RunBus.l1, c1, if_true, ha, if_false, q, nat_ge, toNat_i, c2]
      refine Ev.next ?_
      simp only [spec_RunBus.j3]
      exact h1
    · simp only [impl_RunBus.l2, c1, if_true, ha, if_false, q]
      rw [hI.hu, hn]
      refine Ev.next ?_
      simp only [impl_RunBus.j4]
      exact h2
  · obtain ⟨v, hv, h1, h2⟩ := bus_turn p (N : Int) a2 l now out used r hl (by omega) hI hn ih
    refine ⟨v, hv, Ev.next ?_, Ev.next ?_⟩
    · simp only [spec_RunBus.l1, c1, if_true, ha, if_false, q]
      refine Ev.next ?_
      simp only [spec_RunBus.j3]
      exact h1
    · simp only [impl_RunBus.l2, c1, if_true, ha, if_false, q]
      refine Ev.next ?_
      simp only [impl_RunBus.j4]
      exact h2
theorem bus_same (p : List S44) (a1 a2 : Int) (l : List Int) (hl : l.length ≤ 1000000000000000) (hp : p.length ≤ 1000000000) (hx : ∀ x ∈ p, x.f0.length ≤ 1000000000) : ∃ v, Fin_ v ∧ Ev (fun k => spec_RunBus.f k p a1 a2 l) v ∧ Ev (fun k => impl_RunBus.f k p a1 a2 l) v := by
 have bad : Fin_ (([], [], false) : (List (S53)) × (List (S44)) × Bool) := ⟨by simp, by simp, by simp⟩
 have sb : Ev (fun k => spec_RunBus.j0 k p a1 a2 l true) ([], [], false) := Ev.next ⟨0, fun k _ => by simp only [spec_RunBus.j0, if_true]⟩
 have ib : Ev (fun k => impl_RunBus.j0 k p a1 a2 l true) ([], [], false) := Ev.next ⟨0, fun k _ => by simp only [impl_RunBus.j0, if_true]⟩
 simp only [spec_RunBus.f, impl_RunBus.f, impl_between.f]
 by_cases h1 : (p.length : Int) > 6
 · simp only [h1, if_true]
   exact ⟨_, bad, sb, ib⟩
 · simp only [h1, if_false]
   by_cases h2 : a1 < 0
   · have : ¬ (a1 ≥ 0) := by omega
     simp only [h2, if_true, this, if_false, Option.bind_some, Bool.false_eq_true]
     exact ⟨_, bad, sb, ib⟩
   · have d2 : a1 ≥ 0 := by omega
     by_cases h3 : a1 > 40
     · have : ¬ (a1 ≤ 40) := by omega
       simp only [h2, h3, if_true, if_false, d2, this, decide_false, Option.bind_some, Bool.false_eq_true]
       exact ⟨_, bad, sb, ib⟩
     · have d3 : a1 ≤ 40 := by omega
       by_cases h4 : a2 < 1
       · have : ¬ (a2 ≥ 1) := by omega
         simp only [h2, h3, h4, if_true, if_false, d2, d3, this, decide_true, Option.bind_some, Bool.false_eq_true]
         exact ⟨_, bad, sb, ib⟩
       · have d4 : a2 ≥ 1 := by omega
         by_cases h5 : a2 > 20
         · have : ¬ (a2 ≤ 20) := by omega
           simp only [h2, h3, h4, h5, if_true, if_false, d2, d3, d4, this, decide_true, decide_false, Option.bind_some, Bool.false_eq_true]
           exact ⟨_, bad, sb, ib⟩
         · have d5 : a2 ≤ 20 := by omega
           simp only [h2, h3, h4, h5, if_true, if_false, d2, d3, d4, d5, decide_true, Option.bind_some]
           cases hd : decide ((l.length : Int) > 40) with
           | true => exact ⟨_, bad, sb, ib⟩
           | false =>
            obtain ⟨s1, s2⟩ := s_start p a1 a2 l (by omega) hx p [] rfl
            obtain ⟨i1, i2⟩ := i_start p a1 a2 l (by omega) hx p [] rfl
            cases hall : p.all okT with
            | false =>
             refine ⟨_, bad, Ev.next ?_, Ev.next ?_⟩
             · simp only [spec_RunBus.j0, Bool.false_eq_true, if_false]
               exact s2 hall
             · simp only [impl_RunBus.j0, Bool.false_eq_true, if_false]
               exact i2 hall
            | true =>
             have hok : ∀ x ∈ p, okT x = true := List.all_eq_true.mp hall
             obtain ⟨N, rfl⟩ : ∃ N : Nat, a1 = (N : Int) := ⟨a1.toNat, by omega⟩
             obtain ⟨v, hv, h1, h2⟩ := bus_loop p a2 l N (by omega) (by omega) (by omega) hl N 0 p (List.replicate p.length 0) [] (by omega)
              ⟨by omega, by simp, by simp, fun t ht => ⟨(okT_small t (hok t ht)).1.1, (okT_small t (hok t ht)).2⟩, fun t ht => ⟨(okT_small t (hok t ht)).1.2.2.1, (okT_small t (hok t ht)).1.2.2.2.1, (okT_small t (hok t ht)).1.2.2.2.2⟩, fun u hu => by have := List.eq_of_mem_replicate hu; omega⟩ rfl
             refine ⟨v, hv, Ev.next ?_, Ev.next ?_⟩
             · simp only [spec_RunBus.j0, Bool.false_eq_true, if_false]
               exact s1 hall v h1
             · simp only [impl_RunBus.j0, Bool.false_eq_true, if_false]
               exact i1 hall v h2
theorem wT_tk (x : S41) : wT (tk x) = 3 + cT x := by
 unfold wT cT tk
 have h : ∀ L : List S69, ((L.map fr).map wF).sum = L.length + (L.map (fun y => y.f1.length)).sum := by
  intro L
  induction L with
  | nil => rfl
  | cons y L ih =>
   simp only [List.map_cons, List.sum_cons, List.length_cons, ih, wF, fr]
   omega
 simp only
 rw [h]
theorem sum_tk : ∀ L : List S41, ((L.map tk).map wT).sum = 3 * L.length + (L.map cT).sum
 | [] => rfl
 | x :: L => by
  have := sum_tk L
  simp only [List.map_cons, List.sum_cons, List.length_cons, wT_tk]
  omega
theorem FnExactRunBus : ∀ (l0 : List (S41)) (a1 : Int) (a2 : Int) (l3 : List Int), ((∀ (zl0 : S41), zl0 ∈ l0 → (((∀ (zzl0f0 : S69), zzl0f0 ∈ zl0.f0 → ((Lit.int .i64 zzl0f0.f0).wf = true ∧ ((∀ (zzzl0f0f1 : Int), zzzl0f0f1 ∈ zzl0f0.f1 → (Lit.int .u8 zzzl0f0f1).wf = true) ∧ zzl0f0.f1.length * 1 ≤ 140737488351232))) ∧ zl0.f0.length * 32 ≤ 140737488351232) ∧ (Lit.int .i64 zl0.f1).wf = true ∧ (Lit.int .i64 zl0.f2).wf = true ∧ True)) ∧ l0.length * 48 ≤ 140737488351232) → (Lit.int .i64 a1).wf = true → (Lit.int .i64 a2).wf = true → ((∀ (zl3 : Int), zl3 ∈ l3 → (Lit.int .i64 zl3).wf = true) ∧ l3.length * 8 ≤ 140737488351232) → ∃ k, laws_FnExactRunBus.f k l0 a1 a2 l3 = some true := by
 intro p a1 a2 l ⟨hin, hl⟩ _ _ ⟨_, hwl⟩
 by_cases hwn : (l.length : Int) > 1048576
 · exact ⟨0, by simp only [laws_FnExactRunBus.f, hwn, if_true]⟩
 obtain ⟨t, ⟨K0, h0⟩, hc⟩ := szTalkerS_ev p (by omega) (fun x hx => ⟨by have := (hin x hx).1.2; omega, fun y hy => by have := ((hin x hx).1.1 y hy).2.2; omega⟩)
 rcases hc with rfl | ⟨ht, hsum⟩
 · refine ⟨K0, ?_⟩
   have h0' := h0 K0 (by omega)
   simp only at h0'
   have cn : (-1 : Int) < 0 := by omega
   simp only [laws_FnExactRunBus.f, hwn, if_false, h0', Option.bind_some, cn, if_true]
 · have hlen : p.length ≤ 1048576 := by omega
   have hx : ∀ x ∈ p, x.f0.length ≤ 1048576 ∧ ∀ y ∈ x.f0, y.f1.length ≤ 1048576 := fun x hx => by
    have h1 := mem_le_sum cT p x hx
    have h2 : x.f0.length + (x.f0.map (fun y => y.f1.length)).sum = cT x := rfl
    refine ⟨by omega, fun y hy => ?_⟩
    have h3 : y.f1.length ≤ (x.f0.map (fun y => y.f1.length)).sum := mem_le_sum (fun y : S69 => y.f1.length) x.f0 y hy
    omega
   have hxP : ∀ x ∈ p.map tk, x.f0.length ≤ 1048576 ∧ ∀ y ∈ x.f0, y.f1.length ≤ 1048576 := fun z hz => by
    obtain ⟨x, hxp, rfl⟩ := List.mem_map.mp hz
    refine ⟨by simp only [tk, List.length_map]; exact (hx x hxp).1, fun y hy => ?_⟩
    simp only [tk] at hy
    obtain ⟨w, hw, rfl⟩ := List.mem_map.mp hy
    exact (hx x hxp).2 w hw
   have hsP := sum_tk p
   have hlP : (p.map tk).length ≤ 1048576 := by rw [List.length_map]; exact hlen
   obtain ⟨K1, h1⟩ := toTalkerS_ev p hlen hx
   generalize p.map tk = P at *
   obtain ⟨⟨G, T, b⟩, ⟨hG, hT, hTx⟩, ⟨K3, h3⟩, ⟨K4, h4⟩⟩ := bus_same P a1 a2 l (by omega) (by omega) (fun x hx => by have := (hxP x hx).1; omega)
   simp only at hG hT hTx
   have hsT : (T.map wT).sum ≤ T.length * 75 := sum_le_mul wT 75 T (fun t ht => by
    have h := sum_le_mul wF 9 t.f0 (fun y hy => by have := (hTx t ht).2 y hy; unfold wF; omega)
    have := (hTx t ht).1
    unfold wT
    omega)
   obtain ⟨K2, h2⟩ := toIntS_ev l (by omega)
   obtain ⟨K5, h5⟩ := eqSentS_ev G (by omega)
   obtain ⟨K6, h6⟩ := eqTalkerS_ev T (by omega) (fun x hx => ⟨by have := (hTx x hx).1; omega, fun y hy => by have := (hTx x hx).2 y hy; omega⟩)
   obtain ⟨K7, h7⟩ := eqTalkerS_ev P (by omega) (fun x hx => ⟨by have := (hxP x hx).1; omega, fun y hy => by have := (hxP x hx).2 y hy; omega⟩)
   obtain ⟨K8, h8⟩ := eqIntS_ev l (by omega)
   obtain ⟨m1, P', _, hm1, hm1b, ⟨K9, h9⟩, _⟩ := mhTalker P 1 (by omega) (by omega)
   obtain ⟨K10, h10⟩ := markIntS_at l (by omega) m1 (by omega) (by omega)
   obtain ⟨m2, G', _, hm2, hm2b, ⟨K11, h11⟩, ⟨K12, h12⟩⟩ := mhSent G 1 (by omega) (by omega)
   obtain ⟨m3, T', _, hm3, hm3b, ⟨K13, h13⟩, ⟨K14, h14⟩⟩ := mhTalker T m2 (by omega) (by omega)
   generalize ((List.range l.length).map fun (j : Nat) => id (m1 + ((1 : Nat) : Int) * (j : Int))) = M at *
   have c1 : ¬ (m1 + ((1 : Nat) : Int) * (l.length : Int) < 0) := by omega
   have c2 : ¬ (m2 < 0) := by omega
   have c3 : ¬ (m3 < 0) := by omega
   have e2 : ∀ k, K12 + K14 ≤ k → laws_FnExactRunBus.j2 (k + 1) G' T' m3 false = some true := by
    intro k hk
    simp (disch := omega) only [laws_FnExactRunBus.j2, h12, h14, Option.bind_some, Bool.false_eq_true, if_false, c2, c3, if_true]
   have e1 : ∀ k, K1 + K2 + K4 + K5 + K6 + K11 + K12 + K13 + K14 ≤ k → laws_FnExactRunBus.j1 (k + 2) p a1 a2 l G T b G T false = some true := by
    intro k hk
    have e2' := e2 k (by omega)
    simp (disch := omega) only [laws_FnExactRunBus.j1, h1, h2, h4, h5, h6, h11, h12, h13, h14, Option.bind_some, Bool.false_eq_true, if_false, c2, c3, if_true, bne_self_eq_false, e2']
   have e0 : ∀ k, K1 + K2 + K4 + K5 + K6 + K7 + K8 + K9 + K10 + K11 + K12 + K13 + K14 ≤ k → laws_FnExactRunBus.j0 (k + 3) p a1 a2 l G T b P l G T b false = some true := by
    intro k hk
    have e1' := e1 k (by omega)
    simp (disch := omega) only [laws_FnExactRunBus.j0, h1, h2, h5, h6, h7, h8, h9, h10, Option.bind_some, Bool.false_eq_true, if_false, c1, if_true, bne_self_eq_false, e1']
   refine ⟨K0 + K1 + K2 + K3 + K4 + K5 + K6 + K7 + K8 + K9 + K10 + K11 + K12 + K13 + K14 + 3, ?_⟩
   have e0' := e0 (K0 + K1 + K2 + K3 + K4 + K5 + K6 + K7 + K8 + K9 + K10 + K11 + K12 + K13 + K14) (by omega)
   have c0 : ¬ (t < 0) := by omega
   simp (disch := omega) only [laws_FnExactRunBus.f, hwn, if_false, h0, Option.bind_some, c0, h1, h2, h3, h4, h5, h6, if_true, bne_self_eq_false, e0']

end Go.Proofs.Ytdiibgbekjlmlaa.Pure
