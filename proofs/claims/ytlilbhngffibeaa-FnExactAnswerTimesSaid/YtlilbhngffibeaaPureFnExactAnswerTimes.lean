/- 'FnExactAnswerTimes': what the program's function and the reference's answer, told over numbers and lists alone, meets the law at every input within the kinds' own bounds; no other condition. -/
import Derived.Test.YtlilbhngffibeaaPFnExactAnswerTimesx5
import Derived.Test.YtlilbhngffibeaaPlain
namespace Go.Proofs.Ytlilbhngffibeaa.Pure
open Go.RowKit Go.Proofs.Ytlilbhngffibeaa.PFnExactAnswerTimes Go.Proofs.Ytlilbhngffibeaa.Plain Go.Proofs.YtlilbhngffibeaaW.PrintWords Go.Proofs.YtlilbhngffibeaaW.PrintLast
set_option linter.unusedVariables false
set_option linter.unusedSimpArgs false

theorem szChoreS_eq (l : List (S85)) (h : l.length ≤ 140737488351232) (n : Int) (h0 : 0 ≤ n) (h1 : n ≤ 1048576) : laws_szChoreS.f l n = some (if (l.length : Int) > n then -1 else n - l.length) := by
  unfold laws_szChoreS.f
  rw [wrap_in (by omega) (by omega)]
  split <;> split <;> first | rfl | (exfalso; omega)
def cChoreS (x : S85) : S83 := ⟨x.f0, x.f1, x.f2⟩
theorem toChoreS_ev (l : List S85) (h : l.length ≤ 1048576) : Ev (fun k => laws_toChoreS.f k l) (l.map cChoreS) := by
  have := to_loop (fun k acc i => laws_toChoreS.l0 k l acc i) cChoreS l z83 (fun k acc => by simp [laws_toChoreS.l0]) (fun i hi => ⟨0, fun k _ acc hacc => by
    have h1 : (i : Int) < (l.length : Int) := by omega
    have h2 : (0 : Int) ≤ (i : Int) := by omega
    have h3 : (i : Int) < (acc.length : Int) := by omega
    have h4 : rd_T85 l (i : Int) = l[i] := by simp [rd_T85, hi]
    simp only [laws_toChoreS.l0, laws_toChore.f, h1, h2, h3, h4, if_true, Option.bind_some, wrap_succ i (by omega), toNat_i]
    rfl⟩)
  exact Ev.congr (fun k => by
    have h5 : l.length ≤ 100000000 := by omega
    simp only [laws_toChoreS.f, toNat_i]
    rw [if_pos (by omega), if_pos (by omega)]) this
theorem eqChoreS_ev (l : List (S83)) (h : l.length < 9223372036854775807) : Ev (fun k => laws_eqChoreS.f k l l) true := by
  have := eq_loop (fun k i => laws_eqChoreS.l0 k l l i) l.length true (fun k => by simp [laws_eqChoreS.l0]) (fun i hi => ⟨0, fun k _ => by
    have h1 : (i : Int) < (l.length : Int) := by omega
    have h2 : (0 : Int) ≤ (i : Int) := by omega
    simp only [laws_eqChoreS.l0, laws_eqChore.f, h1, h2, if_true, Option.bind_some, wrap_succ i (by omega), bne_self_eq_false, Bool.false_eq_true, if_false]⟩)
  exact Ev.congr (fun k => by simp only [laws_eqChoreS.f, if_true]) this
theorem eqIntS_ev (l : List Int) (h : l.length < 9223372036854775807) : Ev (fun k => laws_eqIntS.f k l l) true := by
  have := eq_loop (fun k i => laws_eqIntS.l0 k l l i) l.length true (fun k => by simp [laws_eqIntS.l0]) (fun i hi => ⟨0, fun k _ => by
    have h1 : (i : Int) < (l.length : Int) := by omega
    have h2 : (0 : Int) ≤ (i : Int) := by omega
    simp only [laws_eqIntS.l0, h1, h2, if_true, Option.bind_some, wrap_succ i (by omega), bne_self_eq_false, Bool.false_eq_true, if_false]⟩)
  exact Ev.congr (fun k => by simp only [laws_eqIntS.f, if_true]) this
theorem markChoreS_ev (l : List (S83)) (h : l.length ≤ 1000000000) : Ev (fun k => laws_markChoreS.f k l 1) (1 + ((3 : Nat) : Int) * (l.length : Int), (List.range l.length).map fun (j : Nat) => (fun m => (⟨m, m + 1, m + 2⟩ : S83)) (1 + ((3 : Nat) : Int) * (j : Int))) := by
  refine mark_loop (fun k ys m i => laws_markChoreS.l0 k ys m i) (fun m => (⟨m, m + 1, m + 2⟩ : S83)) 3 1 l (fun k ys m hy => by simp [laws_markChoreS.l0, hy]) (fun i hi => ⟨0, fun k _ ys hy => ?_⟩)
  have h1 : (i : Int) < (ys.length : Int) := by omega
  have h2 : (0 : Int) ≤ (i : Int) := by omega
  have hw1 : wrap64 ((1 + 3 * (i : Int)) + 1) = 1 + 3 * (i : Int) + 1 := (wrap_in (by omega) (by omega)).trans (by omega)
  have hw2 : wrap64 ((1 + 3 * (i : Int) + 1) + 1) = 1 + 3 * (i : Int) + 2 := (wrap_in (by omega) (by omega)).trans (by omega)
  have hw3 : wrap64 ((1 + 3 * (i : Int) + 2) + 1) = 1 + 3 * (i : Int) + 3 := (wrap_in (by omega) (by omega)).trans (by omega)
  simp only [Int.cast_ofNat_Int] at *
  simp only [laws_markChoreS.l0, h1, h2, if_true, wrap_succ i (by omega), toNat_i, Option.bind_some]
  have hs : ∀ (ys : List S83) (v : S83), ys.length = l.length → rd_T83 (ys.set i v) (i : Int) = v := by intro ys v hv; simp [rd_T83, List.getElem?_set, hv, hi]
  simp (disch := simp [hy]) only [hs, hw1, hw2, hw3, List.set_set]
  rw [show (1 + 3 * (i : Int) + 3) = 1 + 3 * ((i + 1 : Nat) : Int) by omega]
theorem markIntS_ev (l : List Int) (h : l.length ≤ 1000000000) : Ev (fun k => laws_markIntS.f k l 1) (1 + ((1 : Nat) : Int) * (l.length : Int), (List.range l.length).map fun (j : Nat) => id (1 + ((1 : Nat) : Int) * (j : Int))) := by
  refine mark_loop (fun k ys m i => laws_markIntS.l0 k ys m i) id 1 1 l (fun k ys m hy => by simp [laws_markIntS.l0, hy]) (fun i hi => ⟨0, fun k _ ys hy => ?_⟩)
  have h1 : (i : Int) < (ys.length : Int) := by omega
  have h2 : (0 : Int) ≤ (i : Int) := by omega
  have hw1 : wrap64 (1 + 1 * (i : Int) + 1) = 1 + 1 * ((i + 1 : Nat) : Int) := (wrap_in (by omega) (by omega)).trans (by omega)
  simp only [Int.cast_ofNat_Int] at *
  simp only [laws_markIntS.l0, h1, h2, if_true, wrap_succ i (by omega), toNat_i, Option.bind_some, hw1]
  rfl
theorem heldIntS_ev (n : Nat) (h : n ≤ 1000000000) : Ev (fun k => laws_heldIntS.f k ((List.range n).map fun (j : Nat) => id (1 + ((1 : Nat) : Int) * (j : Int))) 1) (1 + ((1 : Nat) : Int) * (n : Int)) := by
  refine held_loop (fun k m i => laws_heldIntS.l0 k ((List.range n).map fun (j : Nat) => id (1 + ((1 : Nat) : Int) * (j : Int))) m i) 1 1 n _ (fun k => by simp [laws_heldIntS.l0]) (fun i hi => ⟨0, fun k _ => ?_⟩)
  have h1 : (i : Int) < ((((List.range n).map fun (j : Nat) => id (1 + ((1 : Nat) : Int) * (j : Int))).length : Nat) : Int) := by simp; omega
  have h2 : (0 : Int) ≤ (i : Int) := by omega
  have h3 : rd ((List.range n).map fun (j : Nat) => id (1 + ((1 : Nat) : Int) * (j : Int))) (i : Int) = id (1 + ((1 : Nat) : Int) * (i : Int)) := by simp [rd, hi]
  have hw1 : wrap64 (1 + 1 * (i : Int) + 1) = 1 + 1 * ((i + 1 : Nat) : Int) := (wrap_in (by omega) (by omega)).trans (by omega)
  generalize ((List.range n).map fun (j : Nat) => id (1 + ((1 : Nat) : Int) * (j : Int))) = L at *
  simp only [Int.cast_ofNat_Int] at *
  simp only [laws_heldIntS.l0, h1, h2, h3, if_true, wrap_succ i (by omega), bne_self_eq_false, Bool.false_eq_true, if_false, id, hw1]

theorem between_eq (a lo hi : Int) : impl_between.f a lo hi = some (decide (lo ≤ a ∧ a ≤ hi)) := by
  unfold impl_between.f
  split <;> simp <;> omega
def okChore (x : S83) : Bool := decide (1 ≤ x.f0 ∧ x.f0 ≤ 60 ∧ 1 ≤ x.f1 ∧ x.f1 ≤ x.f0 ∧ x.f1 ≤ x.f2 ∧ x.f2 ≤ x.f0)
def goodChores (l : List S83) : Bool := decide (1 ≤ l.length ∧ l.length ≤ 6) && (List.range l.length).all (fun i => okChore (rd_T83 l i))
theorem spec_chores (l : List S83) (hb : l.length ≤ 1099511627776) : Ev (fun k => spec_GoodChores.f k l) (goodChores l) := by
  have hl := all_loop (fun k i => spec_GoodChores.l0 k l (l.length : Int) i) l.length (fun i => okChore (rd_T83 l i)) true false
    (Ev.next ⟨0, fun k _ => by simp [spec_GoodChores.l0]⟩)
    (fun i hi hp => ⟨0, fun k _ => by
      have h1 : (i : Int) < (l.length : Int) := by omega
      have h2 : (0 : Int) ≤ (i : Int) := by omega
      simp only [okChore, decide_eq_true_eq] at hp
      simp only [spec_GoodChores.l0, h1, h2, if_true, wrap_succ i (by omega)]
      rw [if_neg (by omega), if_neg (by omega), if_neg (by omega), if_neg (by omega), if_neg (by omega), if_neg (by omega)]⟩)
    (fun i hi hp => ⟨0, fun k _ => by
      have h1 : (i : Int) < (l.length : Int) := by omega
      have h2 : (0 : Int) ≤ (i : Int) := by omega
      simp only [okChore, decide_eq_false_iff_not] at hp
      simp only [spec_GoodChores.l0, h1, h2, if_true]
      repeat' split
      all_goals first | rfl | (exfalso; omega)⟩)
  obtain ⟨K, hK⟩ := hl
  refine ⟨K + 1, fun k hk => ?_⟩
  obtain ⟨m, rfl⟩ : ∃ m, k = m + 1 := ⟨k - 1, by omega⟩
  have hk' := hK m (by omega)
  simp only [spec_GoodChores.f, spec_GoodChores.j0, hk', goodChores]
  generalize (List.range l.length).all (fun (i : Nat) => okChore (rd_T83 l (i : Int))) = q
  by_cases h1 : 1 ≤ l.length
  · by_cases h6 : l.length ≤ 6
    · have e1 : ¬ ((l.length : Int) < 1) := by omega
      have e2 : ¬ ((l.length : Int) > 6) := by omega
      cases q <;> simp [e1, e2, h1, h6]
    · have e1 : ¬ ((l.length : Int) < 1) := by omega
      have e2 : ((l.length : Int) > 6) := by omega
      cases q <;> simp [e1, e2, h1, h6]
  · have e1 : ((l.length : Int) < 1) := by omega
    simp [e1, h1]
theorem impl_chores (l : List S83) (hb : l.length ≤ 1099511627776) : Ev (fun k => impl_GoodChores.f k l) (goodChores l) := by
  have hl := all_loop (fun k i => impl_GoodChores.l0 k l l (l.length : Int) i) l.length (fun i => okChore (rd_T83 l i)) (decide (1 ≤ l.length ∧ l.length ≤ 6)) false
    (Ev.next ⟨0, fun k _ => by
      have h1 : ¬ (l.length : Int) < (l.length : Int) := by omega
      simp only [impl_GoodChores.l0, h1, if_false, between_eq, Option.bind_some, Option.some.injEq]
      apply decide_eq_decide.2
      omega⟩)
    (fun i hi hp => ⟨0, fun k _ => by
      have h1 : (i : Int) < (l.length : Int) := by omega
      have h2 : (0 : Int) ≤ (i : Int) := by omega
      simp only [okChore, decide_eq_true_eq] at hp
      simp only [impl_GoodChores.l0, h1, h2, if_true, wrap_succ i (by omega), between_eq, Option.bind_some, decide_eq_true_eq]
      rw [if_pos (by omega), if_pos (by omega), if_pos (by omega)]⟩)
    (fun i hi hp => ⟨0, fun k _ => by
      have h1 : (i : Int) < (l.length : Int) := by omega
      have h2 : (0 : Int) ≤ (i : Int) := by omega
      simp only [okChore, decide_eq_false_iff_not] at hp
      simp only [impl_GoodChores.l0, h1, h2, if_true, between_eq, Option.bind_some, decide_eq_true_eq]
      repeat' split
      all_goals first | rfl | (exfalso; omega)⟩)
  refine Ev.congr (f := fun k => impl_GoodChores.l0 k l l (l.length : Int) 0) (fun k => rfl) ?_
  have e : (if (List.range l.length).all (fun i => okChore (rd_T83 l i)) = true then decide (1 ≤ l.length ∧ l.length ≤ 6) else false) = goodChores l := by
    unfold goodChores
    cases (List.range l.length).all (fun i => okChore (rd_T83 l i)) <;> simp
  rw [← e]
  exact hl
def rdc (l : List S83) (i : Nat) : S83 := rd_T83 l (i : Int)
/-- The work up to r of the m first chores beside one's own. -/
def sm (l : List S83) (need r : Int) : Nat → Int
  | 0 => need
  | m + 1 => wrap64 (sm l need r m + (wrap64 (((rd_T83 l (m : Int)).f1) * (wrap64 (Int.tdiv (wrap64 ((wrap64 (r + ((rd_T83 l (m : Int)).f0))) - 1)) ((rd_T83 l (m : Int)).f0))))))
/-- The first r that is its own work, from one on; -1 where none is. -/
def fnd (l : List S83) (need due : Int) (i : Nat) : Nat → Int → Int
  | 0, _ => -1
  | d + 1, r => if sm l need r i = r then r else fnd l need due i d (r + 1)
def ans (l : List S83) (i : Nat) : Int := fnd l (rd_T83 l (i : Int)).f1 (rd_T83 l (i : Int)).f2 i ((rd_T83 l (i : Int)).f2 + 1 - (rd_T83 l (i : Int)).f1).toNat (rd_T83 l (i : Int)).f1
theorem rd_take (l : List S83) (i m : Nat) (h : m < i) : rd_T83 (l.take i) (m : Int) = rd_T83 l (m : Int) := by
  simp [rd_T83, List.getElem?_take, h]
theorem spec_ans (l : List S83) (hn : l.length ≤ 6) (hg : ∀ i, i < l.length → okChore (rd_T83 l (i : Int)) = true) : Ev (fun k => spec_AnswerTimes.l0 k l (List.replicate l.length 0) l (l.length : Int) 0) ((List.range l.length).map (ans l), true) := by
  have hA : ∀ (i : Nat), i < l.length → ∀ (out : List Int), out.length = l.length → ∀ (r : Int) (p need due : Int) (res : List Int × Bool),
      (sm l need r i = r → Ev (fun k => spec_AnswerTimes.l0 k l (out.set i r) l (l.length : Int) ((i + 1 : Nat) : Int)) res) →
      (sm l need r i ≠ r → Ev (fun k => spec_AnswerTimes.l1 k l out (i : Int) (wrap64 (r + 1)) l (l.length : Int) (i : Int) p need due) res) →
      Ev (fun k => spec_AnswerTimes.l2 k l out (i : Int) r need 0 l (l.length : Int) (i : Int) p need due) res := by
    intro i hi out hout r p need due res h1 h2
    have := run_loop (fun k m (s : Int) => spec_AnswerTimes.l2 k l out (i : Int) r s m l (l.length : Int) (i : Int) p need due) i (fun m => sm l need r m) res
      (by
        have e1 : ¬ ((i : Int) < (i : Int)) := by omega
        have e2 : (0 : Int) ≤ (i : Int) := by omega
        have e3 : (i : Int) < (out.length : Int) := by omega
        by_cases hs : sm l need r i = r
        · refine Ev.back 1 0 (fun k _ => ?_) (h1 hs)
          simp only [spec_AnswerTimes.l2, e1, if_false, hs, if_true, e2, e3, toNat_i, wrap_succ i (by omega)]
        · refine Ev.back 1 0 (fun k _ => ?_) (h2 hs)
          simp only [spec_AnswerTimes.l2, e1, if_false, hs])
      (fun m hm => ⟨0, fun k _ => by
        have e1 : (m : Int) < (i : Int) := by omega
        have e2 : (0 : Int) ≤ (m : Int) := by omega
        have e3 : (m : Int) < (l.length : Int) := by omega
        have hc := hg m (by omega)
        simp only [okChore, decide_eq_true_eq] at hc
        have e4 : ¬ (rd_T83 l (m : Int)).f0 = 0 := by omega
        simp only [spec_AnswerTimes.l2, e1, e2, e3, if_true, e4, if_false, wrap_succ m (by omega), sm]⟩) 0 (Nat.zero_le _)
    exact this
  have hB : ∀ (i : Nat), i < l.length → ∀ (out : List Int), out.length = l.length → ∀ (p need due : Int) (res : List Int × Bool) (_ : due ≤ 60) (d : Nat) (r : Int), 0 ≤ r → d = (due + 1 - r).toNat →
      Ev (fun k => spec_AnswerTimes.l0 k l (out.set i (fnd l need due i d r)) l (l.length : Int) ((i + 1 : Nat) : Int)) res →
      Ev (fun k => spec_AnswerTimes.l1 k l (out.set i (-1)) (i : Int) r l (l.length : Int) (i : Int) p need due) res := by
    intro i hi out hout p need due res hdue d
    induction d with
    | zero =>
      intro r h0 hr h
      have e1 : ¬ (r ≤ due) := by omega
      refine Ev.back 1 0 (fun k _ => ?_) h
      simp only [spec_AnswerTimes.l1, e1, if_false, wrap_succ i (by omega), fnd]
    | succ d ih =>
      intro r h0 hr h
      have e1 : r ≤ due := by omega
      have := hA i hi (out.set i (-1)) (by rw [List.length_set]; exact hout) r p need due res
        (fun hs => by
          rw [List.set_set]
          simp only [fnd, hs, if_true] at h
          exact h)
        (fun hs => by
          rw [wrap_in (by omega) (by omega)]
          simp only [fnd, hs, if_false] at h
          exact ih (r + 1) (by omega) (by omega) h)
      refine Ev.back 1 0 (fun k _ => ?_) this
      simp only [spec_AnswerTimes.l1, e1, if_true]
  have hset : ∀ i, i < l.length → (((List.range i).map (ans l)) ++ List.replicate (l.length - i) 0).set i (ans l i) = ((List.range (i + 1)).map (ans l)) ++ List.replicate (l.length - (i + 1)) 0 := by
    intro i hi
    rw [List.set_append, if_neg (by simp)]
    simp only [List.length_map, List.length_range, Nat.sub_self]
    obtain ⟨m, hm⟩ : ∃ m, l.length - i = m + 1 := ⟨l.length - i - 1, by omega⟩
    rw [hm, List.replicate_succ, List.set_cons_zero, List.range_succ, List.map_append, List.append_assoc, show l.length - (i + 1) = m by omega]
    rfl
  have := run_loop2 (fun k i (s : List Int) => spec_AnswerTimes.l0 k l s l (l.length : Int) i) l.length (fun i => ((List.range i).map (ans l)) ++ List.replicate (l.length - i) 0) ((List.range l.length).map (ans l), true)
    (Ev.at 1 0 (fun k _ => by
      have e1 : ¬ ((l.length : Int) < (l.length : Int)) := by omega
      simp only [spec_AnswerTimes.l0, e1, if_false, Nat.sub_self, List.replicate_zero, List.append_nil]))
    (fun i hi res hres => by
      have hc := hg i hi
      simp only [okChore, decide_eq_true_eq] at hc
      have hlen : (((List.range i).map (ans l)) ++ List.replicate (l.length - i) (0 : Int)).length = l.length := by simp; omega
      have e1 : (i : Int) < (l.length : Int) := by omega
      have e2 : (0 : Int) ≤ (i : Int) := by omega
      have e3 : (i : Int) < ((((List.range i).map (ans l)) ++ List.replicate (l.length - i) (0 : Int)).length : Int) := by omega
      have := hB i hi _ hlen (rd_T83 l (i : Int)).f0 (rd_T83 l (i : Int)).f1 (rd_T83 l (i : Int)).f2 res (by omega) _ (rd_T83 l (i : Int)).f1 (by omega) rfl (by
        rw [← hset i hi] at hres
        exact hres)
      refine Ev.back 1 0 (fun k _ => ?_) this
      simp only [spec_AnswerTimes.l0, e1, e2, e3, if_true, toNat_i]) 0 (Nat.zero_le _)
  simpa using this
theorem impl_ans (l : List S83) (hn : l.length ≤ 6) (hg : ∀ i, i < l.length → okChore (rd_T83 l (i : Int)) = true) : Ev (fun k => impl_AnswerTimes.l0 k l [] l (l.length : Int) 0) ((List.range l.length).map (ans l), true) := by
  have hA : ∀ (i : Nat), i < l.length → ∀ (out : List Int) (f r : Int) (p need due : Int) (res : List Int × Bool),
      (sm l need r i = r → Ev (fun k => impl_AnswerTimes.l1 k l out (i : Int) r (wrap64 (r + 1)) l (l.length : Int) (i : Int) p need due) res) →
      (sm l need r i ≠ r → Ev (fun k => impl_AnswerTimes.l1 k l out (i : Int) f (wrap64 (r + 1)) l (l.length : Int) (i : Int) p need due) res) →
      Ev (fun k => impl_AnswerTimes.l2 k l out (i : Int) f r need l (l.length : Int) (i : Int) (l.take i) (((l.take i).length : Nat) : Int) 0 p need due) res := by
    intro i hi out f r p need due res h1 h2
    have hl : (l.take i).length = i := by rw [List.length_take]; omega
    rw [hl]
    have := run_loop (fun k m (s : Int) => impl_AnswerTimes.l2 k l out (i : Int) f r s l (l.length : Int) (i : Int) (l.take i) (i : Int) m p need due) i (fun m => sm l need r m) res
      (by
        have e1 : ¬ ((i : Int) < (i : Int)) := by omega
        by_cases hs : sm l need r i = r
        · refine Ev.back 1 0 (fun k _ => ?_) (h1 hs)
          simp only [impl_AnswerTimes.l2, e1, if_false, hs, if_true]
        · refine Ev.back 1 0 (fun k _ => ?_) (h2 hs)
          simp only [impl_AnswerTimes.l2, e1, if_false, hs])
      (fun m hm => ⟨0, fun k _ => by
        have e1 : (m : Int) < (i : Int) := by omega
        have e2 : (0 : Int) ≤ (m : Int) := by omega
        have e3 : (m : Int) < (((l.take i).length : Nat) : Int) := by omega
        have hc := hg m (by omega)
        simp only [okChore, decide_eq_true_eq] at hc
        have e4 : ¬ (rd_T83 l (m : Int)).f0 = 0 := by omega
        simp only [impl_AnswerTimes.l2, e1, e2, e3, if_true, rd_take l i m hm, e4, if_false, wrap_succ m (by omega), sm]⟩) 0 (Nat.zero_le _)
    exact this
  have hD : ∀ (i : Nat), i < l.length → ∀ (out : List Int), out.length ≤ 6 → ∀ (f r : Int) (p need due : Int) (res : List Int × Bool), (¬ r ≤ due ∨ ¬ f < 0) →
      Ev (fun k => impl_AnswerTimes.l0 k l (out ++ [f]) l (l.length : Int) ((i + 1 : Nat) : Int)) res →
      Ev (fun k => impl_AnswerTimes.l1 k l out (i : Int) f r l (l.length : Int) (i : Int) p need due) res := by
    intro i hi out hout f r p need due res hc h
    refine Ev.back 2 0 (fun k _ => ?_) h
    have e1 : out.length < 17592186044416 := by omega
    by_cases hr : r ≤ due
    · have hf : decide (f < 0) = false := by rw [decide_eq_false_iff_not]; omega
      simp only [impl_AnswerTimes.l1, impl_AnswerTimes.j2, hr, if_true, hf, Bool.false_eq_true, if_false, e1, wrap_succ i (by omega)]
    · simp only [impl_AnswerTimes.l1, impl_AnswerTimes.j2, hr, Bool.false_eq_true, if_false, e1, if_true, wrap_succ i (by omega)]
  have hB : ∀ (i : Nat), i < l.length → ∀ (out : List Int), out.length ≤ 6 → ∀ (p need due : Int) (res : List Int × Bool) (_ : due ≤ 60) (d : Nat) (r : Int), 0 ≤ r → d = (due + 1 - r).toNat →
      Ev (fun k => impl_AnswerTimes.l0 k l (out ++ [fnd l need due i d r]) l (l.length : Int) ((i + 1 : Nat) : Int)) res →
      Ev (fun k => impl_AnswerTimes.l1 k l out (i : Int) (-1) r l (l.length : Int) (i : Int) p need due) res := by
    intro i hi out hout p need due res hdue d
    induction d with
    | zero =>
      intro r h0 hr h
      exact hD i hi out hout (-1) r p need due res (.inl (by omega)) h
    | succ d ih =>
      intro r h0 hr h
      have e1 : r ≤ due := by omega
      have := hA i hi out (-1) r p need due res
        (fun hs => by
          simp only [fnd, hs, if_true] at h
          exact hD i hi out hout r (wrap64 (r + 1)) p need due res (.inr (by omega)) h)
        (fun hs => by
          rw [wrap_in (by omega) (by omega)]
          simp only [fnd, hs, if_false] at h
          exact ih (r + 1) (by omega) (by omega) h)
      refine Ev.back 2 0 (fun k _ => ?_) this
      have e2 : (0 : Int) ≤ (i : Int) := by omega
      have e3 : (i : Int) ≤ (l.length : Int) := by omega
      simp only [impl_AnswerTimes.l1, impl_AnswerTimes.j2, e1, if_true, show decide ((-1 : Int) < 0) = true from rfl, e2, e3, toNat_i, Option.bind_some]
  have := run_loop2 (fun k i (s : List Int) => impl_AnswerTimes.l0 k l s l (l.length : Int) i) l.length (fun i => (List.range i).map (ans l)) ((List.range l.length).map (ans l), true)
    (Ev.at 1 0 (fun k _ => by
      have e1 : ¬ ((l.length : Int) < (l.length : Int)) := by omega
      simp only [impl_AnswerTimes.l0, e1, if_false]))
    (fun i hi res hres => by
      have hc := hg i hi
      simp only [okChore, decide_eq_true_eq] at hc
      have e1 : (i : Int) < (l.length : Int) := by omega
      have e2 : (0 : Int) ≤ (i : Int) := by omega
      have := hB i hi ((List.range i).map (ans l)) (by simp; omega) (rd_T83 l (i : Int)).f0 (rd_T83 l (i : Int)).f1 (rd_T83 l (i : Int)).f2 res (by omega) _ (rd_T83 l (i : Int)).f1 (by omega) rfl (by
        rw [List.range_succ, List.map_append] at hres
        exact hres)
      refine Ev.back 1 0 (fun k _ => ?_) this
      simp only [impl_AnswerTimes.l0, e1, e2, if_true]) 0 (Nat.zero_le _)
  simpa using this
theorem FnExactAnswerTimes : ∀ (l0 : List (S85)), ((∀ (zl0 : S85), zl0 ∈ l0 → ((Lit.int .i64 zl0.f0).wf = true ∧ (Lit.int .i64 zl0.f1).wf = true ∧ (Lit.int .i64 zl0.f2).wf = true)) ∧ l0.length * 24 ≤ 140737488351232) → ∃ k, laws_FnExactAnswerTimes.f k l0 = some true := by
  intro l ⟨_, hl⟩
  have hs := szChoreS_eq l (by omega) 1048576 (by omega) (by omega)
  by_cases hn : (l.length : Int) > 1048576
  · exact ⟨0, by simp [laws_FnExactAnswerTimes.f, hs, hn]⟩
  · have hn' : ¬ ((1048576 : Int) - l.length < 0) := by omega
    have hlm : (l.map cChoreS).length = l.length := List.length_map ..
    obtain ⟨K1, h1⟩ := toChoreS_ev l (by omega)
    generalize l.map cChoreS = L at *
    obtain ⟨K2, h2⟩ := spec_chores L (by omega)
    obtain ⟨K3, h3⟩ := impl_chores L (by omega)
    obtain ⟨K4, h4⟩ := eqChoreS_ev L (by omega)
    have both : ∃ r : List Int × Bool, r.1.length ≤ L.length ∧ ∃ K, ∀ k, K ≤ k → spec_AnswerTimes.f k L = some r ∧ impl_AnswerTimes.f k L = some r := by
      by_cases hg : goodChores L = true
      · have hg' := hg
        unfold goodChores at hg'
        rw [Bool.and_eq_true, range_all, decide_eq_true_eq] at hg'
        obtain ⟨K5, h5⟩ := spec_ans L hg'.1.2 hg'.2
        obtain ⟨K6, h6⟩ := impl_ans L hg'.1.2 hg'.2
        refine ⟨((List.range L.length).map (ans L), true), by simp, K2 + K3 + K5 + K6, fun k hk => ?_⟩
        have h2' := h2 k (by omega)
        have h3' := h3 k (by omega)
        have h5' := h5 k (by omega)
        have h6' := h6 k (by omega)
        simp only [hg] at h2' h3' h5' h6'
        have e1 : (0 : Int) ≤ (L.length : Int) := by omega
        have e2 : L.length ≤ 100 := by omega
        refine ⟨?_, ?_⟩
        · simp only [spec_AnswerTimes.f, h2', Option.bind_some, if_true, e1, toNat_i]
          rw [if_pos (by omega), h5']
        · simp only [impl_AnswerTimes.f, h3', Option.bind_some, if_true, h6']
      · rw [Bool.not_eq_true] at hg
        refine ⟨([], false), by simp, K2 + K3, fun k hk => ?_⟩
        have h2' := h2 k (by omega)
        have h3' := h3 k (by omega)
        simp only [hg] at h2' h3'
        simp only [spec_AnswerTimes.f, impl_AnswerTimes.f, h2', h3', Option.bind_some, Bool.false_eq_true, if_false, and_self]
    obtain ⟨⟨G, b⟩, hG, K5, h5⟩ := both
    simp only at hG
    obtain ⟨K6, h6⟩ := eqIntS_ev G (by omega)
    obtain ⟨K7, h7⟩ := markChoreS_ev L (by omega)
    obtain ⟨K8, h8⟩ := markIntS_ev G (by omega)
    obtain ⟨K9, h9⟩ := heldIntS_ev G.length (by omega)
    have h5a : ∀ k, K5 ≤ k → spec_AnswerTimes.f k L = some (G, b) := fun k hk => (h5 k hk).1
    have h5b : ∀ k, K5 ≤ k → impl_AnswerTimes.f k L = some (G, b) := fun k hk => (h5 k hk).2
    have hneg : ¬ ((1 : Int) + ((3 : Nat) : Int) * (L.length : Int) < 0) := by omega
    have hneg2 : ¬ ((1 : Int) + ((1 : Nat) : Int) * (G.length : Int) < 0) := by omega
    generalize ((List.range G.length).map fun (j : Nat) => id (1 + ((1 : Nat) : Int) * (j : Int))) = M at *
    generalize ((List.range L.length).map fun (j : Nat) => (fun m => (⟨m, m + 1, m + 2⟩ : S83)) (1 + ((3 : Nat) : Int) * (j : Int))) = M2 at *
    have e2 : ∀ k, K9 ≤ k → laws_FnExactAnswerTimes.j2 (k + 1) M (1 + ((1 : Nat) : Int) * (G.length : Int)) false = some true := by
      intro k hk
      have h9' := h9 k hk
      simp only at h9'
      simp only [laws_FnExactAnswerTimes.j2, Bool.false_eq_true, if_false, h9', Option.bind_some, hneg2, if_true]
    have e1 : ∀ k, K1 + K5 + K6 + K8 + K9 ≤ k → laws_FnExactAnswerTimes.j1 (k + 2) l G b G false = some true := by
      intro k hk
      have h8' := h8 (k + 1) (by omega)
      have h9' := h9 (k + 1) (by omega)
      have h1' := h1 (k + 1) (by omega)
      have h5' := h5b (k + 1) (by omega)
      have h6' := h6 (k + 1) (by omega)
      have e2' := e2 k (by omega)
      simp only at h8' h9' h1' h6'
      simp only [laws_FnExactAnswerTimes.j1, Bool.false_eq_true, if_false, h8', h9', h1', h5', h6', Option.bind_some, hneg2, if_true, bne_self_eq_false, e2']
    have e0 : ∀ k, K1 + K4 + K5 + K6 + K7 + K8 + K9 ≤ k → laws_FnExactAnswerTimes.j0 (k + 3) l G b L G b false = some true := by
      intro k hk
      have h1' := h1 (k + 2) (by omega)
      have h4' := h4 (k + 2) (by omega)
      have h6' := h6 (k + 2) (by omega)
      have h7' := h7 (k + 2) (by omega)
      have e1' := e1 k (by omega)
      simp only at h1' h4' h6' h7'
      simp only [laws_FnExactAnswerTimes.j0, Bool.false_eq_true, if_false, h1', h4', h6', h7', Option.bind_some, hneg, if_true, bne_self_eq_false, e1']
    refine ⟨K1 + K2 + K3 + K4 + K5 + K6 + K7 + K8 + K9 + 3, ?_⟩
    have h1' := h1 (K1 + K2 + K3 + K4 + K5 + K6 + K7 + K8 + K9 + 3) (by omega)
    have h5c := h5a (K1 + K2 + K3 + K4 + K5 + K6 + K7 + K8 + K9 + 3) (by omega)
    have h5d := h5b (K1 + K2 + K3 + K4 + K5 + K6 + K7 + K8 + K9 + 3) (by omega)
    have h6' := h6 (K1 + K2 + K3 + K4 + K5 + K6 + K7 + K8 + K9 + 3) (by omega)
    have e0' := e0 (K1 + K2 + K3 + K4 + K5 + K6 + K7 + K8 + K9) (by omega)
    simp only at h1' h6'
    simp only [laws_FnExactAnswerTimes.f, hs, hn, if_false, Option.bind_some, hn', h1', h5c, h5d, h6', if_true, bne_self_eq_false, e0']

end Go.Proofs.Ytlilbhngffibeaa.Pure
