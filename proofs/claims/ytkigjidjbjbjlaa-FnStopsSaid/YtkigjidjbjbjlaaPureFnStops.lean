/- 'FnStops': for every input, with the drawn gear, presses and fault, the program's run and the reference's agree on whether it is one; its rows are as long as asked for; the torque stays within nothing and the most, and from the bound on behind the first press there is none and nothing is let through. No condition. -/
import Derived.Test.YtkigjidjbjbjlaaQFnStopsx8
import Derived.Test.YtkigjidjbjbjlaaPlain
namespace Go.Proofs.Ytkigjidjbjbjlaa.Pure
open Go.RowKit Go.Proofs.Ytkigjidjbjbjlaa.PFnStops Go.Proofs.Ytkigjidjbjbjlaa.Plain Go.Proofs.YtkigjidjbjbjlaaW.PrintWords Go.Proofs.YtkigjidjbjbjlaaW.PrintLast
set_option linter.unusedVariables false
set_option linter.unusedSimpArgs false

theorem between_eq (a lo hi : Int) : impl_between.f a lo hi = some (decide (lo ≤ a ∧ a ≤ hi)) := by
  unfold impl_between.f
  split <;> simp <;> omega
def gearOk (a b c d e : Int) : Bool := decide (a ≥ 0 ∧ a ≤ 10 ∧ c ≥ 1 ∧ c ≤ 10 ∧ b ≥ c ∧ b ≤ 30 ∧ d ≥ 1 ∧ d ≤ 1000 ∧ e ≥ 1 ∧ e ≤ 1000)
theorem spec_gear (a b c d e : Int) : spec_GoodGear.f a b c d e = some (gearOk a b c d e) := by
  unfold spec_GoodGear.f gearOk
  repeat' split
  all_goals (simp only [Option.some.injEq]; first | (rw [eq_comm, decide_eq_false_iff_not]; omega) | (apply decide_eq_decide.2; omega))
theorem impl_gear (a b c d e : Int) : impl_GoodGear.f a b c d e = some (gearOk a b c d e) := by
  simp only [impl_GoodGear.f, between_eq, Option.bind_some, decide_eq_true_eq, gearOk]
  repeat' split
  all_goals (simp only [Option.some.injEq]; first | (rw [eq_comm, decide_eq_false_iff_not]; omega) | (apply decide_eq_decide.2; omega))
def prOk (L : List S36) (i : Nat) : Bool := decide (0 ≤ (rd_T36 L (i : Int)).f0 ∧ (rd_T36 L (i : Int)).f0 < (rd_T36 L (i : Int)).f1 ∧ (rd_T36 L (i : Int)).f1 ≤ 200 ∧ (0 < i → (rd_T36 L ((i - 1 : Nat) : Int)).f1 < (rd_T36 L (i : Int)).f0))
theorem prOk_yes {L : List S36} {i : Nat} (h : prOk L i = true) : ¬ (rd_T36 L (i : Int)).f0 < 0 ∧ ¬ (rd_T36 L (i : Int)).f1 ≤ (rd_T36 L (i : Int)).f0 ∧ ¬ (rd_T36 L (i : Int)).f1 > 200 ∧ (0 < i → ¬ (rd_T36 L (i : Int)).f0 ≤ (rd_T36 L ((i - 1 : Nat) : Int)).f1) := by
  simp only [prOk, decide_eq_true_eq] at h
  refine ⟨by omega, by omega, by omega, fun h0 => ?_⟩
  have := h.2.2.2 h0
  omega
theorem spec_pr (L : List S36) (hl : L.length ≤ 1048576) : Ev (fun k => spec_l26Presses.l0 k L L (L.length : Int) 0) (if (List.range L.length).all (prOk L) = true then true else false) := by
  refine all_loop (fun k i => spec_l26Presses.l0 k L L (L.length : Int) i) L.length (prOk L) true false (Ev.next ⟨0, fun k _ => by simp [spec_l26Presses.l0]⟩) ?_ ?_
  · intro i hi hp
    obtain ⟨p1, p2, p3, p4⟩ := prOk_yes hp
    refine ⟨0, fun k _ => ?_⟩
    have h1 : (i : Int) < (L.length : Int) := by omega
    have h2 : (0 : Int) ≤ (i : Int) := by omega
    simp only [spec_l26Presses.l0, h1, h2, p1, p2, p3, if_true, if_false]
    by_cases h0 : 0 < i
    · have h3 : (i : Int) > 0 := by omega
      have hw := wrap_pred i (by omega) h0
      have p4' := p4 h0
      have h4 : (0 : Int) ≤ ((i - 1 : Nat) : Int) := by omega
      have h5 : ((i - 1 : Nat) : Int) < (L.length : Int) := by omega
      simp only [h3, hw, h4, h5, p4', if_true, if_false, wrap_succ i (by omega)]
    · have h3 : ¬ (i : Int) > 0 := by omega
      simp only [h3, if_false, wrap_succ i (by omega)]
  · intro i hi hp
    refine ⟨0, fun k _ => ?_⟩
    have h1 : (i : Int) < (L.length : Int) := by omega
    have h2 : (0 : Int) ≤ (i : Int) := by omega
    simp only [spec_l26Presses.l0, h1, h2, if_true]
    by_cases p1 : (rd_T36 L (i : Int)).f0 < 0
    · simp only [p1, if_true]
    by_cases p2 : (rd_T36 L (i : Int)).f1 ≤ (rd_T36 L (i : Int)).f0
    · simp only [p1, p2, if_true, if_false]
    by_cases p3 : (rd_T36 L (i : Int)).f1 > 200
    · simp only [p1, p2, p3, if_true, if_false]
    have p4 : ¬ (0 < i → (rd_T36 L ((i - 1 : Nat) : Int)).f1 < (rd_T36 L (i : Int)).f0) := by
      intro h4
      have : prOk L i = true := by
        simp only [prOk, decide_eq_true_eq]
        exact ⟨by omega, by omega, by omega, h4⟩
      rw [this] at hp
      cases hp
    have h0 : 0 < i := by
      by_cases h0 : 0 < i
      · exact h0
      · exact absurd (fun h => absurd h h0) p4
    have p5 : (rd_T36 L (i : Int)).f0 ≤ (rd_T36 L ((i - 1 : Nat) : Int)).f1 := by
      by_cases p5 : (rd_T36 L (i : Int)).f0 ≤ (rd_T36 L ((i - 1 : Nat) : Int)).f1
      · exact p5
      · exact absurd (fun _ => by omega) p4
    have h3 : (i : Int) > 0 := by omega
    have hw := wrap_pred i (by omega) h0
    have h4 : (0 : Int) ≤ ((i - 1 : Nat) : Int) := by omega
    have h5 : ((i - 1 : Nat) : Int) < (L.length : Int) := by omega
    simp only [p1, p2, p3, h3, hw, h4, h5, p5, if_true, if_false]
theorem impl_pr (L : List S36) (hl : L.length ≤ 1048576) : Ev (fun k => impl_goodPresses.l0 k L L (L.length : Int) 0) (if (List.range L.length).all (prOk L) = true then decide ((L.length : Int) ≤ 6) else false) := by
  refine all_loop (fun k i => impl_goodPresses.l0 k L L (L.length : Int) i) L.length (prOk L) (decide ((L.length : Int) ≤ 6)) false (Ev.next ⟨0, fun k _ => by simp [impl_goodPresses.l0]⟩) ?_ ?_
  · intro i hi hp
    obtain ⟨p1, p2, p3, p4⟩ := prOk_yes hp
    refine ⟨0, fun k _ => ?_⟩
    have h1 : (i : Int) < (L.length : Int) := by omega
    have h2 : (0 : Int) ≤ (i : Int) := by omega
    simp only [impl_goodPresses.l0, h1, h2, p1, p2, p3, if_true, if_false]
    by_cases h0 : 0 < i
    · have h3 : (i : Int) > 0 := by omega
      have hw := wrap_pred i (by omega) h0
      have p4' := p4 h0
      have h4 : (0 : Int) ≤ ((i - 1 : Nat) : Int) := by omega
      have h5 : ((i - 1 : Nat) : Int) < (L.length : Int) := by omega
      simp only [h3, hw, h4, h5, p4', if_true, if_false, wrap_succ i (by omega)]
    · have h3 : ¬ (i : Int) > 0 := by omega
      simp only [h3, if_false, wrap_succ i (by omega)]
  · intro i hi hp
    refine ⟨0, fun k _ => ?_⟩
    have h1 : (i : Int) < (L.length : Int) := by omega
    have h2 : (0 : Int) ≤ (i : Int) := by omega
    simp only [impl_goodPresses.l0, h1, h2, if_true]
    by_cases p1 : (rd_T36 L (i : Int)).f0 < 0
    · simp only [p1, if_true]
    by_cases p2 : (rd_T36 L (i : Int)).f1 ≤ (rd_T36 L (i : Int)).f0
    · simp only [p1, p2, if_true, if_false]
    by_cases p3 : (rd_T36 L (i : Int)).f1 > 200
    · simp only [p1, p2, p3, if_true, if_false]
    have p4 : ¬ (0 < i → (rd_T36 L ((i - 1 : Nat) : Int)).f1 < (rd_T36 L (i : Int)).f0) := by
      intro h4
      have : prOk L i = true := by
        simp only [prOk, decide_eq_true_eq]
        exact ⟨by omega, by omega, by omega, h4⟩
      rw [this] at hp
      cases hp
    have h0 : 0 < i := by
      by_cases h0 : 0 < i
      · exact h0
      · exact absurd (fun h => absurd h h0) p4
    have p5 : (rd_T36 L (i : Int)).f0 ≤ (rd_T36 L ((i - 1 : Nat) : Int)).f1 := by
      by_cases p5 : (rd_T36 L (i : Int)).f0 ≤ (rd_T36 L ((i - 1 : Nat) : Int)).f1
      · exact p5
      · exact absurd (fun _ => by omega) p4
    have h3 : (i : Int) > 0 := by omega
    have hw := wrap_pred i (by omega) h0
    have h4 : (0 : Int) ≤ ((i - 1 : Nat) : Int) := by omega
    have h5 : ((i - 1 : Nat) : Int) < (L.length : Int) := by omega
    simp only [p1, p2, p3, h3, hw, h4, h5, p5, if_true, if_false]
def prAll (L : List S36) : Bool := decide ((L.length : Int) ≤ 6) && (List.range L.length).all (prOk L)
theorem spec_presses (L : List S36) (hl : L.length ≤ 1048576) : Ev (fun k => spec_l26Presses.f k L) (prAll L) := by
  unfold prAll
  by_cases h6 : (L.length : Int) > 6
  · have h6' : ¬ (L.length : Int) ≤ 6 := by omega
    exact ⟨0, fun k _ => by simp only [spec_l26Presses.f, h6, if_true, h6', decide_false, Bool.false_and]⟩
  · have h6' : (L.length : Int) ≤ 6 := by omega
    have h := spec_pr L hl
    refine Ev.congr (fun k => by simp only [spec_l26Presses.f, h6, if_false]) (?_ : Ev (fun k => spec_l26Presses.l0 k L L (L.length : Int) 0) _)
    cases hb : (List.range L.length).all (prOk L) with
    | true => rw [hb] at h; simpa [h6'] using h
    | false => rw [hb] at h; simpa [h6'] using h
theorem impl_presses (L : List S36) (hl : L.length ≤ 1048576) : Ev (fun k => impl_goodPresses.f k L) (prAll L) := by
  unfold prAll
  have h := impl_pr L hl
  refine Ev.congr (fun k => by simp only [impl_goodPresses.f]) (?_ : Ev (fun k => impl_goodPresses.l0 k L L (L.length : Int) 0) _)
  cases hb : (List.range L.length).all (prOk L) with
  | true => rw [hb] at h; simpa using h
  | false => rw [hb] at h; simpa using h
theorem first_low (L : List S36) (h : ∀ i, i < L.length → prOk L i = true) : ∀ i : Nat, i < L.length → (rd_T36 L 0).f0 ≤ (rd_T36 L (i : Int)).f0 := by
  intro i
  induction i with
  | zero => intro _; exact Int.le_refl _
  | succ i ih =>
    intro hi
    have h1 := ih (by omega)
    have h2 := h i (by omega)
    have h3 := h (i + 1) hi
    simp only [prOk, decide_eq_true_eq] at h2 h3
    have h4 := h3.2.2.2 (by omega)
    simp only [Nat.add_sub_cancel] at h4
    omega
def held (L : List S36) (t : Int) : Bool := decide (0 < L.length ∧ (rd_T36 L 0).f0 ≤ t)
theorem spec_seen (L : List S36) (hl : L.length ≤ 1048576) (hp : prAll L = true) (t : Int) : Ev (fun k => spec_l26Seen.f k L t) (held L t) := by
  have h := all_loop (fun k i => spec_l26Seen.l0 k t L (L.length : Int) i) L.length (fun i => !decide ((rd_T36 L (i : Int)).f0 ≤ t)) false true (Ev.next ⟨0, fun k _ => by simp [spec_l26Seen.l0]⟩)
    (fun i hi hp => ⟨0, fun k _ => by
      have h1 : (i : Int) < (L.length : Int) := by omega
      have h2 : (0 : Int) ≤ (i : Int) := by omega
      have h3 : ¬ (rd_T36 L (i : Int)).f0 ≤ t := by simpa using hp
      simp only [spec_l26Seen.l0, h1, h2, h3, if_true, if_false, wrap_succ i (by omega)]⟩)
    (fun i hi hp => ⟨0, fun k _ => by
      have h1 : (i : Int) < (L.length : Int) := by omega
      have h2 : (0 : Int) ≤ (i : Int) := by omega
      have h3 : (rd_T36 L (i : Int)).f0 ≤ t := by simpa using hp
      simp only [spec_l26Seen.l0, h1, h2, h3, if_true]⟩)
  have e : (if (List.range L.length).all (fun i => !decide ((rd_T36 L (i : Int)).f0 ≤ t)) = true then false else true) = held L t := by
    simp only [prAll, Bool.and_eq_true, range_all] at hp
    have hlow := first_low L hp.2
    by_cases hh : 0 < L.length ∧ (rd_T36 L 0).f0 ≤ t
    · have h1 : ¬ (List.range L.length).all (fun i => !decide ((rd_T36 L (i : Int)).f0 ≤ t)) = true := by
        rw [range_all]
        intro h2
        have h3 := h2 0 hh.1
        simp only [Bool.not_eq_true', decide_eq_false_iff_not] at h3
        exact h3 hh.2
      rw [if_neg h1]
      simp [held, hh]
    · have h1 : (List.range L.length).all (fun i => !decide ((rd_T36 L (i : Int)).f0 ≤ t)) = true := by
        rw [range_all]
        intro i hi
        have h2 := hlow i hi
        simp only [Bool.not_eq_true', decide_eq_false_iff_not]
        intro h3
        exact hh ⟨by omega, by omega⟩
      rw [if_pos h1]
      simp only [held, hh, decide_false]
  rw [e] at h
  exact h
theorem fn1_eq (a f t fr : Int) : impl_RunStops_fn1.f a f t fr = some (decide (t ≥ fr) && (f == a)) := by
  unfold impl_RunStops_fn1.f
  by_cases h : f = a
  · simp [h]
  · simp [h]
def nBeat (f fr t b c : Int) : Int := if (decide (Int.tmod t c = 0) && !(decide (t ≥ fr) && (f == 5))) = true then t else b
def nOff (k f fr t b g : Int) (se : Bool) : Bool := (se && !(decide (t ≥ fr) && (f == k))) || decide ((wrap64 (t - b)) > g)
def nThru (f fr t : Int) (y0 y1 : Bool) : Bool := (y0 || (decide (t ≥ fr) && (f == 3))) && (y1 || (decide (t ≥ fr) && (f == 4)))
def nTorque (q d e : Int) (th : Bool) : Int := if th = true then mn (wrap64 (q + d)) e else mx (wrap64 (q - d)) 0
theorem sl0 (k : Nat) (L : List S36) (f fr n b q : Int) (o : List Int) (h : List Bool) (t g0 g1 g2 g3 g4 : Int) (y0 y1 : Bool) (h1 : t < n) (h2 : ¬ g2 = 0) :
    spec_RunStops.l0 (k + 1) L f fr n b q o h t g0 g1 g2 g3 g4 y0 y1 = spec_RunStops.j2 k L f fr n b q o h t (decide (t ≥ fr)) (decide (Int.tmod t g2 = 0) && !(decide (t ≥ fr) && (f == 5))) g0 g1 g2 g3 g4 y0 y1 := by
  simp only [spec_RunStops.l0, h1, h2, if_true, if_false]
  by_cases h3 : Int.tmod t g2 = 0
  · by_cases h4 : t ≥ fr
    · simp [h3, h4]
    · simp [h3, h4]
  · simp [h3]
theorem sj2 (k : Nat) (L : List S36) (f fr n b q : Int) (o : List Int) (h : List Bool) (t g0 g1 g2 g3 g4 : Int) (y0 y1 fl x : Bool) :
    spec_RunStops.j2 (k + 1) L f fr n b q o h t fl x g0 g1 g2 g3 g4 y0 y1 = spec_RunStops.j3 k L f fr n (if x = true then t else b) q o h t fl g0 g1 g2 g3 g4 y0 y1 := by
  cases x <;> simp [spec_RunStops.j2]
theorem sj3 (k : Nat) (L : List S36) (f fr n b q : Int) (o : List Int) (h : List Bool) (t g0 g1 g2 g3 g4 : Int) (y0 y1 fl se : Bool) (hs : spec_l26Seen.f k L (wrap64 (t - g0)) = some se) :
    spec_RunStops.j3 (k + 1) L f fr n b q o h t fl g0 g1 g2 g3 g4 y0 y1 = spec_RunStops.j4 k L f fr n b q o h t fl se (fl && (f == 1)) g0 g1 g2 g3 g4 y0 y1 := by
  cases fl <;> simp [spec_RunStops.j3, hs]
theorem sj4 (k : Nat) (L : List S36) (f fr n b q : Int) (o : List Int) (h : List Bool) (t g0 g1 g2 g3 g4 : Int) (y0 y1 fl se df : Bool) :
    spec_RunStops.j4 (k + 1) L f fr n b q o h t fl se df g0 g1 g2 g3 g4 y0 y1 = spec_RunStops.j5 k L f fr n b q o h t fl se ((se && !df) || decide ((wrap64 (t - b)) > g1)) g0 g1 g2 g3 g4 y0 y1 := by
  cases se <;> cases df <;> simp [spec_RunStops.j4]
theorem sj5 (k : Nat) (L : List S36) (f fr n b q : Int) (o : List Int) (h : List Bool) (t g0 g1 g2 g3 g4 : Int) (y0 y1 fl se x : Bool) :
    spec_RunStops.j5 (k + 1) L f fr n b q o h t fl se x g0 g1 g2 g3 g4 y0 y1 = spec_RunStops.j6 k L f fr n b q o h t fl se g0 g1 g2 g3 g4 (y0 && !x) y1 := by
  cases x <;> simp [spec_RunStops.j5]
theorem sj6 (k : Nat) (L : List S36) (f fr n b q : Int) (o : List Int) (h : List Bool) (t g0 g1 g2 g3 g4 : Int) (y0 y1 fl se : Bool) :
    spec_RunStops.j6 (k + 1) L f fr n b q o h t fl se g0 g1 g2 g3 g4 y0 y1 = spec_RunStops.j7 k L f fr n b q o h t fl se (fl && (f == 2)) g0 g1 g2 g3 g4 y0 y1 := by
  cases fl <;> simp [spec_RunStops.j6]
theorem sj7 (k : Nat) (L : List S36) (f fr n b q : Int) (o : List Int) (h : List Bool) (t g0 g1 g2 g3 g4 : Int) (y0 y1 fl se df : Bool) :
    spec_RunStops.j7 (k + 1) L f fr n b q o h t fl se df g0 g1 g2 g3 g4 y0 y1 = spec_RunStops.j8 k L f fr n b q o h t fl ((se && !df) || decide ((wrap64 (t - b)) > g1)) g0 g1 g2 g3 g4 y0 y1 := by
  cases se <;> cases df <;> simp [spec_RunStops.j7]
theorem sj8 (k : Nat) (L : List S36) (f fr n b q : Int) (o : List Int) (h : List Bool) (t g0 g1 g2 g3 g4 : Int) (y0 y1 fl x : Bool) :
    spec_RunStops.j8 (k + 1) L f fr n b q o h t fl x g0 g1 g2 g3 g4 y0 y1 = spec_RunStops.j9 k L f fr n b q o h t fl g0 g1 g2 g3 g4 y0 (y1 && !x) := by
  cases x <;> simp [spec_RunStops.j8]
theorem sj9 (k : Nat) (L : List S36) (f fr n b q : Int) (o : List Int) (h : List Bool) (t g0 g1 g2 g3 g4 : Int) (y0 y1 fl : Bool) :
    spec_RunStops.j9 (k + 1) L f fr n b q o h t fl g0 g1 g2 g3 g4 y0 y1 = spec_RunStops.j10 k L f fr n b q o h t fl true (fl && (f == 3)) g0 g1 g2 g3 g4 y0 y1 := by
  cases fl <;> simp [spec_RunStops.j9]
theorem sj10 (k : Nat) (L : List S36) (f fr n b q : Int) (o : List Int) (h : List Bool) (t g0 g1 g2 g3 g4 : Int) (y0 y1 fl st : Bool) :
    spec_RunStops.j10 (k + 1) L f fr n b q o h t fl true st g0 g1 g2 g3 g4 y0 y1 = spec_RunStops.j11 k L f fr n b q o h t fl (y0 || st) g0 g1 g2 g3 g4 y0 y1 := by
  cases y0 <;> simp [spec_RunStops.j10]
theorem sj11 (k : Nat) (L : List S36) (f fr n b q : Int) (o : List Int) (h : List Bool) (t g0 g1 g2 g3 g4 : Int) (y0 y1 fl th : Bool) :
    spec_RunStops.j11 (k + 1) L f fr n b q o h t fl th g0 g1 g2 g3 g4 y0 y1 = spec_RunStops.j12 k L f fr n b q o h t th (fl && (f == 4)) g0 g1 g2 g3 g4 y0 y1 := by
  cases fl <;> simp [spec_RunStops.j11]
theorem sj12 (k : Nat) (L : List S36) (f fr n b q : Int) (o : List Int) (h : List Bool) (t g0 g1 g2 g3 g4 : Int) (y0 y1 th st : Bool) :
    spec_RunStops.j12 (k + 1) L f fr n b q o h t th st g0 g1 g2 g3 g4 y0 y1 = spec_RunStops.j13 k L f fr n b q o h t (th && (y1 || st)) g0 g1 g2 g3 g4 y0 y1 := by
  cases th <;> cases y1 <;> simp [spec_RunStops.j12]
theorem cut_up (q d e : Int) (hq : 0 ≤ q) (hqe : q ≤ e) (he : e ≤ 1000) (hd : 1 ≤ d) (hd2 : d ≤ 1000) : spec_l13Cut.f (wrap64 (q + d)) 0 e = some (mn (wrap64 (q + d)) e) := by
  rw [wrap_in (by omega) (by omega)]
  unfold spec_l13Cut.f mn
  rw [if_neg (by omega)]
  by_cases h : q + d > e
  · rw [if_pos h, if_pos (by omega)]
  · rw [if_neg h, if_neg (by omega)]
theorem cut_down (q d e : Int) (hq : 0 ≤ q) (hqe : q ≤ e) (he : e ≤ 1000) (hd : 1 ≤ d) (hd2 : d ≤ 1000) : spec_l13Cut.f (wrap64 (q - d)) 0 e = some (mx (wrap64 (q - d)) 0) := by
  rw [wrap_in (by omega) (by omega)]
  unfold spec_l13Cut.f mx
  by_cases h : q - d < 0
  · rw [if_pos h, if_pos h]
  · rw [if_neg h, if_neg h, if_neg (by omega)]
theorem sj13 (k : Nat) (L : List S36) (f fr n b q : Int) (o : List Int) (h : List Bool) (t g0 g1 g2 g3 g4 : Int) (y0 y1 th : Bool) (hq : 0 ≤ q) (hqe : q ≤ g4) (he : g4 ≤ 1000) (hd : 1 ≤ g3) (hd2 : g3 ≤ 1000) (ho : o.length ≤ 1000) (hh : h.length ≤ 1000) :
    spec_RunStops.j13 (k + 1) L f fr n b q o h t th g0 g1 g2 g3 g4 y0 y1 = spec_RunStops.l0 k L f fr n b (nTorque q g3 g4 th) (o ++ [nTorque q g3 g4 th]) (h ++ [th]) (wrap64 (t + 1)) g0 g1 g2 g3 g4 y0 y1 := by
  have e1 : o.length < 17592186044416 := by omega
  have e2 : h.length < 140737488355328 := by omega
  cases th <;> simp only [spec_RunStops.j13, cut_up q g3 g4 hq hqe he hd hd2, cut_down q g3 g4 hq hqe he hd hd2, Option.bind_some, e1, e2, if_true, nTorque, Bool.false_eq_true, if_false]
theorem s_round (L : List S36) (f fr n b q : Int) (o : List Int) (h : List Bool) (t g0 g1 g2 g3 g4 : Int) (y0 y1 se : Bool) (h1 : t < n) (h2 : ¬ g2 = 0) (hq : 0 ≤ q) (hqe : q ≤ g4) (he : g4 ≤ 1000) (hd : 1 ≤ g3) (hd2 : g3 ≤ 1000) (ho : o.length ≤ 1000) (hh : h.length ≤ 1000)
    (hs : Ev (fun k => spec_l26Seen.f k L (wrap64 (t - g0))) se) (b' : Int) (hb : b' = nBeat f fr t b g2) (y0' y1' th : Bool) (hy0 : y0' = (y0 && !nOff 1 f fr t b' g1 se)) (hy1 : y1' = (y1 && !nOff 2 f fr t b' g1 se)) (hth : th = nThru f fr t y0' y1') (q' : Int) (hq' : q' = nTorque q g3 g4 th) (r : List Int × List Bool × Bool)
    (hr : Ev (fun k => spec_RunStops.l0 k L f fr n b' q' (o ++ [q']) (h ++ [th]) (wrap64 (t + 1)) g0 g1 g2 g3 g4 y0' y1') r) : Ev (fun k => spec_RunStops.l0 k L f fr n b q o h t g0 g1 g2 g3 g4 y0 y1) r := by
  obtain ⟨K, hK⟩ := hs
  refine Ev.back 13 K (fun k hk => ?_) hr
  rw [sl0 (k + 12) L f fr n b q o h t g0 g1 g2 g3 g4 y0 y1 h1 h2, sj2 (k + 11), sj3 (k + 10) L f fr n _ q o h t g0 g1 g2 g3 g4 y0 y1 _ se (hK _ (by omega)), sj4 (k + 9), sj5 (k + 8), sj6 (k + 7), sj7 (k + 6), sj8 (k + 5), sj9 (k + 4), sj10 (k + 3), sj11 (k + 2), sj12 (k + 1), sj13 k _ _ _ _ _ _ _ _ _ _ _ _ _ _ _ _ _ hq hqe he hd hd2 ho hh]
  subst hq' hth hy0 hy1 hb
  rfl
theorem il0 (k : Nat) (L : List S36) (o : List Int) (h : List Bool) (q b n t g0 g1 g2 g3 g4 f fr : Int) (s0 s1 : Bool) (h1 : t < n) (h2 : ¬ g2 = 0) :
    impl_RunStops.l0 (k + 1) L o h q b n t g0 g1 g2 g3 g4 f fr s0 s1 = impl_RunStops.j2 k L o h q b n t (decide (Int.tmod t g2 = 0) && !(decide (t ≥ fr) && (f == 5))) g0 g1 g2 g3 g4 f fr s0 s1 t := by
  simp only [impl_RunStops.l0, h1, h2, if_true, if_false, fn1_eq, Option.bind_some]
  by_cases h3 : Int.tmod t g2 = 0
  · simp [h3]
  · simp [h3]
theorem ij2 (k : Nat) (L : List S36) (o : List Int) (h : List Bool) (q b n t g0 g1 g2 g3 g4 f fr : Int) (s0 s1 x : Bool) :
    impl_RunStops.j2 (k + 1) L o h q b n t x g0 g1 g2 g3 g4 f fr s0 s1 t = impl_RunStops.j3 k L o h q (if x = true then t else b) n t g0 g1 g2 g3 g4 f fr s0 s1 t := by
  cases x <;> simp [impl_RunStops.j2]
theorem ij3 (k : Nat) (L : List S36) (o : List Int) (h : List Bool) (q b n t g0 g1 g2 g3 g4 f fr : Int) (s0 s1 : Bool) :
    impl_RunStops.j3 (k + 1) L o h q b n t g0 g1 g2 g3 g4 f fr s0 s1 t = impl_RunStops.j4 k L o h q b (held L (wrap64 (t - g0))) n t g0 g1 g2 g3 g4 f fr s0 s1 t := by
  unfold impl_RunStops.j3 held
  by_cases h1 : (L.length : Int) > 0
  · have h2 : 0 < L.length := by omega
    have h3 : 0 < (L.length : Int) := by omega
    simp only [h1, h2, h3, if_true, true_and]
  · have h2 : ¬ 0 < L.length := by omega
    simp only [h1, h2, if_false, false_and, decide_false]
theorem ij4 (k : Nat) (L : List S36) (o : List Int) (h : List Bool) (q b n t g0 g1 g2 g3 g4 f fr : Int) (s0 s1 se : Bool) :
    impl_RunStops.j4 (k + 1) L o h q b se n t g0 g1 g2 g3 g4 f fr s0 s1 t = impl_RunStops.j5 k L o h q b se true n t (nOff 1 f fr t b g1 se) g0 g1 g2 g3 g4 f fr s0 s1 t := by
  cases se with
  | false => simp [impl_RunStops.j4, nOff]
  | true =>
    simp only [impl_RunStops.j4, fn1_eq, Option.bind_some, if_true, nOff, Int.add_zero]
    cases (decide (t ≥ fr) && f == 1) <;> simp
theorem ij5 (k : Nat) (L : List S36) (o : List Int) (h : List Bool) (q b n t g0 g1 g2 g3 g4 f fr : Int) (s0 s1 se th x : Bool) :
    impl_RunStops.j5 (k + 1) L o h q b se th n t x g0 g1 g2 g3 g4 f fr s0 s1 t = impl_RunStops.j6 k L o h q b se th n t g0 g1 g2 g3 g4 f fr (s0 || x) s1 t := by
  cases x <;> simp [impl_RunStops.j5]
theorem ij6 (k : Nat) (L : List S36) (o : List Int) (h : List Bool) (q b n t g0 g1 g2 g3 g4 f fr : Int) (s0 s1 se : Bool) :
    impl_RunStops.j6 (k + 1) L o h q b se true n t g0 g1 g2 g3 g4 f fr s0 s1 t = impl_RunStops.j7 k L o h q b se (!s0 || (decide (t ≥ fr) && (f == 3))) n t g0 g1 g2 g3 g4 f fr s0 s1 t := by
  cases s0 <;> simp [impl_RunStops.j6, fn1_eq]
theorem ij7 (k : Nat) (L : List S36) (o : List Int) (h : List Bool) (q b n t g0 g1 g2 g3 g4 f fr : Int) (s0 s1 se th : Bool) :
    impl_RunStops.j7 (k + 1) L o h q b se th n t g0 g1 g2 g3 g4 f fr s0 s1 t = impl_RunStops.j8 k L o h q b th n t (nOff 2 f fr t b g1 se) g0 g1 g2 g3 g4 f fr s0 s1 t := by
  cases se with
  | false => simp [impl_RunStops.j7, nOff]
  | true =>
    simp only [impl_RunStops.j7, fn1_eq, Option.bind_some, if_true, nOff, show (1 : Int) + 1 = 2 from rfl]
    cases (decide (t ≥ fr) && f == 2) <;> simp
theorem ij8 (k : Nat) (L : List S36) (o : List Int) (h : List Bool) (q b n t g0 g1 g2 g3 g4 f fr : Int) (s0 s1 th x : Bool) (ho : o.length ≤ 1000) (hh : h.length ≤ 1000) :
    impl_RunStops.j8 (k + 3) L o h q b th n t x g0 g1 g2 g3 g4 f fr s0 s1 t = impl_RunStops.l0 k L (o ++ [nTorque q g3 g4 (th && (!(s1 || x) || (decide (t ≥ fr) && (f == 4))))]) (h ++ [th && (!(s1 || x) || (decide (t ≥ fr) && (f == 4)))]) (nTorque q g3 g4 (th && (!(s1 || x) || (decide (t ≥ fr) && (f == 4))))) b n (wrap64 (t + 1)) g0 g1 g2 g3 g4 f fr s0 (s1 || x) := by
  have e1 : o.length < 17592186044416 := by omega
  have e2 : h.length < 140737488355328 := by omega
  simp only [impl_RunStops.j8, impl_RunStops.j9, impl_RunStops.j10, fn1_eq, Option.bind_some, e1, e2, if_true, show (3 : Int) + 1 = 4 from rfl]
  generalize (decide (t ≥ fr) && (f == 4)) = z
  cases x <;> cases th <;> cases s1 <;> cases z <;> simp [nTorque]
theorem i_round (L : List S36) (f fr n b q : Int) (o : List Int) (h : List Bool) (t g0 g1 g2 g3 g4 : Int) (y0 y1 se : Bool) (h1 : t < n) (h2 : ¬ g2 = 0) (ho : o.length ≤ 1000) (hh : h.length ≤ 1000)
    (hs : se = held L (wrap64 (t - g0))) (b' : Int) (hb : b' = nBeat f fr t b g2) (y0' y1' th : Bool) (hy0 : y0' = (y0 && !nOff 1 f fr t b' g1 se)) (hy1 : y1' = (y1 && !nOff 2 f fr t b' g1 se)) (hth : th = nThru f fr t y0' y1') (q' : Int) (hq' : q' = nTorque q g3 g4 th) (r : List Int × List Bool × Bool)
    (hr : Ev (fun k => impl_RunStops.l0 k L (o ++ [q']) (h ++ [th]) q' b' n (wrap64 (t + 1)) g0 g1 g2 g3 g4 f fr (!y0') (!y1')) r) : Ev (fun k => impl_RunStops.l0 k L o h q b n t g0 g1 g2 g3 g4 f fr (!y0) (!y1)) r := by
  refine Ev.back 10 0 (fun k _ => ?_) hr
  rw [il0 (k + 9) L o h q b n t g0 g1 g2 g3 g4 f fr _ _ h1 h2, ij2 (k + 8), ij3 (k + 7), ← hs, ij4 (k + 6), ij5 (k + 5), ij6 (k + 4), ij7 (k + 3), ij8 k _ _ _ _ _ _ _ _ _ _ _ _ _ _ _ _ _ _ ho hh]
  have e0 : (!y0 || nOff 1 f fr t b' g1 se) = !y0' := by rw [hy0]; cases y0 <;> cases nOff 1 f fr t b' g1 se <;> rfl
  have e1 : (!y1 || nOff 2 f fr t b' g1 se) = !y1' := by rw [hy1]; cases y1 <;> cases nOff 2 f fr t b' g1 se <;> rfl
  have eb : (if (decide (Int.tmod t g2 = 0) && !(decide (t ≥ fr) && (f == 5))) = true then t else b) = b' := hb.symm
  rw [eb, e0, e1]
  have et : ((!!y0' || (decide (t ≥ fr) && (f == 3))) && (!!y1' || (decide (t ≥ fr) && (f == 4)))) = th := by rw [hth, Bool.not_not, Bool.not_not]; rfl
  rw [et, ← hq']
def okAt (L : List S36) (g0 g3 g4 i x : Int) (z : Bool) : Prop := 0 ≤ x ∧ x ≤ g4 ∧ (0 < L.length → (rd_T36 L 0).f0 + (g0 + (g4 + g3 - 1) / g3) - 1 ≤ i → x = 0 ∧ z = false)
def allAt (L : List S36) (g0 g3 g4 : Int) (o : List Int) (h : List Bool) : Prop := ∀ i : Nat, i < o.length → okAt L g0 g3 g4 (i : Int) (rd o (i : Int)) (rdOf false h (i : Int))
def safe (f : Int) (y0 y1 : Bool) : Prop := if f = 1 ∨ f = 3 then y1 = false else y0 = false
theorem safe_thru {f : Int} (fr t : Int) {y0 y1 : Bool} (h : safe f y0 y1) : nThru f fr t y0 y1 = false := by
  unfold safe at h
  unfold nThru
  by_cases hf : f = 1 ∨ f = 3
  · rw [if_pos hf] at h
    have h4 : (f == 4) = false := by rw [beq_eq_false_iff_ne]; omega
    rw [h, h4]
    simp
  · rw [if_neg hf] at h
    have h3 : (f == 3) = false := by rw [beq_eq_false_iff_ne]; omega
    rw [h, h3]
    simp
theorem safe_next (f fr t b g : Int) (y0 y1 : Bool) : safe f (y0 && !nOff 1 f fr t b g true) (y1 && !nOff 2 f fr t b g true) := by
  unfold safe nOff
  by_cases hf : f = 1 ∨ f = 3
  · rw [if_pos hf]
    have h2 : (f == 2) = false := by rw [beq_eq_false_iff_ne]; omega
    rw [h2]
    simp
  · rw [if_neg hf]
    have h1 : (f == 1) = false := by rw [beq_eq_false_iff_ne]; omega
    rw [h1]
    simp
theorem allAt_app {L : List S36} {g0 g3 g4 : Int} {o : List Int} {h : List Bool} (hl : o.length = h.length) (ha : allAt L g0 g3 g4 o h) {x : Int} {z : Bool} (hx : okAt L g0 g3 g4 (o.length : Int) x z) : allAt L g0 g3 g4 (o ++ [x]) (h ++ [z]) := by
  intro i hi
  rw [List.length_append, List.length_cons, List.length_nil] at hi
  by_cases h1 : i < o.length
  · have := ha i h1
    have e1 : rd (o ++ [x]) (i : Int) = rd o (i : Int) := by simp [rd, List.getElem?_append_left h1]
    have e2 : rdOf false (h ++ [z]) (i : Int) = rdOf false h (i : Int) := by simp [rdOf, List.getElem?_append_left (show i < h.length by omega)]
    rw [e1, e2]
    exact this
  · obtain rfl : i = o.length := by omega
    have e1 : rd (o ++ [x]) (o.length : Int) = x := by simp [rd]
    have e2 : rdOf false (h ++ [z]) (o.length : Int) = z := by rw [hl]; simp [rdOf]
    rw [e1, e2]
    exact hx
theorem nTorque_in (q d e : Int) (th : Bool) (hq : 0 ≤ q) (hqe : q ≤ e) (he : e ≤ 1000) (hd : 1 ≤ d) (hd2 : d ≤ 1000) : 0 ≤ nTorque q d e th ∧ nTorque q d e th ≤ e := by
  unfold nTorque mn mx
  rw [wrap_in (by omega) (by omega), wrap_in (by omega) (by omega)]
  cases th
  · simp only [Bool.false_eq_true, if_false]
    split <;> omega
  · simp only [if_true]
    split <;> omega
theorem nTorque_down (q d e : Int) (hq : 0 ≤ q) (hqe : q ≤ e) (he : e ≤ 1000) (hd : 1 ≤ d) (hd2 : d ≤ 1000) : nTorque q d e false = 0 ∨ nTorque q d e false = q - d := by
  unfold nTorque mx
  rw [wrap_in (by omega) (by omega), wrap_in (by omega) (by omega)]
  simp only [Bool.false_eq_true, if_false]
  split
  · exact Or.inl rfl
  · exact Or.inr rfl
theorem ceil_le (e d : Int) (hd : 1 ≤ d) : e ≤ d * ((e + d - 1) / d) := by
  have h1 := Int.emod_add_ediv_mul (e + d - 1) d
  have h2 := Int.emod_lt_of_pos (e + d - 1) (show 0 < d by omega)
  rw [Int.mul_comm] at h1
  omega
theorem ceil_pos (e d : Int) (hd : 1 ≤ d) (he : 1 ≤ e) : 1 ≤ (e + d - 1) / d := by
  rw [Int.le_ediv_iff_mul_le (by omega)]
  omega
theorem stops_loop (L : List S36) (hL : L.length ≤ 1048576) (hp : prAll L = true) (g0 g1 g2 g3 g4 f fr n : Int) (hg : gearOk g0 g1 g2 g3 g4 = true) (hn : n ≤ 200) :
    ∀ (m : Nat) (b q : Int) (o : List Int) (h : List Bool) (t : Int) (y0 y1 : Bool), t + m = n → 0 ≤ t → 0 ≤ q → q ≤ g4 → (o.length : Int) = t → (h.length : Int) = t → allAt L g0 g3 g4 o h →
      (0 < L.length → (rd_T36 L 0).f0 + g0 < t → safe f y0 y1) → (0 < L.length → (rd_T36 L 0).f0 + g0 ≤ t → q = 0 ∨ q ≤ g4 - g3 * (t - ((rd_T36 L 0).f0 + g0))) →
      ∃ (G : List Int) (H : List Bool), (G.length : Int) = n ∧ (H.length : Int) = n ∧ allAt L g0 g3 g4 G H ∧ Ev (fun k => spec_RunStops.l0 k L f fr n b q o h t g0 g1 g2 g3 g4 y0 y1) (G, H, true) ∧
        Ev (fun k => impl_RunStops.l0 k L o h q b n t g0 g1 g2 g3 g4 f fr (!y0) (!y1)) (G, H, true) := by
  have hg' := hg
  simp only [gearOk, decide_eq_true_eq] at hg'
  intro m
  induction m with
  | zero =>
    intro b q o h t y0 y1 ht h0 hq hqe ho hh ha _ _
    refine ⟨o, h, by omega, by omega, ha, Ev.next ⟨0, fun k _ => ?_⟩, Ev.next ⟨0, fun k _ => ?_⟩⟩
    · have : ¬ t < n := by omega
      simp only [spec_RunStops.l0, this, if_false]
    · have : ¬ t < n := by omega
      simp only [impl_RunStops.l0, this, if_false]
  | succ m ih =>
    intro b q o h t y0 y1 ht h0 hq hqe ho hh ha hsf hto
    have h1 : t < n := by omega
    have h2 : ¬ g2 = 0 := by omega
    have hse := spec_seen L hL hp (wrap64 (t - g0))
    have hlo : 0 < L.length → 0 ≤ (rd_T36 L 0).f0 := by
      intro h3
      simp only [prAll, Bool.and_eq_true, range_all] at hp
      have h4 := hp.2 0 h3
      simp only [prOk, decide_eq_true_eq] at h4
      exact h4.1
    obtain ⟨se, hsed⟩ : ∃ se, se = held L (wrap64 (t - g0)) := ⟨_, rfl⟩
    rw [← hsed] at hse
    have hseen : 0 < L.length → (rd_T36 L 0).f0 + g0 ≤ t → se = true := by
      intro h3 h4
      rw [hsed, wrap_in (by omega) (by omega)]
      simp only [held, decide_eq_true_eq]
      exact ⟨h3, by omega⟩
    obtain ⟨b', hb'⟩ : ∃ b', b' = nBeat f fr t b g2 := ⟨_, rfl⟩
    obtain ⟨y0', hy0⟩ : ∃ y0', y0' = (y0 && !nOff 1 f fr t b' g1 se) := ⟨_, rfl⟩
    obtain ⟨y1', hy1⟩ : ∃ y1', y1' = (y1 && !nOff 2 f fr t b' g1 se) := ⟨_, rfl⟩
    obtain ⟨th, hth⟩ : ∃ th, th = nThru f fr t y0' y1' := ⟨_, rfl⟩
    obtain ⟨q', hq'⟩ : ∃ q', q' = nTorque q g3 g4 th := ⟨_, rfl⟩
    have hqi := nTorque_in q g3 g4 th hq hqe (by omega) (by omega) (by omega)
    rw [← hq'] at hqi
    have hw : wrap64 (t + 1) = t + 1 := wrap_in (by omega) (by omega)
    have hnew : 0 < L.length → (rd_T36 L 0).f0 + g0 ≤ t → safe f y0' y1' ∧ th = false ∧ (q' = 0 ∨ q' ≤ g4 - g3 * (t + 1 - ((rd_T36 L 0).f0 + g0))) := by
      intro h3 h4
      have h5 := hseen h3 h4
      have h6 : safe f y0' y1' := by
        rw [hy0, hy1, h5]
        exact safe_next f fr t b' g1 y0 y1
      have h7 : th = false := by rw [hth]; exact safe_thru fr t h6
      refine ⟨h6, h7, ?_⟩
      rw [h7] at hq'
      have h8 := nTorque_down q g3 g4 hq hqe (by omega) (by omega) (by omega)
      rw [← hq'] at h8
      have h9 := hto h3 h4
      have h10 : g3 * (t + 1 - ((rd_T36 L 0).f0 + g0)) = g3 * (t - ((rd_T36 L 0).f0 + g0)) + g3 := by
        rw [show t + 1 - ((rd_T36 L 0).f0 + g0) = (t - ((rd_T36 L 0).f0 + g0)) + 1 by omega, Int.mul_add, Int.mul_one]
      rw [h10]
      omega
    have hok : okAt L g0 g3 g4 (o.length : Int) q' th := by
      refine ⟨hqi.1, hqi.2, fun h3 h4 => ?_⟩
      have hc := ceil_pos g4 g3 (by omega) (by omega)
      have hc2 := ceil_le g4 g3 (by omega)
      rw [ho] at h4
      obtain ⟨_, h7, h8⟩ := hnew h3 (by omega)
      refine ⟨?_, h7⟩
      rcases h8 with h8 | h8
      · exact h8
      · have h9 : g3 * ((g4 + g3 - 1) / g3) ≤ g3 * (t + 1 - ((rd_T36 L 0).f0 + g0)) := Int.mul_le_mul_of_nonneg_left (by omega) (by omega)
        omega
    have hol : (o ++ [q']).length = o.length + 1 := by simp
    have hhl : (h ++ [th]).length = h.length + 1 := by simp
    obtain ⟨G, H, hG, hH, hA, hS, hI⟩ := ih b' q' (o ++ [q']) (h ++ [th]) (t + 1) y0' y1' (by omega) (by omega) hqi.1 hqi.2 (by omega) (by omega) (allAt_app (by omega) ha hok)
      (fun h3 h4 => (hnew h3 (by omega)).1)
      (fun h3 h4 => by
        by_cases h5 : (rd_T36 L 0).f0 + g0 ≤ t
        · exact (hnew h3 h5).2.2
        · have h6 : t + 1 - ((rd_T36 L 0).f0 + g0) = 0 := by omega
          rw [h6, Int.mul_zero]
          omega)
    refine ⟨G, H, hG, hH, hA, ?_, ?_⟩
    · rw [← hw] at hS
      exact s_round L f fr n b q o h t g0 g1 g2 g3 g4 y0 y1 se h1 h2 hq hqe (by omega) (by omega) (by omega) (by omega) (by omega) hse b' hb' y0' y1' th hy0 hy1 hth q' hq' _ hS
    · rw [← hw] at hI
      exact i_round L f fr n b q o h t g0 g1 g2 g3 g4 y0 y1 se h1 h2 (by omega) (by omega) hsed b' hb' y0' y1' th hy0 hy1 hth q' hq' _ hI
theorem stops_both (L : List S36) (hL : L.length ≤ 1048576) (g0 g1 g2 g3 g4 f fr n : Int) :
    ∃ (G : List Int) (H : List Bool) (z : Bool), G.length ≤ 1000 ∧ H.length ≤ 1000 ∧ (z = true → gearOk g0 g1 g2 g3 g4 = true ∧ prAll L = true ∧ (G.length : Int) = n ∧ (H.length : Int) = n ∧ allAt L g0 g3 g4 G H) ∧
      Ev (fun k => spec_RunStops.f k g0 g1 g2 g3 g4 L f fr n) (G, H, z) ∧ Ev (fun k => impl_RunStops.f k g0 g1 g2 g3 g4 L f fr n) (G, H, z) := by
  obtain ⟨K1, k1⟩ := spec_presses L hL
  obtain ⟨K2, k2⟩ := impl_presses L hL
  by_cases hall : gearOk g0 g1 g2 g3 g4 = true ∧ prAll L = true ∧ 0 ≤ f ∧ f ≤ 5 ∧ 0 ≤ fr ∧ fr ≤ 200 ∧ 0 ≤ n ∧ n ≤ 200
  · obtain ⟨hg, hp, hf0, hf5, hr0, hr2, hn0, hn2⟩ := hall
    have hg' := hg
    simp only [gearOk, decide_eq_true_eq] at hg'
    obtain ⟨G, H, hG, hH, hA, ⟨K3, k3⟩, ⟨K4, k4⟩⟩ := stops_loop L hL hp g0 g1 g2 g3 g4 f fr n hg hn2 n.toNat 0 g4 [] [] 0 true true (by omega) (by omega) (by omega) (by omega) rfl rfl (fun i hi => absurd hi (by simp))
      (fun h3 h4 => absurd h4 (by
        simp only [prAll, Bool.and_eq_true, range_all] at hp
        have h5 := hp.2 0 h3
        simp only [prOk, decide_eq_true_eq] at h5
        have h6 := h5.1
        simp only [Int.ofNat_zero, Int.natCast_zero] at h6
        omega))
      (fun h3 h4 => Or.inr (by
        simp only [prAll, Bool.and_eq_true, range_all] at hp
        have h5 := hp.2 0 h3
        simp only [prOk, decide_eq_true_eq] at h5
        have h6 := h5.1
        simp only [Int.ofNat_zero, Int.natCast_zero] at h6
        have h7 : (0 : Int) - ((rd_T36 L 0).f0 + g0) = 0 := by omega
        rw [h7, Int.mul_zero]
        omega))
    refine ⟨G, H, true, by omega, by omega, fun _ => ⟨hg, hp, hG, hH, hA⟩, ⟨K1 + K3 + 1, fun k hk => ?_⟩, ⟨K2 + K4 + 1, fun k hk => ?_⟩⟩
    · obtain ⟨m, rfl⟩ : ∃ m, k = m + 1 := ⟨k - 1, by omega⟩
      have e1 := k1 (m + 1) (by omega)
      have e3 := k3 m (by omega)
      simp only at e1 e3
      have c1 : ¬ f < 0 := by omega
      have c2 : ¬ f > 5 := by omega
      have c3 : ¬ fr < 0 := by omega
      have c4 : ¬ fr > 200 := by omega
      have c5 : ¬ n < 0 := by omega
      have c6 : ¬ n > 200 := by omega
      simp only [spec_RunStops.f, spec_gear, hg, Option.bind_some, if_true, e1, hp, c1, c2, c3, c4, c5, c6, if_false, decide_false, spec_RunStops.j0, Bool.false_eq_true]
      exact e3
    · obtain ⟨m, rfl⟩ : ∃ m, k = m + 1 := ⟨k - 1, by omega⟩
      have e1 := k2 (m + 1) (by omega)
      have e3 := k4 m (by omega)
      simp only at e1 e3
      have c1 : (0 : Int) ≤ f ∧ f ≤ 5 := ⟨by omega, by omega⟩
      have c2 : (0 : Int) ≤ fr ∧ fr ≤ 200 := ⟨by omega, by omega⟩
      have c3 : (0 : Int) ≤ n ∧ n ≤ 200 := ⟨by omega, by omega⟩
      simp only [impl_RunStops.f, impl_gear, hg, Option.bind_some, if_true, e1, hp, between_eq, c1, c2, c3, and_self, decide_true, Bool.not_true, impl_RunStops.j0, Bool.false_eq_true, if_false]
      exact e3
  · refine ⟨[], [], false, by simp, by simp, fun h => absurd h (by simp), ⟨K1 + 1, fun k hk => ?_⟩, ⟨K2 + 1, fun k hk => ?_⟩⟩
    · obtain ⟨m, rfl⟩ : ∃ m, k = m + 1 := ⟨k - 1, by omega⟩
      have e1 := k1 (m + 1) (by omega)
      simp only at e1
      have hj : spec_RunStops.j0 (m + 1) L f fr n true g0 g1 g2 g3 g4 = some ([], [], false) := by simp only [spec_RunStops.j0, if_true]
      simp only [spec_RunStops.f, spec_gear, Option.bind_some, e1]
      by_cases c0 : gearOk g0 g1 g2 g3 g4 = true
      · rw [if_pos c0]
        by_cases c1 : prAll L = true
        · rw [if_pos c1]
          by_cases c2 : f < 0
          · rw [if_pos c2, hj]
          by_cases c3 : f > 5
          · rw [if_neg c2, if_pos c3, hj]
          by_cases c4 : fr < 0
          · rw [if_neg c2, if_neg c3, if_pos c4, hj]
          by_cases c5 : fr > 200
          · rw [if_neg c2, if_neg c3, if_neg c4, if_pos c5, hj]
          by_cases c6 : n < 0
          · rw [if_neg c2, if_neg c3, if_neg c4, if_neg c5, if_pos c6, hj]
          have c7 : n > 200 := by
            by_cases c7 : n > 200
            · exact c7
            · exact absurd ⟨c0, c1, by omega, by omega, by omega, by omega, by omega, by omega⟩ hall
          rw [if_neg c2, if_neg c3, if_neg c4, if_neg c5, if_neg c6, decide_eq_true c7, hj]
        · rw [if_neg c1, hj]
      · rw [if_neg c0, hj]
    · obtain ⟨m, rfl⟩ : ∃ m, k = m + 1 := ⟨k - 1, by omega⟩
      have e1 := k2 (m + 1) (by omega)
      simp only at e1
      have hj : impl_RunStops.j0 (m + 1) L n true g0 g1 g2 g3 g4 f fr = some ([], [], false) := by simp only [impl_RunStops.j0, if_true]
      simp only [impl_RunStops.f, impl_gear, Option.bind_some, e1, between_eq, decide_eq_true_eq]
      by_cases c0 : gearOk g0 g1 g2 g3 g4 = true
      · rw [if_pos c0]
        by_cases c1 : prAll L = true
        · rw [if_pos c1]
          by_cases c2 : 0 ≤ f ∧ f ≤ 5
          · rw [if_pos c2]
            by_cases c3 : 0 ≤ fr ∧ fr ≤ 200
            · rw [if_pos c3]
              have c4 : ¬ (0 ≤ n ∧ n ≤ 200) := fun c4 => hall ⟨c0, c1, c2.1, c2.2, c3.1, c3.2, c4.1, c4.2⟩
              rw [decide_eq_false c4, Bool.not_false, hj]
            · rw [if_neg c3, hj]
          · rw [if_neg c2, hj]
        · rw [if_neg c1, hj]
      · rw [if_neg c0, hj]
theorem wraps_u64 (n : Int) (h₀ : 0 ≤ n) (h₁ : n < 2 ^ 64) : IntKind.u64.wrap n = n := by rw [IntKind.wrap_u64]; omega
theorem u64_rng (n : Int) : 0 ≤ IntKind.u64.wrap n ∧ IntKind.u64.wrap n < 18446744073709551616 := by rw [IntKind.wrap_u64]; omega
theorem u64_and255 (x : Int) (h₀ : 0 ≤ x) (h₁ : x < 2 ^ 64) : Go.bits .and .u64 x 255 = x % 256 := bits_mask .u64 64 (by decide) wraps_u64 8 (by decide) x h₀ h₁
/-- The bytes that the draws read. -/
def Bytes (c : List Int) : Prop := ∀ x ∈ c, 0 ≤ x ∧ x ≤ 255
theorem bytes_rd (c : List Int) (h : Bytes c) (i : Int) : 0 ≤ rd c i ∧ rd c i ≤ 255 := by
  unfold rd
  rw [List.getD_eq_getElem?_getD]
  by_cases hi : i.toNat < c.length
  · rw [List.getElem?_eq_getElem hi]
    exact h _ (List.getElem_mem _)
  · rw [List.getElem?_eq_none (by omega)]
    simp
theorem seed_byte (u : Int) : 0 ≤ wrap64 (Go.bits .and .u64 ((IntKind.u64.wrap u) / 1099511627776) 255) ∧ wrap64 (Go.bits .and .u64 ((IntKind.u64.wrap u) / 1099511627776) 255) ≤ 255 := by
  have h := u64_rng u
  have h1 : 0 ≤ (IntKind.u64.wrap u) / 1099511627776 := by omega
  have h2 : (IntKind.u64.wrap u) / 1099511627776 < 2 ^ 64 := by omega
  rw [u64_and255 _ h1 h2, wrap_in (by omega) (by omega)]
  omega
theorem next_ok (c : List Int) (hc : Bytes c) (a s : Int) (h0 : 0 ≤ a) (h1 : a < 4611686018427387904) : ∃ r s', spec_l1Cur_next.f c a s = some (r, a + 1, s') ∧ 0 ≤ r ∧ r ≤ 255 := by
  have hw : wrap64 (a + 1) = a + 1 := wrap_in (by omega) (by omega)
  have hb := bytes_rd c hc a
  have hwb : wrap64 (rd c a) = rd c a := wrap_in (by omega) (by omega)
  unfold spec_l1Cur_next.f
  simp only [hw, h0, if_true]
  split
  · split
    · exact ⟨_, _, rfl, by omega, by omega⟩
    · exact ⟨_, _, rfl, seed_byte _⟩
  · split
    · exact ⟨_, _, rfl, by omega, by omega⟩
    · exact ⟨_, _, rfl, seed_byte _⟩
theorem pick_ok (c : List Int) (hc : Bytes c) (a s n : Int) (h0 : 0 ≤ a) (h1 : a < 4611686018427387900) (hn : n < 9223372036854775808) :
    ∃ r a' s', spec_l1Cur_pick.f c a s n = some (r, a', s') ∧ 0 ≤ r ∧ (r < n ∨ r = 0) ∧ a ≤ a' ∧ a' ≤ a + 2 := by
  unfold spec_l1Cur_pick.f
  split
  · exact ⟨0, a, s, rfl, by omega, by omega, by omega, by omega⟩
  · obtain ⟨r1, s1, e1, h2, h3⟩ := next_ok c hc a s h0 (by omega)
    rw [e1]
    simp only [Option.bind_some]
    split
    · obtain ⟨r2, s2, e2, h4, h5⟩ := next_ok c hc (a + 1) s1 (by omega) (by omega)
      rw [e2]
      simp only [Option.bind_some]
      rw [if_neg (by omega)]
      have w1 : wrap64 (r1 * 256) = r1 * 256 := wrap_in (by omega) (by omega)
      have w2 : wrap64 (r1 * 256 + r2) = r1 * 256 + r2 := wrap_in (by omega) (by omega)
      rw [w1, w2]
      refine ⟨_, _, _, rfl, ?_, ?_, by omega, by omega⟩
      · rw [Int.tmod_eq_emod_of_nonneg (by omega)]
        exact Int.emod_nonneg _ (by omega)
      · rw [Int.tmod_eq_emod_of_nonneg (by omega)]
        exact .inl (Int.emod_lt_of_pos _ (by omega))
    · rw [if_neg (by omega)]
      refine ⟨_, _, _, rfl, ?_, ?_, by omega, by omega⟩
      · rw [Int.tmod_eq_emod_of_nonneg (by omega)]
        exact Int.emod_nonneg _ (by omega)
      · rw [Int.tmod_eq_emod_of_nonneg (by omega)]
        exact .inl (Int.emod_lt_of_pos _ (by omega))
theorem one_ok (c : List Int) (hc : Bytes c) (a s n : Int) (h0 : 0 ≤ a) (h1 : a < 4611686018427387900) (hn : n < 9223372036854775808) : ∃ b a' s', spec_l1Cur_one.f c a s n = some (b, a', s') ∧ a ≤ a' ∧ a' ≤ a + 2 := by
  obtain ⟨r, a', s', e, _, _, h2, h3⟩ := pick_ok c hc a s n h0 h1 hn
  unfold spec_l1Cur_one.f
  rw [e]
  exact ⟨_, _, _, rfl, h2, h3⟩
theorem wrap_lt (n : Int) : wrap64 n < 9223372036854775808 := by unfold wrap64; omega
theorem among_ok (c : List Int) (hc : Bytes c) (a s : Int) (l : List Int) (hl : 0 < l.length) (hl2 : l.length < 1000000) (h0 : 0 ≤ a) (h1 : a < 4611686018427387900) : ∃ r a' s', spec_l1Cur_among.f c a s l = some (r, a', s') ∧ r ∈ l ∧ a ≤ a' ∧ a' ≤ a + 2 := by
  obtain ⟨r, a', s', e, h2, h3, h4, h5⟩ := pick_ok c hc a s (l.length : Int) h0 h1 (by omega)
  have h6 : r < (l.length : Int) := by omega
  have h7 : rd l r ∈ l := by
    rw [show r = ((r.toNat : Nat) : Int) by omega, rd_get l r.toNat (by omega)]
    exact List.getElem_mem _
  refine ⟨rd l r, a', s', ?_, h7, h4, h5⟩
  simp only [spec_l1Cur_among.f, e, Option.bind_some, h2, h6, if_true]
theorem gear_ok (c : List Int) (hc : Bytes c) (a s : Int) (h0 : 0 ≤ a) (h1 : a < 1000) : ∃ g0 g1 g2 g3 g4 a' s', spec_l1Cur_gear.f c a s = some (g0, g1, g2, g3, g4, a', s') ∧ a ≤ a' ∧ a' ≤ a + 14 := by
  obtain ⟨r1, a1, s1, e1, _, _, b1, b1'⟩ := pick_ok c hc a s 5 (by omega) (by omega) (by omega)
  obtain ⟨r2, a2, s2, e2, _, _, b2, b2'⟩ := pick_ok c hc a1 s1 4 (by omega) (by omega) (by omega)
  obtain ⟨r3, a3, s3, e3, _, _, b3, b3'⟩ := pick_ok c hc a2 s2 8 (by omega) (by omega) (by omega)
  obtain ⟨r4, a4, s4, e4, _, _, b4, b4'⟩ := pick_ok c hc a3 s3 20 (by omega) (by omega) (by omega)
  obtain ⟨r5, a5, s5, e5, _, _, b5, b5'⟩ := pick_ok c hc a4 s4 8 (by omega) (by omega) (by omega)
  obtain ⟨r6, a6, s6, e6, _, _, b6, b6'⟩ := pick_ok c hc a5 s5 16 (by omega) (by omega) (by omega)
  obtain ⟨r7, a7, s7, e7, _, b7, b7'⟩ := among_ok c hc a6 s6 [wrap64 ((wrap64 (1 + r2)) - 1), 30, 31] (by simp) (by simp) (by omega) (by omega)
  obtain ⟨r8, a8, s8, e8, _, b8, b8'⟩ := among_ok c hc a6 s6 [1000, 1001, 0] (by simp) (by simp) (by omega) (by omega)
  obtain ⟨r9, a9, s9, e9, _, b9, b9'⟩ := among_ok c hc a6 s6 [10, 11, (-1)] (by simp) (by simp) (by omega) (by omega)
  simp only [spec_l1Cur_gear.f, e1, e2, e3, e4, e5, e6, Option.bind_some, e7, e8, e9]
  by_cases c0 : r6 = 0
  · rw [if_pos c0]
    exact ⟨_, _, _, _, _, _, _, rfl, by omega, by omega⟩
  · rw [if_neg c0]
    by_cases c1 : r6 = 1
    · rw [if_pos c1]
      exact ⟨_, _, _, _, _, _, _, rfl, by omega, by omega⟩
    · rw [if_neg c1]
      by_cases c2 : r6 = 2
      · rw [if_pos c2]
        exact ⟨_, _, _, _, _, _, _, rfl, by omega, by omega⟩
      · rw [if_neg c2]
        exact ⟨_, _, _, _, _, _, _, rfl, by omega, by omega⟩
theorem presses_loop (c : List Int) (hc : Bytes c) : ∀ (d : Nat) (L : List S36) (t : Int) (a s : Int), d ≤ 10 → L.length + d ≤ 100 → 0 ≤ a → a + 6 * (d : Int) < 4000000 →
    ∃ (M : List S36) (a' s' : Int), Ev (fun k => spec_l1Cur_presses.l0 k L t (d : Int) c a s) (M, a', s') ∧ M.length ≤ L.length + d + 1 ∧ a ≤ a' ∧ a' ≤ a + 6 * (d : Int) + 6 := by
  intro d
  induction d with
  | zero =>
    intro L t a s _ hl h0 h1
    obtain ⟨b, a1, s1, e1, m1, n1⟩ := one_ok c hc a s 30 (by omega) (by omega) (by omega)
    obtain ⟨r2, a2, s2, e2, _, _, m2, n2⟩ := pick_ok c hc a1 s1 2 (by omega) (by omega) (by omega)
    have hz : ¬ (((0 : Nat) : Int) > 0) := by omega
    have hlen : L.length < 8796093022208 := by omega
    cases b with
    | true =>
      refine ⟨L ++ [⟨t, wrap64 (200 + r2)⟩], a2, s2, Ev.next ⟨0, fun k _ => ?_⟩, by simp, by omega, by omega⟩
      simp only [spec_l1Cur_presses.l0, hz, if_false, e1, e2, Option.bind_some, if_true, hlen]
    | false =>
      refine ⟨L, a1, s1, Ev.next ⟨0, fun k _ => ?_⟩, by omega, by omega, by omega⟩
      simp only [spec_l1Cur_presses.l0, hz, if_false, e1, Option.bind_some, Bool.false_eq_true]
  | succ d ih =>
    intro L t a s hd hl h0 h1
    obtain ⟨r1, a1, s1, e1, _, _, m1, n1⟩ := pick_ok c hc a s 6 (by omega) (by omega) (by omega)
    obtain ⟨b, a2, s2, e2, m2, n2⟩ := one_ok c hc a1 s1 30 (by omega) (by omega) (by omega)
    obtain ⟨r3, a3, s3, e3, _, _, m3, n3⟩ := pick_ok c hc a2 s2 10 (by omega) (by omega) (by omega)
    have hz : (((d + 1 : Nat) : Int) > 0) := by omega
    have hw : wrap64 (((d + 1 : Nat) : Int) - 1) = (d : Int) := by rw [wrap_in (by omega) (by omega)]; omega
    have hlen : L.length < 8796093022208 := by omega
    cases b with
    | true =>
      obtain ⟨M, a', s', hM, p1, p2, p3⟩ := ih (L ++ [(⟨t, t⟩ : S36)]) (wrap64 ((wrap64 (t + 1)) + r3)) a3 s3 (by omega) (by simp; omega) (by omega) (by omega)
      rw [List.length_append, List.length_singleton] at p1
      refine ⟨M, a', s', Ev.step (fun k => ?_) hM, by omega, by omega, by omega⟩
      simp only [spec_l1Cur_presses.l0, hz, if_true, e1, e2, e3, Option.bind_some, hlen, hw]
    | false =>
      obtain ⟨M, a', s', hM, p1, p2, p3⟩ := ih (L ++ [(⟨t, wrap64 ((wrap64 (t + 1)) + r1)⟩ : S36)]) (wrap64 ((wrap64 ((wrap64 ((wrap64 (t + 1)) + r1)) + 1)) + r3)) a3 s3 (by omega) (by simp; omega) (by omega) (by omega)
      rw [List.length_append, List.length_singleton] at p1
      refine ⟨M, a', s', Ev.step (fun k => ?_) hM, by omega, by omega, by omega⟩
      simp only [spec_l1Cur_presses.l0, hz, if_true, e1, e2, e3, Option.bind_some, hlen, hw, Bool.false_eq_true, if_false]
theorem draw_stops (c : List Int) (hc : Bytes c) : ∃ (g0 g1 g2 g3 g4 : Int) (L : List S36) (f fr n : Int), Ev (fun k => spec_DrawRunStops.f k c) (g0, g1, g2, g3, g4, L, f, fr, n) ∧ L.length ≤ 1000 := by
  obtain ⟨g0, g1, g2, g3, g4, a1, s1, e1, m1, n1⟩ := gear_ok c hc 0 0 (by omega) (by omega)
  obtain ⟨r2, a2, s2, e2, _, _, m2, n2⟩ := pick_ok c hc a1 s1 30 (by omega) (by omega) (by omega)
  obtain ⟨r3, a3, s3, e3, p3, q3, m3, n3⟩ := pick_ok c hc a2 s2 4 (by omega) (by omega) (by omega)
  obtain ⟨L, a4, s4, ⟨K, hL⟩, p4, m4, n4⟩ := presses_loop c hc r3.toNat [] r2 a3 s3 (by omega) (by simp; omega) (by omega) (by omega)
  rw [show ((r3.toNat : Nat) : Int) = r3 by omega] at hL
  obtain ⟨r5, a5, s5, e5, _, _, m5, n5⟩ := pick_ok c hc a4 s4 6 (by omega) (by omega) (by omega)
  obtain ⟨b, a6, s6, e6, m6, n6⟩ := one_ok c hc a5 s5 30 (by omega) (by omega) (by omega)
  have hj : ∀ (f a s : Int), 0 ≤ a → a < 100000 → ∃ fr n, ∀ k : Nat, spec_DrawRunStops.j0 (k + 1) L f c a s g0 g1 g2 g3 g4 = some (g0, g1, g2, g3, g4, L, f, fr, n) := by
    intro f a s h0 h1
    obtain ⟨r7, a7, s7, e7, _, _, m7, n7⟩ := pick_ok c hc a s 90 (by omega) (by omega) (by omega)
    obtain ⟨b, a8, s8, e8, m8, n8⟩ := one_ok c hc a7 s7 12 (by omega) (by omega) (by omega)
    cases b with
    | true =>
      obtain ⟨r9, a9, s9, e9, _, m9, n9⟩ := among_ok c hc a8 s8 [(-1), 200, 201] (by simp) (by simp) (by omega) (by omega)
      obtain ⟨r10, a10, s10, e10, _, _, m10, n10⟩ := pick_ok c hc a9 s9 40 (by omega) (by omega) (by omega)
      exact ⟨r10, r9, fun k => by simp only [spec_DrawRunStops.j0, e7, e8, e9, e10, Option.bind_some, if_true]⟩
    | false =>
      obtain ⟨r10, a10, s10, e10, _, _, m10, n10⟩ := pick_ok c hc a8 s8 40 (by omega) (by omega) (by omega)
      exact ⟨r10, r7, fun k => by simp only [spec_DrawRunStops.j0, e7, e8, e10, Option.bind_some, Bool.false_eq_true, if_false]⟩
  simp only [List.length_nil] at p4
  cases b with
  | true =>
    obtain ⟨r11, a11, s11, e11, _, m11, n11⟩ := among_ok c hc a6 s6 [(-1), 6] (by simp) (by simp) (by omega) (by omega)
    obtain ⟨fr, n, h⟩ := hj r11 a11 s11 (by omega) (by omega)
    refine ⟨g0, g1, g2, g3, g4, L, r11, fr, n, ⟨K + 1, fun k hk => ?_⟩, by omega⟩
    obtain ⟨m, rfl⟩ : ∃ m, k = m + 1 := ⟨k - 1, by omega⟩
    have hL' := hL (m + 1) (by omega)
    simp only at hL'
    simp only [spec_DrawRunStops.f, spec_l1Cur_presses.f, e1, e2, e3, hL', e5, e6, e11, h, Option.bind_some, if_true]
  | false =>
    obtain ⟨fr, n, h⟩ := hj r5 a6 s6 (by omega) (by omega)
    refine ⟨g0, g1, g2, g3, g4, L, r5, fr, n, ⟨K + 1, fun k hk => ?_⟩, by omega⟩
    obtain ⟨m, rfl⟩ : ∃ m, k = m + 1 := ⟨k - 1, by omega⟩
    have hL' := hL (m + 1) (by omega)
    simp only at hL'
    simp only [spec_DrawRunStops.f, spec_l1Cur_presses.f, e1, e2, e3, hL', e5, e6, h, Option.bind_some, Bool.false_eq_true, if_false]
theorem FnStops : laws_FnStops.Pure := by
  intro c hc0 hc1 hc2
  by_cases hn : (c.length : Int) > 1048576
  · exact ⟨0, by simp only [laws_FnStops.f, hn, if_true]⟩
  have hc : Bytes c := fun x hx => by
    have := hc2 x hx
    simp only [Lit.wf, IntKind.min, IntKind.max, IntKind.signed, IntKind.bits, Bool.and_eq_true, decide_eq_true_eq, Bool.false_eq_true, if_false] at this
    omega
  obtain ⟨g0, g1, g2, g3, g4, L, f, fr, n, ⟨K1, k1⟩, hL⟩ := draw_stops c hc
  obtain ⟨G, H, z, hG, hH, hz, ⟨K2, k2⟩, ⟨K3, k3⟩⟩ := stops_both L (by omega) g0 g1 g2 g3 g4 f fr n
  cases z with
  | false =>
    refine ⟨K1 + K2 + K3, ?_⟩
    have e1 := k1 (K1 + K2 + K3) (by omega)
    have e2 := k2 (K1 + K2 + K3) (by omega)
    have e3 := k3 (K1 + K2 + K3) (by omega)
    simp only at e1 e2 e3
    simp only [laws_FnStops.f, hn, if_false, e1, e2, e3, Option.bind_some, bne_self_eq_false, Bool.false_eq_true]
  | true =>
    obtain ⟨hg, hp, hGn, hHn, hA⟩ := hz rfl
    have hg' := hg
    simp only [gearOk, decide_eq_true_eq] at hg'
    have hd : ¬ g3 = 0 := by omega
    have hq0 : 0 ≤ (g4 + g3 - 1) / g3 := Int.ediv_nonneg (by omega) (by omega)
    have hq1 : (g4 + g3 - 1) / g3 ≤ g4 + g3 - 1 := Int.ediv_le_self _ (by omega)
    have hB : wrap64 (g0 + (wrap64 (Int.tdiv (wrap64 ((wrap64 (g4 + g3)) - 1)) g3))) = g0 + (g4 + g3 - 1) / g3 := by
      rw [wrap_in (n := g4 + g3) (by omega) (by omega), wrap_in (n := g4 + g3 - 1) (by omega) (by omega), Int.tdiv_eq_ediv_of_nonneg (by omega), wrap_in (n := (g4 + g3 - 1) / g3) (by omega) (by omega), wrap_in (by omega) (by omega)]
    have hs1 : impl_StopBound.f g0 g1 g2 g3 g4 = some (g0 + (g4 + g3 - 1) / g3) := by
      simp only [impl_StopBound.f, impl_gear, hg, Option.bind_some, if_true, hd, if_false, hB]
    have hs2 : spec_StopBound.f g0 g1 g2 g3 g4 = some (g0 + (g4 + g3 - 1) / g3) := by
      simp only [spec_StopBound.f, spec_gear, hg, Option.bind_some, if_true, hd, if_false, hB]
    have hround : ∀ (d i : Nat), i + d = G.length → Ev (fun k => laws_FnStops.l0 k L G H (g0 + (g4 + g3 - 1) / g3) (G.length : Int) (i : Int) g0 g1 g2 g3 g4) true := by
      intro d
      induction d with
      | zero =>
        intro i hi
        have h1 : ¬ ((i : Int) < (G.length : Int)) := by omega
        exact Ev.next ⟨0, fun k _ => by simp only [laws_FnStops.l0, h1, if_false]⟩
      | succ d ih =>
        intro i hi
        refine Ev.back 2 0 (fun k _ => ?_) (ih (i + 1) (by omega))
        have h1 : ((i : Int) < (G.length : Int)) := by omega
        have h2 : (0 : Int) ≤ (i : Int) := by omega
        have h3 : ((i : Int) < (H.length : Int)) := by omega
        obtain ⟨x0, x1, x2⟩ := hA i (by omega)
        have h4 : ¬ rd G (i : Int) < 0 := by omega
        have h5 : ¬ rd G (i : Int) > g4 := by omega
        have hw := wrap_succ i (by omega)
        simp only [laws_FnStops.l0, laws_FnStops.j2, h1, h2, h4, h5, if_true, if_false, hw, Bool.false_eq_true]
        by_cases c1 : (L.length : Int) > 0
        · have c2 : (0 : Int) < (L.length : Int) := by omega
          have hf : 0 ≤ (rd_T36 L 0).f0 ∧ (rd_T36 L 0).f0 ≤ 200 := by
            simp only [prAll, Bool.and_eq_true, range_all] at hp
            have h6 := hp.2 0 (by omega)
            simp only [prOk, decide_eq_true_eq, Int.natCast_zero] at h6
            omega
          have hw2 : wrap64 ((wrap64 (((rd_T36 L 0).f0) + (g0 + (g4 + g3 - 1) / g3))) - 1) = (rd_T36 L 0).f0 + (g0 + (g4 + g3 - 1) / g3) - 1 := by
            rw [wrap_in (n := (rd_T36 L 0).f0 + (g0 + (g4 + g3 - 1) / g3)) (by omega) (by omega), wrap_in (by omega) (by omega)]
          simp only [c1, c2, if_true, hw2]
          by_cases c3 : (i : Int) ≥ (rd_T36 L 0).f0 + (g0 + (g4 + g3 - 1) / g3) - 1
          · obtain ⟨x3, x4⟩ := x2 (by omega) (by omega)
            simp only [c3, if_true, x3, x4, h3, Bool.false_eq_true, if_false]
          · simp only [c3, if_false]
        · simp only [c1, if_false]
    obtain ⟨K4, k4⟩ := hround G.length 0 (by omega)
    refine ⟨K1 + K2 + K3 + K4 + 1, ?_⟩
    have e1 := k1 (K1 + K2 + K3 + K4 + 1) (by omega)
    have e2 := k2 (K1 + K2 + K3 + K4 + 1) (by omega)
    have e3 := k3 (K1 + K2 + K3 + K4 + 1) (by omega)
    have e4 := k4 (K1 + K2 + K3 + K4) (by omega)
    simp only [Int.natCast_zero] at e1 e2 e3 e4
    simp only [laws_FnStops.f, hn, if_false, e1, e2, e3, Option.bind_some, bne_self_eq_false, Bool.false_eq_true, if_true, hs1, hs2, hGn, hHn, laws_FnStops.j0]
    rw [← hGn]
    exact e4

end Go.Proofs.Ytkigjidjbjbjlaa.Pure
