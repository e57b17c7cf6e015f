import Derived.Test.YtdiibgbekjlmlaaWWords
namespace Go.Proofs.Ytdiibgbekjlmlaa.Plain
open Go.RowKit Go.Proofs.YtdiibgbekjlmlaaW.PrintWords
set_option linter.unusedVariables false

theorem wrap_in {n : Int} (h0 : -9223372036854775808 ≤ n) (h1 : n < 9223372036854775808) : wrap64 n = n := by unfold wrap64; omega
theorem wrap_succ (i : Nat) (h : i < 9223372036854775807) : wrap64 ((i : Int) + 1) = ((i + 1 : Nat) : Int) := by rw [wrap_in (by omega) (by omega)]; omega
theorem toNat_i (i : Nat) : ((i : Int)).toNat = i := by omega
theorem Ev.next {ρ : Type} {g : Nat → Option ρ} {r : ρ} (h : Ev (fun k => g (k + 1)) r) : Ev g r := by
 obtain ⟨K, h⟩ := h
 refine ⟨K + 1, fun k hk => ?_⟩
 obtain ⟨m, rfl⟩ : ∃ m, k = m + 1 := ⟨k - 1, by omega⟩
 exact h m (by omega)

/-- A loop from i to n whose state is known at each i. -/
theorem run_loop {σ ρ : Type} (F : Nat → Int → σ → Option ρ) (n : Nat) (s : Nat → σ) (r : ρ) (hend : Ev (fun k => F k (n : Int) (s n)) r)
 (hstep : ∀ i : Nat, i < n → ∃ K, ∀ k, K ≤ k → F (k + 1) (i : Int) (s i) = F k ((i + 1 : Nat) : Int) (s (i + 1))) : ∀ i : Nat, i ≤ n → Ev (fun k => F k (i : Int) (s i)) r := by
 have key : ∀ (d i : Nat), i + d = n → Ev (fun k => F k (i : Int) (s i)) r := by
  intro d
  induction d with
  | zero =>
   intro i hi
   obtain rfl : i = n := by omega
   exact hend
  | succ d ih =>
   intro i hi
   obtain ⟨K, h⟩ := hstep i (by omega)
   obtain ⟨K', h'⟩ := ih (i + 1) (by omega)
   refine ⟨K + K' + 1, fun k hk => ?_⟩
   obtain ⟨m, rfl⟩ : ∃ m, k = m + 1 := ⟨k - 1, by omega⟩
   show F (m + 1) (i : Int) (s i) = some r
   rw [h m (by omega)]
   exact h' m (by omega)
 intro i hi
 exact key (n - i) i (by omega)

theorem fill_set {α β : Type} (c : α → β) (l : List α) (z : β) (i : Nat) (h : i < l.length) (y : β) (hy : y = c (l[i]'h)) :
 (((l.take i).map c ++ List.replicate (l.length - i) z).set i y) = (l.take (i + 1)).map c ++ List.replicate (l.length - (i + 1)) z := by
 subst hy
 have hl : ((l.take i).map c).length = i := by simp; omega
 rw [List.set_append, if_neg (by omega), hl, Nat.sub_self]
 obtain ⟨m, hm⟩ : ∃ m, l.length - i = m + 1 := ⟨l.length - i - 1, by omega⟩
 rw [hm, List.replicate_succ, List.set_cons_zero, List.take_succ_eq_append_getElem h, List.map_append, List.append_assoc]
 congr 1
 rw [show l.length - (i + 1) = m by omega]
 rfl

/-- 'for i, x := range l { out[i] = c(x) }' over a made row. -/
theorem to_loop {α β : Type} (F : Nat → List β → Int → Option (List β)) (c : α → β) (l : List α) (z : β) (hend : ∀ k acc, F (k + 1) acc (l.length : Int) = some acc)
 (hstep : ∀ (i : Nat) (h : i < l.length), ∃ K, ∀ k, K ≤ k → ∀ acc : List β, acc.length = l.length → F (k + 1) acc (i : Int) = F k (acc.set i (c (l[i]'h))) ((i + 1 : Nat) : Int)) :
 Ev (fun k => F k (List.replicate l.length z) 0) (l.map c) := by
 have h := run_loop (fun k i (acc : List β) => F k acc i) l.length (fun i => (l.take i).map c ++ List.replicate (l.length - i) z) (l.map c)
  (Ev.next ⟨0, fun k _ => by show F (k + 1) _ _ = _; rw [hend]; simp⟩)
  (fun i hi => by
   obtain ⟨K, h⟩ := hstep i hi
   refine ⟨K, fun k hk => ?_⟩
   have := h k hk ((l.take i).map c ++ List.replicate (l.length - i) z) (by simp; omega)
   rw [fill_set c l z i hi _ rfl] at this
   exact this) 0 (Nat.zero_le _)
 simpa using h

/-- A loop that goes on to the end whatever it sees. -/
theorem eq_loop {ρ : Type} (F : Nat → Int → Option ρ) (n : Nat) (r : ρ) (hend : ∀ k, F (k + 1) (n : Int) = some r)
 (hstep : ∀ i : Nat, i < n → ∃ K, ∀ k, K ≤ k → F (k + 1) (i : Int) = F k ((i + 1 : Nat) : Int)) : Ev (fun k => F k 0) r :=
 run_loop (fun k i (_ : Unit) => F k i) n (fun _ => ()) r (Ev.next ⟨0, fun k _ => hend k⟩) hstep 0 (Nat.zero_le _)

/-- Marks: row i is written as 'g (m + w i)'. -/
theorem mark_loop {β : Type} (F : Nat → List β → Int → Int → Option (Int × List β)) (g : Int → β) (w : Nat) (m0 : Int) (xs : List β)
 (hend : ∀ k ys m, ys.length = xs.length → F (k + 1) ys m (xs.length : Int) = some (m, ys))
 (hstep : ∀ (i : Nat), i < xs.length → ∃ K, ∀ k, K ≤ k → ∀ ys : List β, ys.length = xs.length → F (k + 1) ys (m0 + w * i) (i : Int) = F k (ys.set i (g (m0 + w * i))) (m0 + w * ((i + 1 : Nat) : Int)) ((i + 1 : Nat) : Int)) :
 Ev (fun k => F k xs m0 0) (m0 + w * (xs.length : Int), (List.range xs.length).map fun (j : Nat) => g (m0 + w * (j : Int))) := by
 have hset : ∀ i, i < xs.length → (((List.range i).map fun (j : Nat) => g (m0 + w * (j : Int))) ++ xs.drop i).set i (g (m0 + w * (i : Int))) = ((List.range (i + 1)).map fun (j : Nat) => g (m0 + w * (j : Int))) ++ xs.drop (i + 1) := by
  intro i hi
  rw [List.set_append, if_neg (by simp)]
  simp only [List.length_map, List.length_range, Nat.sub_self]
  rw [List.drop_eq_getElem_cons hi, List.set_cons_zero, List.range_succ, List.map_append, List.append_assoc]
  rfl
 have h := run_loop (fun k i (s : List β × Int) => F k s.1 s.2 i) xs.length (fun i => (((List.range i).map fun (j : Nat) => g (m0 + w * (j : Int))) ++ xs.drop i, m0 + w * (i : Int)))
  (m0 + w * (xs.length : Int), (List.range xs.length).map fun (j : Nat) => g (m0 + w * (j : Int)))
  (Ev.next ⟨0, fun k _ => by show F (k + 1) _ _ _ = _; rw [hend _ _ _ (by simp)]; simp⟩)
  (fun i hi => by
   obtain ⟨K, h⟩ := hstep i hi
   refine ⟨K, fun k hk => ?_⟩
   have := h k hk (((List.range i).map fun (j : Nat) => g (m0 + w * (j : Int))) ++ xs.drop i) (by simp; omega)
   rw [hset i hi] at this
   exact this) 0 (Nat.zero_le _)
 simpa using h

theorem Ev.back {ρ : Type} {g f : Nat → Option ρ} (c : Nat) (K : Nat) (h : ∀ k, K ≤ k → g (k + c) = f k) {r : ρ} (hf : Ev f r) : Ev g r := by
 obtain ⟨K', h'⟩ := hf
 refine ⟨K + K' + c, fun k hk => ?_⟩
 obtain ⟨m, rfl⟩ : ∃ m, k = m + c := ⟨k - c, by omega⟩
 rw [h m (by omega)]
 exact h' m (by omega)
theorem Ev.at {ρ : Type} {g : Nat → Option ρ} (c : Nat) {r : ρ} (K : Nat) (h : ∀ k, K ≤ k → g (k + c) = some r) : Ev g r := Ev.back c K h (Ev.now r)

theorem rd_get (xs : List Int) (i : Nat) (h : i < xs.length) : rd xs (i : Int) = xs[i] := by simp [rd, h]
end Go.Proofs.Ytdiibgbekjlmlaa.Plain
