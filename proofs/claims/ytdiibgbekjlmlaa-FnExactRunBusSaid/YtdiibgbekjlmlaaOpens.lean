import Derived.SizedLaws
import Derived.ChangeSlices
import Derived.Deep.Slices
import Derived.Carry
import Derived.Test.YtdiibgbekjlmlaaWWords
namespace Go.Proofs.Ytdiibgbekjlmlaa.Opens
open Go.RowKit Go.ChangeShapes Go.WideShapes Go.Deep Go.Proofs.YtdiibgbekjlmlaaW.PrintWords
set_option linter.unusedVariables false

/-- What is read at a type reads as a kind 'd', and what it reads meets 'Wf'. -/
def Opens {H α : Type} (enc : TypeId × Value → H) (P : Program) (W : World) (t : TypeId) (d : Kd α) (Wf : α → Prop) : Prop :=
 P.cellsOf t = d.sz ∧ ∀ (base : Nat) (spare : Nat → Bool) (held : Bool) (fuel : Nat) (cs : List Value) (x : DataW H × List MemPlace),
  DataW.trod enc P W base spare held fuel t cs = some x → (∀ n ∈ DataW.weights P t x.1, n ≤ reachBytes) → ∃ y, d.K W y cs ∧ Wf y

section
variable {H : Type} {enc : TypeId × Value → H} {P : Program} {W : World}

theorem o_int {t : TypeId} {k : IntKind} (ht : P.underlying t = some (.int k)) (hc : P.cellsOf t = 1) : Opens enc P W t (Kd.int k) (fun n => (Lit.int k n).wf = true) :=
 ⟨hc, fun _ _ _ _ _ _ h _ => by
  obtain ⟨n, rfl, _, hw⟩ := DataW.trod_int ht h
  exact ⟨n, rfl, hw⟩⟩

theorem o_bool {t : TypeId} (ht : P.underlying t = some .bool) (hc : P.cellsOf t = 1) : Opens enc P W t Kd.bool (fun _ => True) :=
 ⟨hc, fun _ _ _ _ _ _ h _ => by
  obtain ⟨n, rfl, _⟩ := DataW.trod_bool ht h
  exact ⟨n, rfl, trivial⟩⟩

theorem o_string {t : TypeId} (ht : P.underlying t = some .string) (hc : P.cellsOf t = 1) : Opens enc P W t Kd.string (fun s => s.size ≤ 140737488351232) :=
 ⟨hc, fun _ _ _ _ _ _ h hw => by
  obtain ⟨s, rfl, rfl, _⟩ := DataW.trod_string ht h
  have := hw s.data.toList.length (by simp [DataW.weights])
  refine ⟨s, rfl, ?_⟩
  rw [Array.length_toList] at this
  exact this⟩

theorem weightsAll_mem {e : TypeId} : ∀ {l : List (DataW H)} {d : DataW H}, d ∈ l → ∀ n ∈ DataW.weights P e d, n ∈ DataW.weightsAll P e l
 | d0 :: l, d, h, n, hn => by
  simp only [DataW.weightsAll, List.mem_append]
  rcases List.mem_cons.1 h with rfl | h
  · exact .inl hn
  · exact .inr (weightsAll_mem h n hn)

theorem o_slice {α : Type} {t e : TypeId} {d : Kd α} {Wf : α → Prop} {B : Nat} (ht : P.underlying t = some (.slice e)) (hc : P.cellsOf t = 1) (hB : P.bytesOf e = B) (ho : Opens enc P W e d Wf) :
 Opens enc P W t (Kd.slice e d) (fun l => (∀ y ∈ l, Wf y) ∧ l.length * B ≤ 140737488351232) :=
 ⟨hc, fun base spare held fuel cs x h hw => by
  rcases open_slice ht h with ⟨rfl, rfl⟩ | ⟨a, len, cap, m, n, D, Pl, rfl, hb, hl, hm, hmm, rfl, hx⟩
  · exact ⟨[], ⟨none, 0, rfl, Nat.le_refl _, rfl, by simp, fun h => absurd h (Nat.lt_irrefl 0)⟩, by simp, by simp⟩
  · have hlm : len ≤ m := by rw [hmm]; split <;> omega
    have hsz : len * B ≤ 140737488351232 := by
     have := hw _ (by simp only [DataW.weights, ht]; exact List.mem_cons_self)
     rw [hB] at this
     refine Nat.le_trans (Nat.mul_le_mul_right _ ?_) this
     simp
    have hel : ∀ i, i < len → ∃ y cs', W.cells? base (a.add (i * d.sz)) d.sz = some cs' ∧ d.K W y cs' ∧ Wf y := by
     intro i hi
     obtain ⟨cs', h1, h2⟩ := hx i (by omega)
     obtain ⟨y, hy, hwf⟩ := ho.2 _ _ _ _ _ _ h2 (fun k hk => hw k (by
      simp only [DataW.weights, ht]
      refine List.mem_cons_of_mem _ (List.mem_append_left _ (weightsAll_mem (d := D i) ?_ k hk))
      exact List.mem_map.2 ⟨i, List.mem_range.2 hi, rfl⟩))
     exact ⟨y, cs', by rw [← ho.1]; exact h1, hy, hwf⟩
    by_cases hz : len = 0
    · subst hz
      exact ⟨[], ⟨some a, cap, rfl, Nat.zero_le _, rfl, by simp, fun h => absurd h (Nat.lt_irrefl 0)⟩, by simp, by simp⟩
    · obtain ⟨y0, _⟩ := hel 0 (by omega)
      have : ∀ i, ∃ y, i < len → ∃ cs', W.cells? base (a.add (i * d.sz)) d.sz = some cs' ∧ d.K W y cs' ∧ Wf y := by
       intro i
       by_cases hi : i < len
       · obtain ⟨y, r⟩ := hel i hi
         exact ⟨y, fun _ => r⟩
       · exact ⟨y0, fun h => absurd h hi⟩
      refine ⟨(List.range len).map (fun i => (this i).choose), ⟨some a, cap, by simp, by simpa using hl, by simp, ?_, fun _ => ⟨a, rfl, fun j p hj => ?_⟩⟩, ?_, by simpa using hsz⟩
      · simp only [List.length_map, List.length_range]
        have : maxLen = 9223372036854775807 := by decide
        omega
      · have hj' : j < len := by
         have := (List.getElem?_eq_some_iff.1 hj).1
         simpa using this
        rw [List.getElem?_map, List.getElem?_range hj'] at hj
        obtain rfl := Option.some.inj hj
        obtain ⟨cs', h1, h2, _⟩ := (this j).choose_spec hj'
        obtain ⟨_, hlen, hcell⟩ := World.cells?_some h1
        refine ⟨cs', d.K_len h2, h2, fun i u hi => ?_⟩
        have hi' : i < d.sz := by
         have := (List.getElem?_eq_some_iff.1 hi).1
         omega
        have := hcell i hi'
        rw [hi] at this
        rw [← this, Go.Deep.add_add]
      · intro y hy
        obtain ⟨i, hi, rfl⟩ := List.mem_map.1 hy
        obtain ⟨_, _, _, h3⟩ := (this i).choose_spec (List.mem_range.1 hi)
        exact h3⟩

/-- Fields in line. -/
def Fields {H α : Type} (enc : TypeId × Value → H) (P : Program) (W : World) (ts : List TypeId) (d : Kd α) (Wf : α → Prop) : Prop :=
 ∀ (base : Nat) (spare : Nat → Bool) (held : Bool) (n : Nat) (cs : List Value) (xs : List (DataW H × List MemPlace)), cs.length = d.sz → xs.length = ts.length →
  (∀ (i : Nat) (t : TypeId), ts[i]? = some t → DataW.trod enc P W base spare held n t ((cs.drop ((ts.take i).map P.cellsOf).sum).take (P.cellsOf t)) = xs[i]?) →
  (∀ n ∈ DataW.weightsEach P ts (xs.map (·.1)), n ≤ reachBytes) → ∃ y, d.K W y cs ∧ Wf y

theorem f_one {α : Type} {t : TypeId} {d : Kd α} {Wf : α → Prop} (ho : Opens enc P W t d Wf) : Fields enc P W [t] d Wf := by
 intro base spare held n cs xs hl hx hf hw
 match xs, hx with
 | [x], _ =>
  have h0 := hf 0 t rfl
  simp only [List.take_zero, List.map_nil, List.sum_nil, List.drop_zero, List.getElem?_cons_zero] at h0
  rw [ho.1, ← hl, List.take_length] at h0
  refine ho.2 _ _ _ _ _ _ h0 (fun k hk => hw k ?_)
  simpa [DataW.weightsEach] using hk

theorem f_cons {α β : Type} {t : TypeId} {ts : List TypeId} {a : Kd α} {b : Kd β} {Wa : α → Prop} {Wb : β → Prop} (ho : Opens enc P W t a Wa) (hr : Fields enc P W ts b Wb) :
 Fields enc P W (t :: ts) (Kd.pair a b) (fun p => Wa p.1 ∧ Wb p.2) := by
 intro base spare held n cs xs hl hx hf hw
 match xs, hx with
 | x :: xs, hx =>
  have h0 := hf 0 t rfl
  simp only [List.take_zero, List.map_nil, List.sum_nil, List.drop_zero, List.getElem?_cons_zero] at h0
  obtain ⟨y, hy, hwy⟩ := ho.2 _ _ _ _ _ _ h0 (fun k hk => hw k (by simp only [List.map_cons, DataW.weightsEach, List.mem_append]; exact .inl hk))
  have hl' : cs.length = a.sz + b.sz := hl
  obtain ⟨z, hz, hwz⟩ := hr base spare held n (cs.drop (P.cellsOf t)) xs (by rw [List.length_drop, hl', ho.1]; omega) (by simpa using hx)
   (fun i t' ht' => by
    have := hf (i + 1) t' (by simpa using ht')
    simp only [List.take_succ_cons, List.map_cons, List.sum_cons, List.getElem?_cons_succ] at this
    rw [← this, List.drop_drop])
   (fun k hk => hw k (by simp only [List.map_cons, DataW.weightsEach, List.mem_append]; exact .inr hk))
  exact ⟨(y, z), ⟨_, _, (List.take_append_drop _ _).symm, hy, hz⟩, hwy, hwz⟩

/-- The struct's layout: its fields lie in line. -/
def inLine (P : Program) : Nat → List Field → Bool
 | _, [] => true
 | o, f :: fs => f.offset == o && inLine P (o + P.cellsOf f.type) fs

theorem inLine_at : ∀ {fs : List Field} {o : Nat}, inLine P o fs = true → ∀ (i : Nat) (f : Field), fs[i]? = some f → f.offset = o + ((((fs.map (·.type)).take i).map P.cellsOf)).sum
 | f0 :: fs, o, h, 0, f, hf => by
  simp only [inLine, Bool.and_eq_true, beq_iff_eq] at h
  simp only [List.getElem?_cons_zero, Option.some.injEq] at hf
  subst hf
  simp [h.1]
 | f0 :: fs, o, h, i + 1, f, hf => by
  simp only [inLine, Bool.and_eq_true, beq_iff_eq] at h
  simp only [List.getElem?_cons_succ] at hf
  have := inLine_at h.2 i f hf
  simp only [List.map_cons, List.take_succ_cons, List.sum_cons]
  omega
 | [], _, _, i, f, hf => by simp at hf

theorem o_struct {α β : Type} {t : TypeId} {fs : Array Field} {ts : List TypeId} {d : Kd α} {Wf : α → Prop} (f : β → α) (g : α → β) (hfg : ∀ x, f (g x) = x) (ht : P.underlying t = some (.struct fs)) (hts : fs.toList.map (·.type) = ts) (hlay : inLine P 0 fs.toList = true) (hc : P.cellsOf t = d.sz)
 (hr : Fields enc P W ts d Wf) : Opens enc P W t (Kd.iso d f) (fun y => Wf (f y)) :=
 ⟨hc, fun base spare held fuel cs x h hw => by
  obtain ⟨xs, n, _, rfl, hl, hxs, hf⟩ := DataW.trod_struct ht h
  obtain ⟨y, hy, hwf⟩ := hr base spare held n cs xs (hl.trans hc) (by rw [← hts]; simpa using hxs)
   (fun i t' ht' => by
    rw [← hts, List.getElem?_map] at ht'
    obtain ⟨fl, hfl, rfl⟩ := Option.map_eq_some_iff.1 ht'
    have hoff := inLine_at hlay i fl hfl
    rw [← hf i fl (by simpa using hfl), ← hts, hoff, Nat.zero_add])
   (fun k hk => hw k (by simp only [DataW.weights, ht]; rw [hts]; exact hk))
  exact ⟨g y, by show d.K W (f (g y)) cs; rw [hfg]; exact hy, by show Wf (f (g y)); rw [hfg]; exact hwf⟩⟩

/-- An argument of the law. -/
theorem arg_opens {α : Type} {t : TypeId} {d : Kd α} {Wf : α → Prop} (ho : Opens enc P W t d Wf) {v : Value} {dt : DataW H} {ps : List MemPlace} {base : Nat} {spare : Nat → Bool} {held : Bool} {ts : List TypeId} {ds : List (DataW H)} {j : Nat}
 (hsz : (DataW.weightsEach P ts ds).all (· ≤ reachBytes) = true) (htj : ts[j]? = some t) (hdj : ds[j]? = some dt) (h : DataW.Trod enc P W base spare held t v dt ps) : ∃ y, d.K W y v.cells.toList ∧ Wf y := by
 obtain ⟨fuel, hf⟩ := h
 exact ho.2 _ _ _ _ _ _ hf (fun n hn => by simpa using List.all_eq_true.1 hsz n (DataW.weights_mem_each htj hdj n hn))
end
end Go.Proofs.Ytdiibgbekjlmlaa.Opens
