/- 'FnModes': what the program's function and the reference's answer, told over numbers and lists alone, meets the law at every input within the kinds' own bounds; no other condition. -/
import Derived.Test.YtglllkbebnlnmaaQFnModesx8
import Derived.Test.YtglllkbebnlnmaaPlain
namespace Go.Proofs.Ytglllkbebnlnmaa.Pure
open Go.RowKit Go.Proofs.Ytglllkbebnlnmaa.PFnModes Go.Proofs.Ytglllkbebnlnmaa.Plain Go.Proofs.YtglllkbebnlnmaaW.PrintWords Go.Proofs.YtglllkbebnlnmaaW.PrintLast
set_option linter.unusedVariables false
set_option linter.unusedSimpArgs false

-- the order of texts
theorem bl_irrefl : ∀ a : List UInt8, Op.bytesLess a a = false
  | [] => rfl
  | x :: r => by simp [Op.bytesLess, bl_irrefl r]
theorem bl_trans : ∀ a b c : List UInt8, Op.bytesLess a b = true → Op.bytesLess b c = true → Op.bytesLess a c = true := by
  intro a
  induction a with
  | nil =>
    intro b c h1 h2
    cases c with
    | nil => cases b <;> simp [Op.bytesLess] at h2
    | cons => rfl
  | cons x r ih =>
    intro b c h1 h2
    cases b with
    | nil => simp [Op.bytesLess] at h1
    | cons y s =>
      cases c with
      | nil => simp [Op.bytesLess] at h2
      | cons z t =>
        simp only [Op.bytesLess, Bool.or_eq_true, Bool.and_eq_true, decide_eq_true_eq, beq_iff_eq] at h1 h2 ⊢
        rcases h1 with h1 | ⟨rfl, h1⟩
        · rcases h2 with h2 | ⟨rfl, h2⟩
          · exact Or.inl (by rw [UInt8.lt_iff_toNat_lt] at *; omega)
          · exact Or.inl h1
        · rcases h2 with h2 | ⟨rfl, h2⟩
          · exact Or.inl h2
          · exact Or.inr ⟨rfl, ih s t h1 h2⟩
theorem bl_tri : ∀ a b : List UInt8, Op.bytesLess a b = false → Op.bytesLess b a = false → a = b := by
  intro a
  induction a with
  | nil => intro b h1 h2; cases b with
    | nil => rfl
    | cons => simp [Op.bytesLess] at h1
  | cons x r ih =>
    intro b h1 h2
    cases b with
    | nil => simp [Op.bytesLess] at h2
    | cons y s =>
      have e : x = y := by
        by_cases e : x = y
        · exact e
        · exfalso
          have : x < y ∨ y < x := by
            rw [UInt8.lt_iff_toNat_lt, UInt8.lt_iff_toNat_lt]
            have : x.toNat ≠ y.toNat := fun h => e (UInt8.toNat_inj.mp h)
            omega
          rcases this with h | h
          · simp [Op.bytesLess, h] at h1
          · simp [Op.bytesLess, h] at h2
      subst e
      have hx : ¬ x < x := by rw [UInt8.lt_iff_toNat_lt]; omega
      simp only [Op.bytesLess, hx, decide_false, Bool.false_or, beq_self_eq_true, Bool.true_and] at h1 h2
      rw [ih s h1 h2]
theorem ba_ext {a b : ByteArray} (h : a.toList = b.toList) : a = b := by
  rw [ByteArray.toList_eq, ByteArray.toList_eq] at h
  cases a; cases b
  simp only [ByteArray.mk.injEq]
  exact Array.toList_inj.mp h

abbrev less (a b : ByteArray) : Bool := Op.bytesLess a.toList b.toList
def has (l : List ByteArray) (x : ByteArray) : Bool := l.any (fun y => decide (y = x))
def Srt (l : List ByteArray) : Prop := l.Pairwise (fun a b => less a b = true)
def ins (l : List ByteArray) (x : ByteArray) : List ByteArray := match l with
  | [] => [x]
  | y :: r => if less y x = true then y :: ins r x else if y = x then y :: r else x :: y :: r
def del (l : List ByteArray) (x : ByteArray) : List ByteArray := l.filter (fun y => decide (y ≠ x))
theorem has_iff {l : List ByteArray} {x : ByteArray} : has l x = true ↔ x ∈ l := by
  unfold has
  rw [List.any_eq_true]
  constructor
  · rintro ⟨y, hy, h⟩; rw [of_decide_eq_true h] at hy; exact hy
  · intro h; exact ⟨x, h, decide_eq_true rfl⟩
theorem ins_mem {l : List ByteArray} {x y : ByteArray} : y ∈ ins l x → y = x ∨ y ∈ l := by
  induction l with
  | nil => simp [ins]
  | cons z r ih =>
    unfold ins
    split
    · intro h
      rcases List.mem_cons.1 h with h | h
      · exact Or.inr (by rw [h]; exact List.mem_cons_self)
      · rcases ih h with h | h
        · exact Or.inl h
        · exact Or.inr (List.mem_cons_of_mem _ h)
    · split
      · exact fun h => Or.inr h
      · intro h
        rcases List.mem_cons.1 h with h | h
        · exact Or.inl h
        · exact Or.inr h
theorem ins_srt {l : List ByteArray} (h : Srt l) (x : ByteArray) : Srt (ins l x) := by
  induction l with
  | nil => simp [ins, Srt]
  | cons z r ih =>
    obtain ⟨h1, h2⟩ := List.pairwise_cons.1 h
    unfold ins
    split
    · rename_i hz
      refine List.pairwise_cons.2 ⟨fun y hy => ?_, ih h2⟩
      rcases ins_mem hy with rfl | hy
      · exact hz
      · exact h1 y hy
    · split
      · exact h
      · rename_i hz hne
        have hxz : less x z = true := by
          cases hq : less x z with
          | true => rfl
          | false => exact absurd (ba_ext (bl_tri _ _ (Bool.eq_false_iff.mpr hz) hq)) hne
        refine List.pairwise_cons.2 ⟨fun y hy => ?_, h⟩
        rcases List.mem_cons.1 hy with rfl | hy
        · exact hxz
        · exact bl_trans _ _ _ hxz (h1 y hy)
theorem ins_len (l : List ByteArray) (x : ByteArray) : (ins l x).length ≤ l.length + 1 := by
  induction l with
  | nil => simp [ins]
  | cons z r ih =>
    unfold ins
    split
    · simp; omega
    · split <;> simp
theorem del_srt {l : List ByteArray} (h : Srt l) (x : ByteArray) : Srt (del l x) := List.Pairwise.filter _ h
theorem del_len (l : List ByteArray) (x : ByteArray) : (del l x).length ≤ l.length := List.length_filter_le _ _
theorem ins_has {l : List ByteArray} (h : Srt l) {x : ByteArray} (hx : has l x = true) : ins l x = l := by
  induction l with
  | nil => simp [has] at hx
  | cons z r ih =>
    obtain ⟨h1, h2⟩ := List.pairwise_cons.1 h
    have hm := has_iff.1 hx
    unfold ins
    split
    · rename_i hz
      rcases List.mem_cons.1 hm with rfl | hm
      · rw [show less x x = false from bl_irrefl _] at hz; cases hz
      · rw [ih h2 (has_iff.2 hm)]
    · split
      · rfl
      · rename_i hz hne
        rcases List.mem_cons.1 hm with e | hm
        · exact absurd e.symm hne
        · exact absurd (h1 x hm) hz
theorem ins_at : ∀ (l : List ByteArray) (x : ByteArray) (i : Nat), i ≤ l.length → (∀ j (hj : j < l.length), j < i → less l[j] x = true) → (∀ j (hj : j < l.length), i ≤ j → less l[j] x = false) → has l x = false → l.take i ++ [x] ++ l.drop i = ins l x
  | [], x, i, hi, _, _, _ => by simp [ins]
  | y :: r, x, i, hi, h1, h2, hn => by
    have hnr : has r x = false := by
      cases h : has r x with
      | false => rfl
      | true => rw [has_iff.2 (List.mem_cons_of_mem _ (has_iff.1 h))] at hn; cases hn
    have hyx : y ≠ x := fun e => by rw [has_iff.2 (by rw [e]; exact List.mem_cons_self)] at hn; cases hn
    cases i with
    | zero =>
      have := h2 0 (by simp) (Nat.le_refl _)
      simp only [List.getElem_cons_zero] at this
      simp [ins, this, hyx]
    | succ i =>
      have h0 := h1 0 (by simp) (by omega)
      simp only [List.getElem_cons_zero] at h0
      have := ins_at r x i (by simpa using hi) (fun j hj hji => h1 (j + 1) (by simpa using hj) (by omega)) (fun j hj hij => h2 (j + 1) (by simpa using hj) (by omega)) hnr
      simp only [List.take_succ_cons, List.drop_succ_cons, List.cons_append, ins, h0, if_true]
      rw [← this]
theorem del_none {l : List ByteArray} {x : ByteArray} (h : has l x = false) : del l x = l := by
  unfold del
  rw [List.filter_eq_self]
  intro y hy
  refine decide_eq_true (fun e => ?_)
  rw [has_iff.2 (by rw [← e]; exact hy)] at h
  cases h
theorem del_at : ∀ (l : List ByteArray) (x : ByteArray) (i : Nat), Srt l → (hi : i < l.length) → l[i] = x → l.take i ++ l.drop (i + 1) = del l x
  | y :: r, x, 0, h, hi, e => by
    obtain ⟨h1, h2⟩ := List.pairwise_cons.1 h
    simp only [List.getElem_cons_zero] at e
    subst e
    have : has r y = false := by
      cases hq : has r y with
      | false => rfl
      | true => have := h1 y (has_iff.1 hq); rw [show less y y = false from bl_irrefl _] at this; cases this
    have hd := del_none this
    unfold del at hd ⊢
    rw [List.filter_cons_of_neg (by simp), hd]
    rfl
  | y :: r, x, i + 1, h, hi, e => by
    obtain ⟨h1, h2⟩ := List.pairwise_cons.1 h
    simp only [List.getElem_cons_succ] at e
    have hi' : i < r.length := by simpa using hi
    have hne : y ≠ x := fun q => by
      have := h1 x (by rw [← e]; exact List.getElem_mem hi')
      rw [q, show less x x = false from bl_irrefl _] at this
      cases this
    have := del_at r x i h2 hi' e
    unfold del at this ⊢
    simp only [List.take_succ_cons, List.drop_succ_cons, List.cons_append]
    rw [this, List.filter_cons_of_pos (by simpa using hne)]
/-! ### What the functions tell -/
theorem any_range (l : List ByteArray) (q : ByteArray → Bool) : (List.range l.length).all (fun i => !q (l.getD i ByteArray.empty)) = !l.any q := by
  induction l with
  | nil => rfl
  | cons y r ih =>
    rw [List.length_cons, List.range_succ_eq_map, List.all_cons, List.all_map]
    simp only [List.getD_cons_zero, Function.comp_def, List.any_cons, Bool.not_or]
    rw [← ih]
    rfl
theorem getD_at (l : List ByteArray) (i : Nat) (h : i < l.length) : l.getD i ByteArray.empty = l[i] := by simp [h]
theorem eq_dec (a b : ByteArray) : (a.toList = b.toList) = (a = b) := propext ⟨ba_ext, fun h => by rw [h]⟩
theorem in_ev (l : List ByteArray) (x : ByteArray) (hl : l.length < 9223372036854775807) : Ev (fun k => spec_l22In.f k l x) (has l x) := by
  have h := all_loop2 (fun k i => spec_l22In.l0 k x l (l.length : Int) i) l.length (fun i => !decide (l.getD i ByteArray.empty = x)) false true
    (Ev.next ⟨0, fun k _ => by simp [spec_l22In.l0]⟩)
    (fun i hi hp r hr => Ev.step (fun k => by
      have h1 : (i : Int) < (l.length : Int) := by omega
      have h2 : (0 : Int) ≤ (i : Int) := by omega
      rw [getD_at l i hi] at hp
      have h3 : ¬ (l[i] = x) := by simpa using hp
      simp only [spec_l22In.l0, h1, h2, rdOf_get _ l i hi, eq_dec, h3, if_true, if_false, wrap_succ i (by omega)]) hr)
    (fun i hi hp => Ev.at 1 0 (fun k _ => by
      have h1 : (i : Int) < (l.length : Int) := by omega
      have h2 : (0 : Int) ≤ (i : Int) := by omega
      rw [getD_at l i hi] at hp
      have h3 : l[i] = x := by simpa using hp
      simp only [spec_l22In.l0, h1, h2, rdOf_get _ l i hi, eq_dec, h3, if_true]))
  rw [any_range l (fun y => decide (y = x))] at h
  refine Ev.congr (fun k => rfl) ?_
  rw [show has l x = (if (!l.any (fun y => decide (y = x))) = true then false else true) by unfold has; cases l.any (fun y => decide (y = x)) <;> rfl]
  exact h
theorem contains_ev (l : List ByteArray) (x : ByteArray) (hl : l.length < 9223372036854775807) : Ev (fun k => slices_Contains_string_string.f k l x) (has l x) := by
  have h := all_loop2 (fun k i => (slices_Index_string_string.l0 k l x (l.length : Int) i).bind fun t => some (decide (t ≥ 0))) l.length (fun i => !decide (l.getD i ByteArray.empty = x)) false true
    (Ev.next ⟨0, fun k _ => by simp [slices_Index_string_string.l0]⟩)
    (fun i hi hp r hr => Ev.step (fun k => by
      have h1 : (i : Int) < (l.length : Int) := by omega
      have h2 : (0 : Int) ≤ (i : Int) := by omega
      rw [getD_at l i hi] at hp
      have h3 : ¬ (x = l[i]) := fun e => by rw [e] at hp; simp at hp
      simp only [slices_Index_string_string.l0, h1, h2, rdOf_get _ l i hi, eq_dec, h3, if_true, if_false, wrap_succ i (by omega)]) hr)
    (fun i hi hp => Ev.at 1 0 (fun k _ => by
      have h1 : (i : Int) < (l.length : Int) := by omega
      have h2 : (0 : Int) ≤ (i : Int) := by omega
      rw [getD_at l i hi] at hp
      have h3 : x = l[i] := (by simpa using hp : l[i] = x).symm
      simp only [slices_Index_string_string.l0, h1, h2, rdOf_get _ l i hi, eq_dec, ← h3, if_true, Option.bind_some]
      simp))
  rw [any_range l (fun y => decide (y = x))] at h
  refine Ev.congr (fun k => rfl) ?_
  rw [show has l x = (if (!l.any (fun y => decide (y = x))) = true then false else true) by unfold has; cases l.any (fun y => decide (y = x)) <;> rfl]
  exact h
/-- Is a needed part among the failed ones? -/
def ill (failed needed : List ByteArray) : Bool := failed.any (fun p => has needed p)
theorem ill_swap (failed needed : List ByteArray) : needed.any (fun p => has failed p) = ill failed needed := by
  unfold ill
  rw [Bool.eq_iff_iff, List.any_eq_true, List.any_eq_true]
  constructor
  · rintro ⟨p, hp, h⟩; exact ⟨p, has_iff.1 h, has_iff.2 hp⟩
  · rintro ⟨p, hp, h⟩; exact ⟨p, has_iff.1 h, has_iff.2 hp⟩
theorem hurt_ev (needed failed : List ByteArray) (hn : needed.length < 9223372036854775807) (hf : failed.length < 9223372036854775807) : Ev (fun k => impl_RunModes_fn1.f k needed failed) (ill failed needed) := by
  have h := all_loop2 (fun k i => (slices_IndexFunc_string_string.l0 k needed failed (needed.length : Int) i).bind fun t => some (decide (t ≥ 0))) needed.length (fun i => !has failed (needed.getD i ByteArray.empty)) false true
    (Ev.next ⟨0, fun k _ => by simp [slices_IndexFunc_string_string.l0]⟩)
    (fun i hi hp r hr => by
      obtain ⟨K, hK⟩ := contains_ev failed (needed[i]) hf
      rw [getD_at needed i hi] at hp
      have h3 : has failed (needed[i]) = false := by simpa using hp
      rw [h3] at hK
      refine Ev.back 1 K (fun k hk => ?_) hr
      have h1 : (i : Int) < (needed.length : Int) := by omega
      have h2 : (0 : Int) ≤ (i : Int) := by omega
      have h4 := hK k hk
      simp only [slices_IndexFunc_string_string.l0, impl_RunModes_fn1_fn1.f, h1, h2, rdOf_get _ needed i hi, h4, if_true, Option.bind_some, Bool.false_eq_true, if_false, wrap_succ i (by omega)])
    (fun i hi hp => by
      obtain ⟨K, hK⟩ := contains_ev failed (needed[i]) hf
      rw [getD_at needed i hi] at hp
      have h3 : has failed (needed[i]) = true := by simpa using hp
      rw [h3] at hK
      refine Ev.at 1 K (fun k hk => ?_)
      have h1 : (i : Int) < (needed.length : Int) := by omega
      have h2 : (0 : Int) ≤ (i : Int) := by omega
      have h4 := hK k hk
      simp only [slices_IndexFunc_string_string.l0, impl_RunModes_fn1_fn1.f, h1, h2, rdOf_get _ needed i hi, h4, if_true, Option.bind_some]
      simp)
  rw [any_range needed (fun y => has failed y), ill_swap] at h
  refine Ev.congr (f := fun k => (slices_IndexFunc_string_string.l0 k needed failed (needed.length : Int) 0).bind fun t => some (decide (t ≥ 0))) (fun k => ?_) ?_
  · simp only [impl_RunModes_fn1.f, slices_ContainsFunc_string_string.f, slices_IndexFunc_string_string.f]
    cases slices_IndexFunc_string_string.l0 k needed failed (needed.length : Int) 0 <;> rfl
  · rw [show ill failed needed = (if (!ill failed needed) = true then false else true) by cases ill failed needed <;> rfl]
    exact h
theorem ill_ev (failed needed : List ByteArray) (hn : needed.length < 9223372036854775807) (hf : failed.length < 9223372036854775807) : Ev (fun k => spec_l26Ill.f k failed needed) (ill failed needed) := by
  have h := all_loop2 (fun k i => spec_l26Ill.l0 k needed failed (failed.length : Int) i) failed.length (fun i => !has needed (failed.getD i ByteArray.empty)) false true
    (Ev.next ⟨0, fun k _ => by simp [spec_l26Ill.l0]⟩)
    (fun i hi hp r hr => by
      obtain ⟨K, hK⟩ := in_ev needed (failed[i]) hn
      rw [getD_at failed i hi] at hp
      have h3 : has needed (failed[i]) = false := by simpa using hp
      rw [h3] at hK
      refine Ev.back 1 K (fun k hk => ?_) hr
      have h1 : (i : Int) < (failed.length : Int) := by omega
      have h2 : (0 : Int) ≤ (i : Int) := by omega
      have h4 := hK k hk
      simp only at h4
      simp only [spec_l26Ill.l0, h1, h2, rdOf_get _ failed i hi, h4, if_true, Option.bind_some, Bool.false_eq_true, if_false, wrap_succ i (by omega)])
    (fun i hi hp => by
      obtain ⟨K, hK⟩ := in_ev needed (failed[i]) hn
      rw [getD_at failed i hi] at hp
      have h3 : has needed (failed[i]) = true := by simpa using hp
      rw [h3] at hK
      refine Ev.at 1 K (fun k hk => ?_)
      have h1 : (i : Int) < (failed.length : Int) := by omega
      have h2 : (0 : Int) ≤ (i : Int) := by omega
      have h4 := hK k hk
      simp only at h4
      simp only [spec_l26Ill.l0, h1, h2, rdOf_get _ failed i hi, h4, if_true, Option.bind_some])
  rw [any_range failed (fun y => has needed y)] at h
  refine Ev.congr (fun k => rfl) ?_
  rw [show ill failed needed = (if (!failed.any (fun y => has needed y)) = true then false else true) by unfold ill; cases failed.any (fun y => has needed y) <;> rfl]
  exact h
theorem del_ev (l : List ByteArray) (x : ByteArray) (hl : l.length < 8796093022208) : Ev (fun k => spec_l26Less.f k l x) (del l x) := by
  have h := run_loop (fun k i (acc : List ByteArray) => spec_l26Less.l0 k x acc l (l.length : Int) i) l.length (fun i => del (l.take i) x) (del l x)
    (Ev.next ⟨0, fun k _ => by simp [spec_l26Less.l0]⟩)
    (fun i hi => ⟨0, fun k _ => by
      have h1 : (i : Int) < (l.length : Int) := by omega
      have h2 : (0 : Int) ≤ (i : Int) := by omega
      have h4 : (del (l.take i) x).length < 8796093022208 := by have := del_len (l.take i) x; have := List.length_take_le i l; omega
      have h5 : l.take (i + 1) = l.take i ++ [l[i]] := by rw [List.take_add_one, List.getElem?_eq_getElem hi]; rfl
      by_cases h3 : l[i] = x
      · have h6 : del (l.take (i + 1)) x = del (l.take i) x := by rw [h5]; simp [del, h3]
        simp only [spec_l26Less.l0, h1, h2, rdOf_get _ l i hi, eq_dec, h3, if_true, wrap_succ i (by omega), h6]
      · have h6 : del (l.take (i + 1)) x = del (l.take i) x ++ [l[i]] := by unfold del; rw [h5, List.filter_append, List.filter_cons_of_pos (by simpa using h3), List.filter_nil]
        simp only [spec_l26Less.l0, h1, h2, rdOf_get _ l i hi, eq_dec, h3, if_true, if_false, wrap_succ i (by omega), h6, h4]⟩) 0 (Nat.zero_le _)
  exact Ev.congr (fun k => rfl) h
theorem mid_wrap (i j : Nat) (h : i ≤ j) (hj : j < 1000000000) : wrap64 ((IntKind.u64.wrap (wrap64 ((i : Int) + (j : Int)))) / 2) = (((i + j) / 2 : Nat) : Int) := by
  have h0 : wrap64 ((i : Int) + (j : Int)) = (i : Int) + (j : Int) := wrap_in (by omega) (by omega)
  have h1 : IntKind.u64.wrap ((i : Int) + (j : Int)) = (i : Int) + (j : Int) := by
    unfold IntKind.wrap
    simp only [IntKind.signed, IntKind.bits, Bool.false_and, Bool.false_eq_true, if_false]
    omega
  rw [h0, h1, wrap_in (by omega) (by omega)]
  omega
theorem lessf (a b : ByteArray) : cmp_Less_string.f a b = some (less a b) := by
  simp [cmp_Less_string.f, cmp_isNaN_string.f]
theorem search_ev (l : List ByteArray) (x : ByteArray) (hl : l.length < 1000000) (hs : Srt l) :
    ∃ r : Int × Bool, (∃ i : Nat, i ≤ l.length ∧ r = ((i : Int), has l x) ∧ (∀ j (hj : j < l.length), j < i → less l[j] x = true) ∧ (∀ j (hj : j < l.length), i ≤ j → less l[j] x = false)) ∧
      Ev (fun k => slices_BinarySearch_string_string.f k l x) r := by
  have hlt : ∀ a b (ha : a < l.length) (hb : b < l.length), a < b → less l[a] l[b] = true := fun a b ha hb hab => List.pairwise_iff_getElem.1 hs a b ha hb hab
  have h := one_while (fun k (s : Int × Int) => slices_BinarySearch_string_string.l0 k l x (l.length : Int) s.1 s.2)
    (fun d s => ∃ i j : Nat, s = ((i : Int), (j : Int)) ∧ d = j - i ∧ i ≤ j ∧ j ≤ l.length ∧ (∀ t (ht : t < l.length), t < i → less l[t] x = true) ∧ (∀ t (ht : t < l.length), j ≤ t → less l[t] x = false))
    (fun r => ∃ i : Nat, i ≤ l.length ∧ r = ((i : Int), has l x) ∧ (∀ j (hj : j < l.length), j < i → less l[j] x = true) ∧ (∀ j (hj : j < l.length), i ≤ j → less l[j] x = false))
    (by
      rintro d s ⟨i, j, rfl, rfl, hij, hj, h1, h2⟩
      by_cases hlt' : i < j
      · refine Or.inr ?_
        have hm1 : i ≤ (i + j) / 2 := by omega
        have hm2 : (i + j) / 2 < j := by omega
        have hml : (i + j) / 2 < l.length := by omega
        have c1 : (i : Int) < (j : Int) := by omega
        have c2 : (0 : Int) ≤ (((i + j) / 2 : Nat) : Int) := by omega
        have c3 : (((i + j) / 2 : Nat) : Int) < (l.length : Int) := by omega
        cases hq : less (l[(i + j) / 2]) x with
        | true =>
          refine ⟨j - ((i + j) / 2 + 1), ((((i + j) / 2 + 1 : Nat) : Int), (j : Int)), by omega, ⟨_, j, rfl, rfl, by omega, hj, fun t ht hti => ?_, h2⟩, fun r hr => ?_⟩
          · by_cases e : t = (i + j) / 2
            · subst e; exact hq
            · exact bl_trans _ _ _ (hlt t _ ht hml (by omega)) hq
          · refine Ev.step (fun k => ?_) hr
            simp only [slices_BinarySearch_string_string.l0, c1, c2, c3, mid_wrap i j (by omega) (by omega), rdOf_get _ l _ hml, lessf, hq, if_true, Option.bind_some, wrap_succ _ (show (i + j) / 2 < 9223372036854775807 by omega)]
        | false =>
          refine ⟨(i + j) / 2 - i, ((i : Int), (((i + j) / 2 : Nat) : Int)), by omega, ⟨i, _, rfl, rfl, by omega, by omega, h1, fun t ht hti => ?_⟩, fun r hr => ?_⟩
          · by_cases e : t = (i + j) / 2
            · subst e; exact hq
            · cases hw : less l[t] x with
              | false => rfl
              | true =>
                have hw' : less (l[(i + j) / 2]) x = true := bl_trans _ _ _ (hlt _ t hml ht (by omega)) hw
                rw [hw'] at hq; cases hq
          · refine Ev.step (fun k => ?_) hr
            simp only [slices_BinarySearch_string_string.l0, c1, c2, c3, mid_wrap i j (by omega) (by omega), rdOf_get _ l _ hml, lessf, hq, if_true, Bool.false_eq_true, if_false, Option.bind_some]
      · obtain rfl : i = j := by omega
        refine Or.inl ⟨((i : Int), has l x), ⟨i, hj, rfl, h1, h2⟩, ?_⟩
        have c1 : ¬ ((i : Int) < (i : Int)) := by omega
        by_cases hi : i < l.length
        · have c2 : (i : Int) < (l.length : Int) := by omega
          have c3 : (0 : Int) ≤ (i : Int) := by omega
          by_cases e : l[i] = x
          · have hh : has l x = true := has_iff.2 (by rw [← e]; exact List.getElem_mem hi)
            rw [hh]
            exact Ev.at 1 0 (fun k _ => by simp only [slices_BinarySearch_string_string.l0, c1, c2, c3, rdOf_get _ l _ hi, eq_dec, e, if_true, if_false])
          · have hh : has l x = false := by
              cases hq : has l x with
              | false => rfl
              | true =>
                exfalso
                obtain ⟨t, ht, et⟩ := List.getElem_of_mem (has_iff.1 hq)
                rcases Nat.lt_trichotomy t i with hti | rfl | hti
                · have := h1 t ht hti; rw [et, show less x x = false from bl_irrefl _] at this; cases this
                · exact e et
                · have := hlt i t hi ht hti; rw [et, h2 i hi (Nat.le_refl _)] at this; cases this
            rw [hh]
            exact Ev.at 1 0 (fun k _ => by simp [slices_BinarySearch_string_string.l0, rdOf_get _ l _ hi, eq_dec, e, slices_isNaN_string.f, hi])
        · have hh : has l x = false := by
            cases hq : has l x with
            | false => rfl
            | true =>
              exfalso
              obtain ⟨t, ht, et⟩ := List.getElem_of_mem (has_iff.1 hq)
              have := h1 t ht (by omega); rw [et, show less x x = false from bl_irrefl _] at this; cases this
          rw [hh]
          have c2 : ¬ ((i : Int) < (l.length : Int)) := by omega
          exact Ev.at 1 0 (fun k _ => by simp only [slices_BinarySearch_string_string.l0, c1, c2, if_false]))
    (l.length - 0) ((0 : Int), (l.length : Int)) ⟨0, l.length, rfl, rfl, Nat.zero_le _, Nat.le_refl _, fun t _ ht => absurd ht (Nat.not_lt_zero _), fun t ht htl => absurd ht (by omega)⟩
  obtain ⟨r, hr, he⟩ := h
  exact ⟨r, hr, Ev.congr (fun k => rfl) he⟩

/-- The fold that l26Add walks. -/
def addf (x : ByteArray) (s : List ByteArray × Bool) (y : ByteArray) : List ByteArray × Bool :=
  if s.2 = true then (s.1 ++ [y], true) else if less y x = true then (s.1 ++ [y], false) else if y = x then (s.1 ++ [y], true) else (s.1 ++ [x] ++ [y], true)
theorem addf_true (x : ByteArray) : ∀ (l acc : List ByteArray), l.foldl (addf x) (acc, true) = (acc ++ l, true)
  | [], acc => by simp
  | y :: r, acc => by simp [addf, addf_true x r]
theorem addf_ins (x : ByteArray) : ∀ (l acc : List ByteArray), (if (l.foldl (addf x) (acc, false)).2 = true then (l.foldl (addf x) (acc, false)).1 else (l.foldl (addf x) (acc, false)).1 ++ [x]) = acc ++ ins l x
  | [], acc => by simp [ins]
  | y :: r, acc => by
    rw [List.foldl_cons]
    unfold ins
    by_cases h1 : less y x = true
    · rw [show addf x (acc, false) y = (acc ++ [y], false) by simp [addf, h1], addf_ins x r, if_pos h1]
      simp
    · by_cases h2 : y = x
      · rw [show addf x (acc, false) y = (acc ++ [y], true) by unfold addf; simp only [Bool.false_eq_true, if_false]; rw [if_neg h1, if_pos h2], addf_true, if_pos rfl, if_neg h1, if_pos h2]
        simp
      · rw [show addf x (acc, false) y = (acc ++ [x] ++ [y], true) by unfold addf; simp only [Bool.false_eq_true, if_false]; rw [if_neg h1, if_neg h2], addf_true, if_pos rfl, if_neg h1, if_neg h2]
        simp
theorem addf_len (x : ByteArray) : ∀ (l : List ByteArray) (s : List ByteArray × Bool), (l.foldl (addf x) s).1.length ≤ s.1.length + 2 * l.length
  | [], s => by simp
  | y :: r, s => by
    rw [List.foldl_cons]
    have h1 := addf_len x r (addf x s y)
    have h2 : (addf x s y).1.length ≤ s.1.length + 2 := by
      unfold addf
      split
      · simp
      · split
        · simp
        · split <;> simp
    simp only [List.length_cons]
    omega
theorem add_ev (l : List ByteArray) (x : ByteArray) (hl : l.length < 1000000) : Ev (fun k => spec_l26Add.f k l x) (ins l x) := by
  have h := run_loop2 (fun k i (s : List ByteArray × Bool) => spec_l26Add.l0 k x s.1 s.2 l (l.length : Int) i) l.length (fun i => (l.take i).foldl (addf x) ([], false)) (ins l x)
    (Ev.at 1 0 (fun k _ => by
      have hh := addf_ins x l []
      have hb := addf_len x l ([], false)
      simp only [List.length_nil, List.nil_append] at hb hh
      have c1 : ¬ ((l.length : Int) < (l.length : Int)) := by omega
      have c2 : (l.foldl (addf x) ([], false)).1.length < 8796093022208 := by omega
      simp only [spec_l26Add.l0, List.take_length, c1, if_false, c2, if_true]
      rw [← hh]
      split <;> rfl))
    (fun i hi r hr => by
      have h1 : (i : Int) < (l.length : Int) := by omega
      have h2 : (0 : Int) ≤ (i : Int) := by omega
      have h5 : l.take (i + 1) = l.take i ++ [l[i]] := by rw [List.take_add_one, List.getElem?_eq_getElem hi]; rfl
      have hb := addf_len x (l.take i) ([], false)
      have hb2 := List.length_take_le i l
      have e : (l.take (i + 1)).foldl (addf x) ([], false) = addf x ((l.take i).foldl (addf x) ([], false)) l[i] := by rw [h5, List.foldl_append]; rfl
      rw [e] at hr
      simp only [List.length_nil] at hb
      generalize (l.take i).foldl (addf x) ([], false) = s at hb hr ⊢
      obtain ⟨acc, b⟩ := s
      simp only at hb hr ⊢
      have c3 : acc.length < 8796093022208 := by omega
      have c4 : (acc ++ [x]).length < 8796093022208 := by simp; omega
      refine Ev.back 2 0 (fun k _ => ?_) hr
      cases b with
      | true => simp only [spec_l26Add.l0, spec_l26Add.j1, addf, h1, h2, c3, rdOf_get _ l i hi, if_true, Bool.false_eq_true, if_false, wrap_succ i (by omega)]
      | false =>
        by_cases q1 : less l[i] x = true
        · have q1' : Op.bytesLess l[i].toList x.toList = true := q1
          simp only [spec_l26Add.l0, spec_l26Add.j1, addf, h1, h2, c3, rdOf_get _ l i hi, q1', Bool.not_true, if_true, Bool.false_eq_true, if_false, wrap_succ i (by omega)]
        · have q1' : Op.bytesLess l[i].toList x.toList = false := Bool.eq_false_iff.mpr q1
          by_cases q2 : l[i] = x
          · have q3 : Op.bytesLess x.toList x.toList = false := bl_irrefl _
            simp only [spec_l26Add.l0, spec_l26Add.j1, addf, h1, h2, c3, rdOf_get _ l i hi, q2, q3, Bool.not_false, if_true, Bool.false_eq_true, if_false, wrap_succ i (by omega)]
          · simp only [spec_l26Add.l0, spec_l26Add.j1, addf, h1, h2, c3, c4, rdOf_get _ l i hi, q1', eq_dec, q2, Bool.not_false, if_true, Bool.false_eq_true, if_false, Option.bind_some, wrap_succ i (by omega)]) 0 (Nat.zero_le _)
  exact Ev.congr (fun k => rfl) h
/-! ### The modes -/
theorem idx_cases (s : ByteArray) : idx modeKs s =
    (if s.data.toList = [111, 110] then some 0 else if s.data.toList = [103, 111] then some 1 else if s.data.toList = [104, 117, 114, 116] then some 2 else if s.data.toList = [104, 101, 97, 108] then some 3
      else if s.data.toList = [115, 116, 111, 112] then some 4 else if s.data.toList = [114, 101, 115, 101, 116] then some 5 else if s.data.toList = [111, 102, 102] then some 6 else none) := by
  simp only [modeKs, idx]
  repeat' split
  all_goals rfl
set_option maxHeartbeats 4000000 in
theorem step_same (a0 : Int) (a1 : ByteArray) (hr : 0 ≤ a0 ∧ a0 ≤ 4) : ∃ v, 0 ≤ v ∧ v ≤ 4 ∧ impl_ModeStep.f a0 a1 = some v ∧ Ev (fun k => spec_ModeStep.f k a0 a1) v := by
  have e1 : spec_l26Mode.f a0 = some true := by unfold spec_l26Mode.f; rw [if_pos hr.1]; simp [hr.2]
  have e2 : impl_between.f a0 0 4 = some true := by unfold impl_between.f; rw [if_pos hr.1]; simp [hr.2]
  have key : spec_ModeStep.f 6 a0 a1 = impl_ModeStep.f a0 a1 ∧ ∃ v, 0 ≤ v ∧ v ≤ 4 ∧ impl_ModeStep.f a0 a1 = some v := by
    unfold spec_ModeStep.f impl_ModeStep.f find2
    rw [e1, e2, idx_cases]
    simp only [Option.bind_some, if_true, spec_ModeStep.j0, spec_ModeStep.j1, spec_ModeStep.j2, spec_ModeStep.j3, spec_ModeStep.j4, ByteArray.toList_eq]
    generalize a1.data.toList = s
    have h5 : a0 = 0 ∨ a0 = 1 ∨ a0 = 2 ∨ a0 = 3 ∨ a0 = 4 := by omega
    by_cases k1 : s = [111, 102, 102]
    · subst k1; rcases h5 with rfl | rfl | rfl | rfl | rfl <;> exact ⟨by decide, _, by decide, by decide, rfl⟩
    by_cases k2 : s = [111, 110]
    · subst k2; rcases h5 with rfl | rfl | rfl | rfl | rfl <;> exact ⟨by decide, _, by decide, by decide, rfl⟩
    by_cases k3 : s = [103, 111]
    · subst k3; rcases h5 with rfl | rfl | rfl | rfl | rfl <;> exact ⟨by decide, _, by decide, by decide, rfl⟩
    by_cases k4 : s = [104, 117, 114, 116]
    · subst k4; rcases h5 with rfl | rfl | rfl | rfl | rfl <;> exact ⟨by decide, _, by decide, by decide, rfl⟩
    by_cases k5 : s = [104, 101, 97, 108]
    · subst k5; rcases h5 with rfl | rfl | rfl | rfl | rfl <;> exact ⟨by decide, _, by decide, by decide, rfl⟩
    by_cases k6 : s = [115, 116, 111, 112]
    · subst k6; rcases h5 with rfl | rfl | rfl | rfl | rfl <;> exact ⟨by decide, _, by decide, by decide, rfl⟩
    by_cases k7 : s = [114, 101, 115, 101, 116]
    · subst k7; rcases h5 with rfl | rfl | rfl | rfl | rfl <;> exact ⟨by decide, _, by decide, by decide, rfl⟩
    simp only [k1, k2, k3, k4, k5, k6, k7, if_false, Option.bind_none, Option.getD_none]
    exact ⟨by simp, a0, hr.1, hr.2, rfl⟩
  obtain ⟨k1, v, v0, v4, hv⟩ := key
  refine ⟨v, v0, v4, hv, Ev.of (fun k => spec_ModeStep.mono a0 a1 k) (k := 6) (k1.trans hv)⟩
theorem hurt_step : impl_ModeStep.f 2 (⟨#[104, 117, 114, 116]⟩ : ByteArray) = some 3 := by decide
theorem stop_step : impl_ModeStep.f 3 (⟨#[115, 116, 111, 112]⟩ : ByteArray) = some 4 := by decide
theorem heal_step : impl_ModeStep.f 3 (⟨#[104, 101, 97, 108]⟩ : ByteArray) = some 2 := by decide

def failMode (m : Int) (mine was : Bool) : Int := if mine = true then (if m = 2 then 3 else if m = 3 then (if was = true then 3 else 4) else m) else m
def mendMode (m : Int) (mine il : Bool) : Int := if mine = true then (if m = 3 then (if il = true then 3 else 2) else m) else m
def healMode (m v : Int) (b il : Bool) : Int := if b = true then (if il = true then m else v) else v
theorem impl_fail (k : Nat) (m : Int) (mine was : Bool) (L : List S31) (n i : Int) (nd fl : List ByteArray) :
    impl_RunModes.j2 (k + 2) m mine was L n i nd fl = impl_RunModes.l0 k (failMode m mine was) L n (wrap64 (i + 1)) nd fl := by
  cases mine with
  | false => simp [impl_RunModes.j2, impl_RunModes.j3, failMode]
  | true =>
    by_cases h2 : m = 2
    · subst h2; simp [impl_RunModes.j2, impl_RunModes.j3, failMode, hurt_step]
    · by_cases h3 : m = 3
      · subst h3; cases was <;> simp [impl_RunModes.j2, impl_RunModes.j3, failMode, stop_step]
      · simp [impl_RunModes.j2, impl_RunModes.j3, failMode, h2, h3]
theorem spec_fail (k : Nat) (m : Int) (mine was : Bool) (L : List S31) (n i : Int) (nd fl : List ByteArray) :
    (if mine = true then spec_RunModes.j2 (k + 1) nd m fl mine was L n i (m == 2) else spec_RunModes.j2 (k + 1) nd m fl mine was L n i false) = spec_RunModes.l0 k nd (failMode m mine was) fl L n (wrap64 (i + 1)) := by
  cases mine with
  | false => simp [spec_RunModes.j2, failMode]
  | true =>
    by_cases h2 : m = 2
    · subst h2; simp [spec_RunModes.j2, failMode]
    · by_cases h3 : m = 3
      · subst h3; cases was <;> simp [spec_RunModes.j2, failMode]
      · simp [spec_RunModes.j2, failMode, h2, h3]
theorem insert_f (l : List ByteArray) (x : ByteArray) (p : Nat) (hp : p ≤ l.length) (hl : l.length ≤ 1000000) : slices_Insert_string_string.f l (p : Int) [x] = some (l.take p ++ [x] ++ l.drop p) := by
  unfold slices_Insert_string_string.f
  rw [if_pos ⟨by omega, by omega, rfl, hl⟩, toNat_i]
theorem delete_f (l : List ByteArray) (p : Nat) (hp : p < l.length) (hl : l.length ≤ 1000000) : slices_Delete_string_string.f l (p : Int) (wrap64 ((p : Int) + 1)) = some (l.take p ++ l.drop (p + 1)) := by
  unfold slices_Delete_string_string.f
  rw [wrap_succ p (by omega), if_pos ⟨by omega, by omega, by omega⟩, toNat_i, toNat_i]
theorem found_at (l : List ByteArray) (x : ByteArray) (p : Nat) (hs : Srt l) (hx : has l x = true) (h1 : ∀ j (hj : j < l.length), j < p → less l[j] x = true) (h2 : ∀ j (hj : j < l.length), p ≤ j → less l[j] x = false) : ∃ h : p < l.length, l[p] = x := by
  obtain ⟨t, ht, et⟩ := List.getElem_of_mem (has_iff.1 hx)
  rcases Nat.lt_trichotomy t p with htp | rfl | htp
  · have := h1 t ht htp; rw [et, show less x x = false from bl_irrefl _] at this; cases this
  · exact ⟨ht, et⟩
  · have hp : p < l.length := by omega
    have := List.pairwise_iff_getElem.1 hs p t hp ht htp
    rw [et, h2 p hp (Nat.le_refl _)] at this
    cases this
theorem rd31_at (L : List S31) (i : Nat) (h : i < L.length) : rd_T31 L (i : Int) = L[i] := by simp [rd_T31, h]
/-- A 'hurt' is among the first i events. -/
def HurtBy (L : List S31) (i : Nat) : Prop := ∃ j, ∃ (hj : j < L.length), j < i ∧ L[j].f0.toList = [104, 117, 114, 116]
theorem ill_of {fl nd : List ByteArray} {x : ByteArray} (h : x ∈ fl) (hx : has nd x = true) : ill fl nd = true := List.any_eq_true.2 ⟨x, h, hx⟩
theorem ill_mono {fl fl' nd : List ByteArray} (h : ∀ p ∈ fl, p ∈ fl') (hi : ill fl nd = true) : ill fl' nd = true := by
  obtain ⟨p, hp, hx⟩ := List.any_eq_true.1 hi
  exact List.any_eq_true.2 ⟨p, h p hp, hx⟩
theorem ins_self (l : List ByteArray) (x : ByteArray) : x ∈ ins l x := by
  induction l with
  | nil => simp [ins]
  | cons y r ih =>
    unfold ins
    split
    · exact List.mem_cons_of_mem _ ih
    · split
      · rename_i h; rw [h]; exact List.mem_cons_self
      · exact List.mem_cons_self
theorem ins_old (l : List ByteArray) (x p : ByteArray) (hp : p ∈ l) : p ∈ ins l x := by
  induction l with
  | nil => cases hp
  | cons y r ih =>
    unfold ins
    split
    · rcases List.mem_cons.1 hp with rfl | hp
      · exact List.mem_cons_self
      · exact List.mem_cons_of_mem _ (ih hp)
    · split
      · exact hp
      · exact List.mem_cons_of_mem _ hp
theorem ill_del {fl nd : List ByteArray} {x : ByteArray} (hi : ill fl nd = true) (hx : has nd x = false) : ill (del fl x) nd = true := by
  obtain ⟨p, hp, hpx⟩ := List.any_eq_true.1 hi
  refine List.any_eq_true.2 ⟨p, List.mem_filter.2 ⟨hp, decide_eq_true (fun e => ?_)⟩, hpx⟩
  rw [e, hx] at hpx
  cases hpx
set_option maxHeartbeats 4000000 in
theorem step_three (a0 : Int) (a1 : ByteArray) (hr : 0 ≤ a0 ∧ a0 ≤ 4) (v : Int) (hv : impl_ModeStep.f a0 a1 = some v) (h3 : v = 3) : a0 = 3 ∨ a1.toList = [104, 117, 114, 116] := by
  have e2 : impl_between.f a0 0 4 = some true := by unfold impl_between.f; rw [if_pos hr.1]; simp [hr.2]
  subst h3
  unfold impl_ModeStep.f find2 at hv
  rw [e2, idx_cases] at hv
  rw [ByteArray.toList_eq]
  generalize a1.data.toList = s at hv ⊢
  by_cases k4 : s = [104, 117, 114, 116]
  · exact Or.inr k4
  refine Or.inl ?_
  have h5 : a0 = 0 ∨ a0 = 1 ∨ a0 = 2 ∨ a0 = 3 ∨ a0 = 4 := by omega
  by_cases k1 : s = [111, 102, 102]
  · subst k1; rcases h5 with rfl | rfl | rfl | rfl | rfl <;> first | rfl | (revert hv; decide)
  by_cases k2 : s = [111, 110]
  · subst k2; rcases h5 with rfl | rfl | rfl | rfl | rfl <;> first | rfl | (revert hv; decide)
  by_cases k3 : s = [103, 111]
  · subst k3; rcases h5 with rfl | rfl | rfl | rfl | rfl <;> first | rfl | (revert hv; decide)
  by_cases k5 : s = [104, 101, 97, 108]
  · subst k5; rcases h5 with rfl | rfl | rfl | rfl | rfl <;> first | rfl | (revert hv; decide)
  by_cases k6 : s = [115, 116, 111, 112]
  · subst k6; rcases h5 with rfl | rfl | rfl | rfl | rfl <;> first | rfl | (revert hv; decide)
  by_cases k7 : s = [114, 101, 115, 101, 116]
  · subst k7; rcases h5 with rfl | rfl | rfl | rfl | rfl <;> first | rfl | (revert hv; decide)
  simp only [k1, k2, k3, k4, k5, k6, k7, if_false, Option.bind_none, Option.getD_none, if_true, Option.bind_some, Option.some.injEq] at hv
  exact hv
set_option maxHeartbeats 4000000 in
theorem modes_loop3 (L : List S31) (nd : List ByteArray) (hL : L.length ≤ 60) (hn : nd.length ≤ 10) : ∃ (r q : Int × List ByteArray × Bool), (r = q ∧ r.2.2 = true ∧ r.2.1.length ≤ 60 ∧ (r.1 = 3 → HurtBy L L.length ∨ ill r.2.1 nd = true)) ∧
    Ev (fun k => impl_RunModes.l0 k 0 L (L.length : Int) 0 nd []) r ∧ Ev (fun k => spec_RunModes.l0 k nd 0 [] L (L.length : Int) 0) q := by
  have h := two_while (fun k (s : Int × Int × List ByteArray) => impl_RunModes.l0 k s.1 L (L.length : Int) s.2.1 nd s.2.2) (fun k (t : Int × List ByteArray × Int) => spec_RunModes.l0 k nd t.1 t.2.1 L (L.length : Int) t.2.2)
    (fun d s t => ∃ (i : Nat) (m : Int) (fl : List ByteArray), i ≤ L.length ∧ d = L.length - i ∧ s = (m, (i : Int), fl) ∧ t = (m, fl, (i : Int)) ∧ 0 ≤ m ∧ m ≤ 4 ∧ Srt fl ∧ fl.length ≤ i ∧ (m = 3 → HurtBy L i ∨ ill fl nd = true))
    (fun (r q : Int × List ByteArray × Bool) => r = q ∧ r.2.2 = true ∧ r.2.1.length ≤ 60 ∧ (r.1 = 3 → HurtBy L L.length ∨ ill r.2.1 nd = true))
    (by
      rintro d s t ⟨i, m, fl, hi, rfl, rfl, rfl, m0, m4, hs, hfl, h3m⟩
      by_cases hlt : i < L.length
      · refine Or.inr ?_
        have c1 : (i : Int) < (L.length : Int) := by omega
        have c2 : (0 : Int) ≤ (i : Int) := by omega
        have hrd := rd31_at L i hlt
        have hw := wrap_succ i (by omega)
        have hup : HurtBy L i → HurtBy L (i + 1) := fun ⟨j, hj, h1, h2⟩ => ⟨j, hj, by omega, h2⟩
        have hat : ∀ e, L[i] = e → e.f0.toList = [104, 117, 114, 116] → HurtBy L (i + 1) := fun e he h => ⟨i, hlt, by omega, by rw [he]; exact h⟩
        generalize L[i] = e at hrd hat
        replace hat := hat e rfl
        obtain ⟨Ki, hin⟩ := in_ev nd e.f1 (by omega)
        obtain ⟨Kc, hct⟩ := contains_ev nd e.f1 (by omega)
        obtain ⟨rb, ⟨p, hp, hrb, hb1, hb2⟩, Kb, hbs⟩ := search_ev fl e.f1 (by omega) hs
        subst hrb
        obtain ⟨Kw, hwas⟩ := in_ev fl e.f1 (by omega)
        simp only at hin hct hbs hwas
        generalize hmine : has nd e.f1 = mine at hin hct
        by_cases k1 : e.f0.toList = [102, 97, 105, 108]
        · obtain ⟨Ka, hadd⟩ := add_ev fl e.f1 (by omega)
          simp only at hadd
          refine ⟨L.length - (i + 1), (failMode m mine (has fl e.f1), ((i + 1 : Nat) : Int), ins fl e.f1), (failMode m mine (has fl e.f1), ins fl e.f1, ((i + 1 : Nat) : Int)), by omega,
            ⟨i + 1, _, _, by omega, rfl, rfl, rfl, ?_, ?_, ins_srt hs _, by have := ins_len fl e.f1; omega, ?_⟩, fun r hr => ?_, fun r hr => ?_⟩
          · unfold failMode; split <;> (try split) <;> (try split) <;> (try split) <;> omega
          · unfold failMode; split <;> (try split) <;> (try split) <;> (try split) <;> omega
          · intro h3
            cases mine with
            | true => exact Or.inr (ill_of (ins_self fl e.f1) hmine)
            | false =>
              have hm3 : m = 3 := by simpa [failMode] using h3
              rcases h3m hm3 with h | h
              · exact Or.inl (hup h)
              · exact Or.inr (ill_mono (fun p hp => ins_old fl e.f1 p hp) h)
          · refine Ev.back 3 (Kc + Kb) (fun k hk => ?_) hr
            have a1 := hct (k + 2) (by omega)
            have a2 := hbs (k + 2) (by omega)
            simp only [impl_RunModes.l0, c1, c2, hrd, k1, a1, a2, if_true, Option.bind_some]
            rw [← hw, ← impl_fail]
            cases hq : has fl e.f1 with
            | true => rw [if_pos rfl, ins_has hs hq]
            | false => rw [if_neg (by decide), insert_f fl e.f1 p hp (by omega), ins_at fl e.f1 p hp hb1 hb2 hq]; rfl
          · refine Ev.back 2 (Ki + Kw + Ka) (fun k hk => ?_) hr
            have a1 := hin (k + 1) (by omega)
            have a2 := hwas (k + 1) (by omega)
            have a3 := hadd (k + 1) (by omega)
            simp only [spec_RunModes.l0, c1, c2, hrd, k1, a1, a2, a3, if_true, Option.bind_some]
            rw [← hw, ← spec_fail]
        · by_cases k2 : e.f0.toList = [109, 101, 110, 100]
          · obtain ⟨Kd, hdel⟩ := del_ev fl e.f1 (by omega)
            have hdl := del_len fl e.f1
            obtain ⟨Kh, hh⟩ := hurt_ev nd (del fl e.f1) (by omega) (by omega)
            obtain ⟨Kl, hil⟩ := ill_ev (del fl e.f1) nd (by omega) (by omega)
            simp only at hdel hh hil
            generalize hill : ill (del fl e.f1) nd = il at hh hil
            refine ⟨L.length - (i + 1), (mendMode m mine il, ((i + 1 : Nat) : Int), del fl e.f1), (mendMode m mine il, del fl e.f1, ((i + 1 : Nat) : Int)), by omega,
              ⟨i + 1, _, _, by omega, rfl, rfl, rfl, ?_, ?_, del_srt hs _, by omega, ?_⟩, fun r hr => ?_, fun r hr => ?_⟩
            · unfold mendMode; split <;> (try split) <;> (try split) <;> omega
            · unfold mendMode; split <;> (try split) <;> (try split) <;> omega
            · intro h3
              cases mine with
              | true =>
                cases il with
                | true => exact Or.inr hill
                | false =>
                  exfalso
                  unfold mendMode at h3
                  by_cases hm3 : m = 3
                  · simp [hm3] at h3
                  · simp [hm3] at h3
              | false =>
                have hm3 : m = 3 := by simpa [mendMode] using h3
                rcases h3m hm3 with h | h
                · exact Or.inl (hup h)
                · exact Or.inr (ill_del h hmine)
            · refine Ev.back 2 (Kc + Kb + Kh) (fun k hk => ?_) hr
              have a1 := hct (k + 1) (by omega)
              have a2 := hbs (k + 1) (by omega)
              have a3 := hh k (by omega)
              have j4 : impl_RunModes.j4 (k + 1) m mine L (L.length : Int) (i : Int) nd (del fl e.f1) = impl_RunModes.l0 k (mendMode m mine il) L (L.length : Int) ((i + 1 : Nat) : Int) nd (del fl e.f1) := by
                rw [← hw]
                cases mine with
                | false => simp [impl_RunModes.j4, mendMode]
                | true =>
                  by_cases h3 : m = 3
                  · subst h3; cases il <;> simp [impl_RunModes.j4, mendMode, a3, heal_step]
                  · simp [impl_RunModes.j4, mendMode, h3]
              simp only [impl_RunModes.l0, c1, c2, hrd, k2, show ¬ ([109, 101, 110, 100] : List UInt8) = [102, 97, 105, 108] by decide, a1, a2, if_true, if_false, Option.bind_some]
              rw [← j4]
              cases hq : has fl e.f1 with
              | true =>
                obtain ⟨hpl, hpe⟩ := found_at fl e.f1 p hs hq hb1 hb2
                rw [if_pos rfl, delete_f fl p hpl (by omega), del_at fl e.f1 p hs hpl hpe]; rfl
              | false => simp only [Bool.false_eq_true, if_false, del_none hq]
            · refine Ev.back 1 (Ki + Kd + Kl) (fun k hk => ?_) hr
              have a1 := hin k (by omega)
              have a2 := hdel k (by omega)
              have a3 := hil k (by omega)
              simp only [spec_RunModes.l0, c1, c2, hrd, k1, k2, a1, a2, if_true, if_false, Option.bind_some, hw]
              cases mine with
              | false => simp [mendMode]
              | true =>
                by_cases h3 : m = 3
                · subst h3; cases il <;> simp [mendMode, a3]
                · simp [mendMode, h3]
          · obtain ⟨v, v0, v4, hv, Kv, hsv⟩ := step_same m e.f0 ⟨m0, m4⟩
            obtain ⟨Kh, hh⟩ := hurt_ev nd fl (by omega) (by omega)
            obtain ⟨Kl, hil⟩ := ill_ev fl nd (by omega) (by omega)
            simp only at hsv hh hil
            generalize hill : ill fl nd = il at hh hil
            obtain ⟨b, hb⟩ : ∃ b, b = (if e.f0.toList = [104, 101, 97, 108] then (e.f0.toList == ([104, 101, 97, 108] : List UInt8)) else (e.f0.toList == ([103, 111] : List UInt8))) := ⟨_, rfl⟩
            have j5 : ∀ k, Kh ≤ k → impl_RunModes.j5 (k + 1) m L (L.length : Int) (i : Int) b nd fl e.f0 e.f1 = impl_RunModes.l0 k (healMode m v b il) L (L.length : Int) ((i + 1 : Nat) : Int) nd fl := by
              intro k hk
              have a3 := hh k hk
              rw [← hw]
              cases b <;> cases il <;> simp [impl_RunModes.j5, healMode, a3, hv]
            have j3 : ∀ k, Kl + Kv ≤ k → spec_RunModes.j3 (k + 1) nd m fl L (L.length : Int) (i : Int) b e.f0 e.f1 = spec_RunModes.l0 k nd (healMode m v b il) fl L (L.length : Int) ((i + 1 : Nat) : Int) := by
              intro k hk
              have a3 := hil k (by omega)
              have a4 := hsv k (by omega)
              rw [← hw]
              cases b <;> cases il <;> simp [spec_RunModes.j3, healMode, a3, a4]
            refine ⟨L.length - (i + 1), (healMode m v b il, ((i + 1 : Nat) : Int), fl), (healMode m v b il, fl, ((i + 1 : Nat) : Int)), by omega,
              ⟨i + 1, _, _, by omega, rfl, rfl, rfl, ?_, ?_, hs, by omega, ?_⟩, fun r hr => ?_, fun r hr => ?_⟩
            · unfold healMode; split <;> (try split) <;> omega
            · unfold healMode; split <;> (try split) <;> omega
            · intro h3
              have hv3 : v = 3 → HurtBy L (i + 1) ∨ ill fl nd = true := fun hq => by
                rcases step_three m e.f0 ⟨m0, m4⟩ v hv hq with h | h
                · rcases h3m h with h | h
                  · exact Or.inl (hup h)
                  · exact Or.inr h
                · exact Or.inl (hat h)
              unfold healMode at h3
              split at h3
              · split at h3
                · rcases h3m h3 with h | h
                  · exact Or.inl (hup h)
                  · exact Or.inr h
                · exact hv3 h3
              · exact hv3 h3
            · refine Ev.back 2 (Kc + Kb + Kh) (fun k hk => ?_) hr
              have a1 := hct (k + 1) (by omega)
              have a2 := hbs (k + 1) (by omega)
              simp only [impl_RunModes.l0, c1, c2, hrd, k1, k2, a1, a2, if_true, if_false, Option.bind_some]
              rw [← j5 k (by omega), hb]
              split <;> rfl
            · refine Ev.back 2 (Ki + Kl + Kv) (fun k hk => ?_) hr
              have a1 := hin (k + 1) (by omega)
              simp only [spec_RunModes.l0, c1, c2, hrd, k1, k2, a1, if_true, if_false, Option.bind_some]
              rw [← j3 k (by omega), hb]
              split <;> rfl
      · refine Or.inl ⟨(m, fl, true), (m, fl, true), ⟨rfl, rfl, by simp only; omega, fun h => by rw [show L.length = i by omega]; exact h3m h⟩, ?_, ?_⟩
        · have c1 : ¬ (i : Int) < (L.length : Int) := by omega
          exact Ev.at 1 0 (fun k _ => by simp only [impl_RunModes.l0, c1, if_false])
        · have c1 : ¬ (i : Int) < (L.length : Int) := by omega
          exact Ev.at 1 0 (fun k _ => by simp only [spec_RunModes.l0, c1, if_false]))
    L.length (0, 0, []) (0, [], 0) ⟨0, 0, [], Nat.zero_le _, by omega, rfl, rfl, by decide, by decide, List.Pairwise.nil, Nat.le_refl _, fun h => absurd h (by decide)⟩
  obtain ⟨r, q, hp, h1, h2⟩ := h
  exact ⟨r, q, hp, h1, h2⟩
theorem modes_both3 (L : List S31) (nd : List ByteArray) : ∃ (r : Int × List ByteArray × Bool), (r.2.1.length ≤ 60 ∧ (r.2.2 = true → L.length ≤ 60 ∧ nd.length ≤ 10) ∧ (r.2.2 = true → r.1 = 3 → HurtBy L L.length ∨ ill r.2.1 nd = true)) ∧ Ev (fun k => impl_RunModes.f k L nd) r ∧ Ev (fun k => spec_RunModes.f k L nd) r := by
  by_cases h1 : (L.length : Int) > 60
  · exact ⟨(0, [], false), ⟨Nat.zero_le _, (fun h => by cases h), (fun h => by cases h)⟩, Ev.at 1 0 (fun k _ => by simp only [impl_RunModes.f, h1, if_true, impl_RunModes.j0]), Ev.at 1 0 (fun k _ => by simp only [spec_RunModes.f, h1, if_true, spec_RunModes.j0])⟩
  · by_cases h2 : (nd.length : Int) > 10
    · exact ⟨(0, [], false), ⟨Nat.zero_le _, (fun h => by cases h), (fun h => by cases h)⟩, Ev.at 1 0 (fun k _ => by simp only [impl_RunModes.f, h1, h2, if_false, decide_true, if_true, impl_RunModes.j0]), Ev.at 1 0 (fun k _ => by simp only [spec_RunModes.f, h1, h2, if_false, decide_true, if_true, spec_RunModes.j0])⟩
    · obtain ⟨r, q, ⟨rfl, _, hl, h3⟩, e1, e2⟩ := modes_loop3 L nd (by omega) (by omega)
      refine ⟨r, ⟨hl, fun _ => ⟨by omega, by omega⟩, fun _ => h3⟩, Ev.step (fun k => ?_) e1, Ev.step (fun k => ?_) e2⟩
      · simp only [impl_RunModes.f, h1, h2, if_false, decide_false, Bool.false_eq_true, impl_RunModes.j0]
      · simp only [spec_RunModes.f, h1, h2, if_false, decide_false, Bool.false_eq_true, spec_RunModes.j0]
theorem wraps_u64 (n : Int) (h₀ : 0 ≤ n) (h₁ : n < 2 ^ 64) : IntKind.u64.wrap n = n := by rw [IntKind.wrap_u64]; omega
theorem u64_rng (n : Int) : 0 ≤ IntKind.u64.wrap n ∧ IntKind.u64.wrap n < 18446744073709551616 := by rw [IntKind.wrap_u64]; omega
theorem u64_and255 (x : Int) (h₀ : 0 ≤ x) (h₁ : x < 2 ^ 64) : Go.bits .and .u64 x 255 = x % 256 := bits_mask .u64 64 (by decide) wraps_u64 8 (by decide) x h₀ h₁
/-- The bytes that the draws read. -/
def Bytes (c : List Int) : Prop := ∀ x ∈ c, 0 ≤ x ∧ x ≤ 255
theorem bytes_rd (c : List Int) (h : Bytes c) (i : Int) : 0 ≤ rd c i ∧ rd c i ≤ 255 := by
  unfold rd
  rw [List.getD_eq_getElem?_getD]
  by_cases hi : i.toNat < c.length
  · rw [List.getElem?_eq_getElem hi]
    exact h _ (List.getElem_mem _)
  · rw [List.getElem?_eq_none (by omega)]
    simp
theorem seed_byte (u : Int) : 0 ≤ wrap64 (Go.bits .and .u64 ((IntKind.u64.wrap u) / 1099511627776) 255) ∧ wrap64 (Go.bits .and .u64 ((IntKind.u64.wrap u) / 1099511627776) 255) ≤ 255 := by
  have h := u64_rng u
  have h1 : 0 ≤ (IntKind.u64.wrap u) / 1099511627776 := by omega
  have h2 : (IntKind.u64.wrap u) / 1099511627776 < 2 ^ 64 := by omega
  rw [u64_and255 _ h1 h2, wrap_in (by omega) (by omega)]
  omega
theorem next_ok (c : List Int) (hc : Bytes c) (a s : Int) (h0 : 0 ≤ a) (h1 : a < 4611686018427387904) : ∃ r s', spec_l1Cur_next.f c a s = some (r, a + 1, s') ∧ 0 ≤ r ∧ r ≤ 255 := by
  have hw : wrap64 (a + 1) = a + 1 := wrap_in (by omega) (by omega)
  have hb := bytes_rd c hc a
  have hwb : wrap64 (rd c a) = rd c a := wrap_in (by omega) (by omega)
  unfold spec_l1Cur_next.f
  simp only [hw, h0, if_true]
  split
  · split
    · exact ⟨_, _, rfl, by omega, by omega⟩
    · exact ⟨_, _, rfl, seed_byte _⟩
  · split
    · exact ⟨_, _, rfl, by omega, by omega⟩
    · exact ⟨_, _, rfl, seed_byte _⟩
theorem pick_ok (c : List Int) (hc : Bytes c) (a s n : Int) (h0 : 0 ≤ a) (h1 : a < 4611686018427387900) (hn : n < 9223372036854775808) :
    ∃ r a' s', spec_l1Cur_pick.f c a s n = some (r, a', s') ∧ 0 ≤ r ∧ (r < n ∨ r = 0) ∧ a ≤ a' ∧ a' ≤ a + 2 := by
  unfold spec_l1Cur_pick.f
  split
  · exact ⟨0, a, s, rfl, by omega, by omega, by omega, by omega⟩
  · obtain ⟨r1, s1, e1, h2, h3⟩ := next_ok c hc a s h0 (by omega)
    rw [e1]
    simp only [Option.bind_some]
    split
    · obtain ⟨r2, s2, e2, h4, h5⟩ := next_ok c hc (a + 1) s1 (by omega) (by omega)
      rw [e2]
      simp only [Option.bind_some]
      rw [if_neg (by omega)]
      have w1 : wrap64 (r1 * 256) = r1 * 256 := wrap_in (by omega) (by omega)
      have w2 : wrap64 (r1 * 256 + r2) = r1 * 256 + r2 := wrap_in (by omega) (by omega)
      rw [w1, w2]
      refine ⟨_, _, _, rfl, ?_, ?_, by omega, by omega⟩
      · rw [Int.tmod_eq_emod_of_nonneg (by omega)]
        exact Int.emod_nonneg _ (by omega)
      · rw [Int.tmod_eq_emod_of_nonneg (by omega)]
        exact .inl (Int.emod_lt_of_pos _ (by omega))
    · rw [if_neg (by omega)]
      refine ⟨_, _, _, rfl, ?_, ?_, by omega, by omega⟩
      · rw [Int.tmod_eq_emod_of_nonneg (by omega)]
        exact Int.emod_nonneg _ (by omega)
      · rw [Int.tmod_eq_emod_of_nonneg (by omega)]
        exact .inl (Int.emod_lt_of_pos _ (by omega))
theorem of_some (c : List Int) (hc : Bytes c) (a s : Int) (l : List ByteArray) (h0 : 0 ≤ a) (h1 : a < 4611686018427387900) (hl : 0 < l.length) (hl2 : l.length ≤ 1000) :
    ∃ x a' s', spec_l1Cur_of.f c a s l = some (x, a', s') ∧ a ≤ a' ∧ a' ≤ a + 2 := by
  obtain ⟨r, a', s', e, h2, h3, h4, h5⟩ := pick_ok c hc a s (l.length : Int) h0 h1 (by omega)
  have hr : r < (l.length : Int) := by omega
  unfold spec_l1Cur_of.f
  rw [e]
  simp only [Option.bind_some]
  rw [if_pos h2, if_pos hr]
  exact ⟨_, _, _, rfl, h4, h5⟩
theorem one_some (c : List Int) (hc : Bytes c) (a s n : Int) (h0 : 0 ≤ a) (h1 : a < 4611686018427387900) (hn : n < 9223372036854775808) :
    ∃ (b : Bool) (a' s' : Int), spec_l1Cur_one.f c a s n = some (b, a', s') ∧ a ≤ a' ∧ a' ≤ a + 2 := by
  obtain ⟨r, a1, s1, e, p1, q1, m1, n1⟩ := pick_ok c hc a s n h0 h1 hn
  exact ⟨(r == 0), a1, s1, by simp only [spec_l1Cur_one.f, e, Option.bind_some], m1, n1⟩
theorem draw_l2 (c : List Int) (hc : Bytes c) (L : List S31) : ∀ (d : Nat) (nd : List ByteArray) (a s : Int), nd.length + d = 12 → 0 ≤ a → a + 10 * d < 1000000000000 →
    ∃ nd', nd'.length ≤ 12 ∧ Ev (fun k => spec_DrawRunModes.l2 k L nd c a s) (L, nd') := by
  intro d
  induction d with
  | zero =>
    intro nd a s hd h0 h1
    obtain ⟨r, a1, s1, e, p1, q1, m1, n1⟩ := pick_ok c hc a s 2 h0 (by omega) (by omega)
    have w : wrap64 (10 + r) = 10 + r := wrap_in (by omega) (by omega)
    have c1 : ¬ (nd.length : Int) < 10 + r := by omega
    exact ⟨nd, by omega, Ev.at 1 0 (fun k _ => by simp only [spec_DrawRunModes.l2, e, w, c1, if_false, Option.bind_some])⟩
  | succ d ih =>
    intro nd a s hd h0 h1
    obtain ⟨r, a1, s1, e, p1, q1, m1, n1⟩ := pick_ok c hc a s 2 h0 (by omega) (by omega)
    have w : wrap64 (10 + r) = 10 + r := wrap_in (by omega) (by omega)
    by_cases c1 : (nd.length : Int) < 10 + r
    · obtain ⟨nd', hn, he⟩ := ih (nd ++ [(⟨#[120]⟩ : ByteArray)]) a1 s1 (by simp; omega) (by omega) (by omega)
      have c2 : nd.length < 8796093022208 := by omega
      exact ⟨nd', hn, Ev.step (fun k => by simp only [spec_DrawRunModes.l2, e, w, c1, c2, if_true, Option.bind_some]) he⟩
    · exact ⟨nd, by omega, Ev.at 1 0 (fun k _ => by simp only [spec_DrawRunModes.l2, e, w, c1, if_false, Option.bind_some])⟩
theorem draw_l1 (c : List Int) (hc : Bytes c) (L : List S31) : ∀ (d : Nat) (nd : List ByteArray) (a s : Int), nd.length + d ≤ 3 → 0 ≤ a → a + 10 * d + 200 < 1000000000000 →
    ∃ nd', nd'.length ≤ 12 ∧ Ev (fun k => spec_DrawRunModes.l1 k L nd (d : Int) c a s) (L, nd') := by
  intro d
  induction d with
  | zero =>
    intro nd a s hd h0 h1
    obtain ⟨b, a1, s1, e, m1, n1⟩ := one_some c hc a s 30 h0 (by omega) (by omega)
    have c0 : ¬ ((0 : Nat) : Int) > 0 := by omega
    cases b with
    | true =>
      obtain ⟨nd', hn, he⟩ := draw_l2 c hc L (12 - nd.length) nd a1 s1 (by omega) (by omega) (by omega)
      exact ⟨nd', hn, Ev.step (fun k => by simp only [spec_DrawRunModes.l1, c0, e, if_true, if_false, Option.bind_some]) he⟩
    | false => exact ⟨nd, by omega, Ev.at 1 0 (fun k _ => by simp only [spec_DrawRunModes.l1, c0, e, Bool.false_eq_true, if_false, Option.bind_some])⟩
  | succ d ih =>
    intro nd a s hd h0 h1
    obtain ⟨x, a1, s1, e, m1, n1⟩ := of_some c hc a s ([(⟨#[97, 114, 109]⟩ : ByteArray), (⟨#[101, 121, 101]⟩ : ByteArray), (⟨#[108, 101, 103]⟩ : ByteArray)] : List ByteArray) h0 (by omega) (by simp) (by simp)
    obtain ⟨nd', hn, he⟩ := ih (nd ++ [x]) a1 s1 (by simp; omega) (by omega) (by omega)
    have c0 : ((d + 1 : Nat) : Int) > 0 := by omega
    have c2 : nd.length < 8796093022208 := by omega
    have w : wrap64 (((d + 1 : Nat) : Int) - 1) = (d : Int) := (wrap_in (by omega) (by omega)).trans (by omega)
    exact ⟨nd', hn, Ev.step (fun k => by simp only [spec_DrawRunModes.l1, c0, e, c2, w, if_true, Option.bind_some]) he⟩
theorem kind_some (c : List Int) (hc : Bytes c) (a s : Int) (h0 : 0 ≤ a) (h1 : a < 4611686018427387900) : ∃ x a' s', spec_l1Cur_kind.f c a s = some (x, a', s') ∧ a ≤ a' ∧ a' ≤ a + 2 := by
  have key : ∀ l : List ByteArray, 0 < l.length → l.length ≤ 1000 → ∃ x a' s', ((spec_l1Cur_of.f c a s l).bind fun bt => (some (bt.1, bt.2.1, bt.2.2))) = some (x, a', s') ∧ a ≤ a' ∧ a' ≤ a + 2 := by
    intro l h2 h3
    obtain ⟨x, a1, s1, e, m1, n1⟩ := of_some c hc a s l h0 h1 h2 h3
    rw [e]
    exact ⟨_, _, _, rfl, m1, n1⟩
  unfold spec_l1Cur_kind.f
  exact key _ (by decide) (by decide)
theorem draw_l0 (c : List Int) (hc : Bytes c) : ∀ (d : Nat) (L : List S31) (a s : Int), L.length + d ≤ 100 → 0 ≤ a → a + 10 * d + 300 < 1000000000000 →
    ∃ L' nd', L'.length ≤ 100 ∧ nd'.length ≤ 12 ∧ Ev (fun k => spec_DrawRunModes.l0 k L (d : Int) c a s) (L', nd') := by
  intro d
  induction d with
  | zero =>
    intro L a s hd h0 h1
    obtain ⟨r, a1, s1, e, p1, q1, m1, n1⟩ := pick_ok c hc a s 3 h0 (by omega) (by omega)
    have c0 : ¬ ((0 : Nat) : Int) > 0 := by omega
    obtain ⟨t, rfl⟩ : ∃ t : Nat, r = (t : Int) := ⟨r.toNat, by omega⟩
    obtain ⟨nd', hn, he⟩ := draw_l1 c hc L t [] a1 s1 (by simp; omega) (by omega) (by omega)
    exact ⟨L, nd', by omega, hn, Ev.step (fun k => by simp only [spec_DrawRunModes.l0, c0, e, if_false, Option.bind_some]) he⟩
  | succ d ih =>
    intro L a s hd h0 h1
    obtain ⟨x, a1, s1, e1, m1, n1⟩ := kind_some c hc a s h0 (by omega)
    obtain ⟨y, a2, s2, e2, m2, n2⟩ := of_some c hc a1 s1 ([(⟨#[97, 114, 109]⟩ : ByteArray), (⟨#[101, 121, 101]⟩ : ByteArray), (⟨#[108, 101, 103]⟩ : ByteArray), (⟨#[]⟩ : ByteArray)] : List ByteArray) (by omega) (by omega) (by simp) (by simp)
    obtain ⟨L', nd', hL, hn, he⟩ := ih (L ++ [(⟨x, y⟩ : S31)]) a2 s2 (by simp; omega) (by omega) (by omega)
    have c0 : ((d + 1 : Nat) : Int) > 0 := by omega
    have c2 : L.length < 4398046511104 := by omega
    have w : wrap64 (((d + 1 : Nat) : Int) - 1) = (d : Int) := (wrap_in (by omega) (by omega)).trans (by omega)
    exact ⟨L', nd', hL, hn, Ev.step (fun k => by simp only [spec_DrawRunModes.l0, c0, e1, e2, c2, w, if_true, Option.bind_some]) he⟩
theorem draw_j0 (c : List Int) (hc : Bytes c) (d : Nat) (a s : Int) (hd : d ≤ 90) (h0 : 0 ≤ a) (h1 : a + 2000 < 1000000000000) :
    ∃ L' nd', L'.length ≤ 100 ∧ nd'.length ≤ 12 ∧ Ev (fun k => spec_DrawRunModes.j0 k [] (d : Int) c a s) (L', nd') := by
  obtain ⟨b, a1, s1, e, m1, n1⟩ := one_some c hc a s 2 h0 (by omega) (by omega)
  cases b with
  | true =>
    obtain ⟨L', nd', hL, hn, he⟩ := draw_l0 c hc d ([] ++ ([(⟨(⟨#[111, 110]⟩ : ByteArray), (⟨#[]⟩ : ByteArray)⟩ : S31), (⟨(⟨#[103, 111]⟩ : ByteArray), (⟨#[]⟩ : ByteArray)⟩ : S31)] : List (S31))) a1 s1 (by simp; omega) (by omega) (by omega)
    exact ⟨L', nd', hL, hn, Ev.back 2 0 (fun k _ => by simp [spec_DrawRunModes.j0, spec_DrawRunModes.j1, e]) he⟩
  | false =>
    obtain ⟨L', nd', hL, hn, he⟩ := draw_l0 c hc d [] a1 s1 (by simp; omega) (by omega) (by omega)
    exact ⟨L', nd', hL, hn, Ev.back 2 0 (fun k _ => by simp only [spec_DrawRunModes.j0, spec_DrawRunModes.j1, e, Bool.false_eq_true, if_false, Option.bind_some]) he⟩
theorem draw_ev (c : List Int) (hc : Bytes c) : ∃ L nd, L.length ≤ 100 ∧ nd.length ≤ 12 ∧ Ev (fun k => spec_DrawRunModes.f k c) (L, nd) := by
  obtain ⟨r, a1, s1, e1, p1, q1, m1, n1⟩ := pick_ok c hc 0 0 14 (by omega) (by omega) (by omega)
  obtain ⟨b, a2, s2, e2, m2, n2⟩ := one_some c hc a1 s1 16 (by omega) (by omega) (by omega)
  cases b with
  | true =>
    obtain ⟨r3, a3, s3, e3, p3, q3, m3, n3⟩ := pick_ok c hc a2 s2 3 (by omega) (by omega) (by omega)
    have w : wrap64 (59 + r3) = (((59 + r3).toNat : Nat) : Int) := (wrap_in (by omega) (by omega)).trans (by omega)
    obtain ⟨L', nd', hL, hn, he⟩ := draw_j0 c hc (59 + r3).toNat a3 s3 (by omega) (by omega) (by omega)
    exact ⟨L', nd', hL, hn, Ev.congr (fun k => by simp only [spec_DrawRunModes.f, e1, e2, e3, w, if_true, Option.bind_some]) he⟩
  | false =>
    obtain ⟨t, rfl⟩ : ∃ t : Nat, r = (t : Int) := ⟨r.toNat, by omega⟩
    obtain ⟨L', nd', hL, hn, he⟩ := draw_j0 c hc t a2 s2 (by omega) (by omega) (by omega)
    exact ⟨L', nd', hL, hn, Ev.congr (fun k => by simp only [spec_DrawRunModes.f, e1, e2, Bool.false_eq_true, if_false, Option.bind_some]) he⟩
/-! ### FnModes -/
def plq (e : S31) : Bool := !(decide (e.f0.toList = [102, 97, 105, 108])) && !(decide (e.f0.toList = [109, 101, 110, 100]))
theorem plain_ev (L : List S31) (hL : L.length ≤ 1000) : Ev (fun k => spec_PlainEvents.f k L) (L.filter plq) := by
  have h := run_loop (fun k i (acc : List S31) => spec_PlainEvents.l0 k acc L (L.length : Int) i) L.length (fun i => (L.take i).filter plq) (L.filter plq)
    (Ev.next ⟨0, fun k _ => by simp [spec_PlainEvents.l0]⟩)
    (fun i hi => ⟨0, fun k _ => by
      have h1 : (i : Int) < (L.length : Int) := by omega
      have h2 : (0 : Int) ≤ (i : Int) := by omega
      have h4 : ((L.take i).filter plq).length < 4398046511104 := by have := List.length_filter_le plq (L.take i); have := List.length_take_le i L; omega
      have h5 : L.take (i + 1) = L.take i ++ [L[i]] := by rw [List.take_add_one, List.getElem?_eq_getElem hi]; rfl
      have hrd := rd31_at L i hi
      have hw := wrap_succ i (by omega)
      rw [h5, List.filter_append]
      by_cases k1 : L[i].f0.toList = [102, 97, 105, 108]
      · have : [L[i]].filter plq = [] := by simp [plq, k1]
        simp only [spec_PlainEvents.l0, h1, h2, hrd, k1, if_true, hw, this, List.append_nil]
      · by_cases k2 : L[i].f0.toList = [109, 101, 110, 100]
        · have : [L[i]].filter plq = [] := by simp [plq, k2]
          simp only [spec_PlainEvents.l0, h1, h2, hrd, k1, k2, if_true, if_false, hw, this, List.append_nil]
          first | rfl | (rw [if_neg (by decide)])
        · have : [L[i]].filter plq = [L[i]] := by simp [plq, k1, k2]
          simp only [spec_PlainEvents.l0, h1, h2, h4, hrd, k1, k2, if_true, if_false, hw, this]⟩) 0 (Nat.zero_le _)
  exact Ev.congr (fun k => rfl) h
def stepv (m : Int) (s : ByteArray) : Int := (impl_ModeStep.f m s).getD m
theorem stepv_ok (m : Int) (s : ByteArray) (hr : 0 ≤ m ∧ m ≤ 4) : impl_ModeStep.f m s = some (stepv m s) ∧ 0 ≤ stepv m s ∧ stepv m s ≤ 4 := by
  obtain ⟨v, v0, v4, hv, _⟩ := step_same m s hr
  have : stepv m s = v := by unfold stepv; rw [hv]; rfl
  rw [this]
  exact ⟨hv, v0, v4⟩
def foldm (P : List S31) : Int := P.foldl (fun m e => stepv m e.f0) 0
theorem fold_rng : ∀ (P : List S31) (m : Int), 0 ≤ m ∧ m ≤ 4 → 0 ≤ P.foldl (fun m e => stepv m e.f0) m ∧ P.foldl (fun m e => stepv m e.f0) m ≤ 4
  | [], m, h => h
  | e :: r, m, h => by
    rw [List.foldl_cons]
    exact fold_rng r _ (stepv_ok m e.f0 h).2
theorem fold_next (P : List S31) (i : Nat) (hi : i < P.length) : foldm (P.take (i + 1)) = stepv (foldm (P.take i)) P[i].f0 := by
  have h5 : P.take (i + 1) = P.take i ++ [P[i]] := by rw [List.take_add_one, List.getElem?_eq_getElem hi]; rfl
  unfold foldm
  rw [h5, List.foldl_append]
  rfl
theorem plain_run (P : List S31) (nd : List ByteArray) (hP : P.length ≤ 60) (hn : nd.length ≤ 10) (hk : ∀ e ∈ P, plq e = true) : Ev (fun k => impl_RunModes.l0 k 0 P (P.length : Int) 0 nd []) (foldm P, [], true) := by
  have h := run_loop2 (fun k i (m : Int) => impl_RunModes.l0 k m P (P.length : Int) i nd []) P.length (fun i => foldm (P.take i)) (foldm P, [], true)
    (Ev.at 1 0 (fun k _ => by
      have c1 : ¬ ((P.length : Int) < (P.length : Int)) := by omega
      simp only [impl_RunModes.l0, c1, if_false, List.take_length]))
    (fun i hi r hr => by
      have c1 : (i : Int) < (P.length : Int) := by omega
      have c2 : (0 : Int) ≤ (i : Int) := by omega
      have hrd := rd31_at P i hi
      have hw := wrap_succ i (by omega)
      have hq := hk P[i] (List.getElem_mem hi)
      rw [fold_next P i hi] at hr
      have hrng := fold_rng (P.take i) 0 ⟨by decide, by decide⟩
      have hst := (stepv_ok (foldm (P.take i)) P[i].f0 hrng).1
      generalize P[i] = e at hrd hq hr hst
      generalize foldm (P.take i) = m at hr hst ⊢
      have k1 : ¬ e.f0.toList = [102, 97, 105, 108] := fun h => by simp [plq, h] at hq
      have k2 : ¬ e.f0.toList = [109, 101, 110, 100] := fun h => by simp [plq, h] at hq
      obtain ⟨Kc, hct⟩ := contains_ev nd e.f1 (by omega)
      obtain ⟨rb, ⟨p, hp, hrb, _, _⟩, Kb, hbs⟩ := search_ev [] e.f1 (by decide) List.Pairwise.nil
      obtain ⟨Kh, hh⟩ := hurt_ev nd [] (by omega) (by decide)
      have hil : ill [] nd = false := rfl
      rw [hil] at hh
      simp only at hct hbs hh
      refine Ev.back 2 (Kc + Kb + Kh) (fun k hkk => ?_) hr
      have a1 := hct (k + 1) (by omega)
      have a2 := hbs (k + 1) (by omega)
      have a3 := hh k (by omega)
      obtain ⟨b, hb⟩ : ∃ b, b = (if e.f0.toList = [104, 101, 97, 108] then (e.f0.toList == ([104, 101, 97, 108] : List UInt8)) else (e.f0.toList == ([103, 111] : List UInt8))) := ⟨_, rfl⟩
      have j5 : impl_RunModes.j5 (k + 1) m P (P.length : Int) (i : Int) b nd [] e.f0 e.f1 = impl_RunModes.l0 k (stepv m e.f0) P (P.length : Int) ((i + 1 : Nat) : Int) nd [] := by
        rw [← hw]
        cases b <;> simp [impl_RunModes.j5, a3, hst]
      simp only [impl_RunModes.l0, c1, c2, hrd, k1, k2, a1, a2, if_true, if_false, Option.bind_some]
      rw [← j5, hb]
      split <;> rfl) 0 (Nat.zero_le _)
  exact Ev.congr (fun k => rfl) h
theorem plain_full (P : List S31) (nd : List ByteArray) (hk : ∀ e ∈ P, plq e = true) : ∃ r, Ev (fun k => impl_RunModes.f k P nd) r ∧ (P.length ≤ 60 → nd.length ≤ 10 → r = (foldm P, [], true)) := by
  by_cases h1 : (P.length : Int) > 60
  · exact ⟨(0, [], false), Ev.at 1 0 (fun k _ => by simp only [impl_RunModes.f, h1, if_true, impl_RunModes.j0]), fun h => absurd h (by omega)⟩
  · by_cases h2 : (nd.length : Int) > 10
    · exact ⟨(0, [], false), Ev.at 1 0 (fun k _ => by simp only [impl_RunModes.f, h1, h2, if_false, decide_true, if_true, impl_RunModes.j0]), fun _ h => absurd h (by omega)⟩
    · refine ⟨_, Ev.step (fun k => ?_) (plain_run P nd (by omega) (by omega) hk), fun _ _ => rfl⟩
      simp only [impl_RunModes.f, h1, h2, if_false, decide_false, Bool.false_eq_true, impl_RunModes.j0]
theorem l2_ev (P : List S31) (x7 : Bool) (x18 : Int) (x20 : Bool) (hP : P.length < 1000) : Ev (fun k => laws_FnModes.l2 k x7 x18 x20 0 P (P.length : Int) 0) (if x7 = true then (if x20 = true then (x18 == foldm P) else false) else true) := by
  have h := run_loop2 (fun k i (m : Int) => laws_FnModes.l2 k x7 x18 x20 m P (P.length : Int) i) P.length (fun i => foldm (P.take i)) (if x7 = true then (if x20 = true then (x18 == foldm P) else false) else true)
    (Ev.at 1 0 (fun k _ => by
      have c1 : ¬ ((P.length : Int) < (P.length : Int)) := by omega
      simp only [laws_FnModes.l2, c1, if_false, List.take_length]
      cases x7 <;> cases x20 <;> rfl))
    (fun i hi r hr => by
      have c1 : (i : Int) < (P.length : Int) := by omega
      have c2 : (0 : Int) ≤ (i : Int) := by omega
      have hrd := rd31_at P i hi
      have hw := wrap_succ i (by omega)
      rw [fold_next P i hi] at hr
      have hrng := fold_rng (P.take i) 0 ⟨by decide, by decide⟩
      have hst := (stepv_ok (foldm (P.take i)) P[i].f0 hrng).1
      refine Ev.step (fun k => ?_) hr
      simp only [laws_FnModes.l2, c1, c2, hrd, hst, hw, if_true, Option.bind_some]) 0 (Nat.zero_le _)
  exact h
theorem zhas_ev (l : List ByteArray) (x : ByteArray) (hl : l.length < 9223372036854775807) : Ev (fun k => laws_zHas.f k l x) (has l x) := by
  have h := all_loop2 (fun k i => laws_zHas.l0 k x l (l.length : Int) i) l.length (fun i => !decide (l.getD i ByteArray.empty = x)) false true
    (Ev.next ⟨0, fun k _ => by simp [laws_zHas.l0]⟩)
    (fun i hi hp r hr => Ev.step (fun k => by
      have h1 : (i : Int) < (l.length : Int) := by omega
      have h2 : (0 : Int) ≤ (i : Int) := by omega
      rw [getD_at l i hi] at hp
      have h3 : ¬ (l[i] = x) := by simpa using hp
      simp only [laws_zHas.l0, h1, h2, rdOf_get _ l i hi, eq_dec, h3, if_true, if_false, wrap_succ i (by omega)]) hr)
    (fun i hi hp => Ev.at 1 0 (fun k _ => by
      have h1 : (i : Int) < (l.length : Int) := by omega
      have h2 : (0 : Int) ≤ (i : Int) := by omega
      rw [getD_at l i hi] at hp
      have h3 : l[i] = x := by simpa using hp
      simp only [laws_zHas.l0, h1, h2, rdOf_get _ l i hi, eq_dec, h3, if_true]))
  rw [any_range l (fun y => decide (y = x))] at h
  refine Ev.congr (fun k => rfl) ?_
  rw [show has l x = (if (!l.any (fun y => decide (y = x))) = true then false else true) by unfold has; cases l.any (fun y => decide (y = x)) <;> rfl]
  exact h
theorem same_ev (G : List ByteArray) (hG : G.length < 9223372036854775807) : Ev (fun k => spec_SameTexts.f k G G) true := by
  have := eq_loop (fun k i => spec_l7SameList.l0 k G G (G.length : Int) i) G.length true (fun k => by simp [spec_l7SameList.l0]) (fun i hi => ⟨0, fun k _ => by
    have h1 : (i : Int) < (G.length : Int) := by omega
    have h2 : (0 : Int) ≤ (i : Int) := by omega
    simp only [spec_l7SameList.l0, h1, h2, if_true, wrap_succ i (by omega)]⟩)
  obtain ⟨K, hK⟩ := this
  exact ⟨K, fun k hk => by have h := hK k hk; simp only at h; simp only [spec_SameTexts.f, spec_l7SameList.f, if_true, h, Option.bind_some]⟩
def hurtq (e : S31) : Bool := e.f0.toList == ([104, 117, 114, 116] : List UInt8)
theorem any_next {α : Type} (l : List α) (q : α → Bool) (i : Nat) (hi : i < l.length) : (l.take (i + 1)).any q = ((l.take i).any q || q l[i]) := by
  have h5 : l.take (i + 1) = l.take i ++ [l[i]] := by rw [List.take_add_one, List.getElem?_eq_getElem hi]; rfl
  rw [h5, List.any_append]
  simp
theorem hurt_loop (L : List S31) (nd : List ByteArray) (m : Int) (G : List ByteArray) (b x12 : Bool) (r : Bool) (hL : L.length < 1000) (h : Ev (fun k => laws_FnModes.l1 k L nd m G b (L.any hurtq) x12 nd (nd.length : Int) 0) r) :
    Ev (fun k => laws_FnModes.l0 k L nd m G b false x12 L (L.length : Int) 0) r := by
  have := run_loop2 (fun k i (s : Bool) => laws_FnModes.l0 k L nd m G b s x12 L (L.length : Int) i) L.length (fun i => (L.take i).any hurtq) r
    (Ev.step (fun k => by
      have c1 : ¬ ((L.length : Int) < (L.length : Int)) := by omega
      simp only [laws_FnModes.l0, c1, if_false, List.take_length]) h)
    (fun i hi r hr => by
      have c1 : (i : Int) < (L.length : Int) := by omega
      have c2 : (0 : Int) ≤ (i : Int) := by omega
      have hrd := rd31_at L i hi
      have hw := wrap_succ i (by omega)
      rw [any_next L hurtq i hi] at hr
      refine Ev.step (fun k => ?_) hr
      cases hq : (L.take i).any hurtq with
      | true => simp only [laws_FnModes.l0, c1, c2, hw, if_true, Bool.true_or]
      | false => simp only [laws_FnModes.l0, c1, c2, hrd, hw, if_true, Bool.false_eq_true, if_false, Bool.false_or, hurtq]) 0 (Nat.zero_le _)
  exact this
theorem lack_loop (L : List S31) (nd : List ByteArray) (m : Int) (G : List ByteArray) (b x11 : Bool) (r : Bool) (hn : nd.length < 1000) (hG : G.length < 1000)
    (h : Ev (fun k => if b = true then (if x11 = true then (laws_FnModes.j3 k L nd b false) else (if ill G nd = true then (laws_FnModes.j3 k L nd b false) else (laws_FnModes.j3 k L nd b (m == 3)))) else (laws_FnModes.j3 k L nd b false)) r) :
    Ev (fun k => laws_FnModes.l1 k L nd m G b x11 false nd (nd.length : Int) 0) r := by
  have := run_loop2 (fun k i (s : Bool) => laws_FnModes.l1 k L nd m G b x11 s nd (nd.length : Int) i) nd.length (fun i => (nd.take i).any (fun p => has G p)) r
    (Ev.step (fun k => by
      have c1 : ¬ ((nd.length : Int) < (nd.length : Int)) := by omega
      simp only [laws_FnModes.l1, c1, if_false, List.take_length, ill_swap]) h)
    (fun i hi r hr => by
      have c1 : (i : Int) < (nd.length : Int) := by omega
      have c2 : (0 : Int) ≤ (i : Int) := by omega
      have hw := wrap_succ i (by omega)
      rw [any_next nd (fun p => has G p) i hi] at hr
      obtain ⟨K, hK⟩ := zhas_ev G nd[i] (by omega)
      simp only at hK
      refine Ev.back 1 K (fun k hk => ?_) hr
      have a1 := hK k hk
      cases hq : (nd.take i).any (fun p => has G p) with
      | true => simp only [laws_FnModes.l1, c1, c2, hw, if_true, Bool.true_or]
      | false => simp only [laws_FnModes.l1, c1, c2, hw, if_true, Bool.false_eq_true, if_false, Bool.false_or, rdOf_get _ nd i hi, a1, Option.bind_some]) 0 (Nat.zero_le _)
  exact this
theorem j3_ev (L : List S31) (nd : List ByteArray) (b : Bool) (hL : L.length ≤ 100) (hb : b = true → L.length ≤ 60 ∧ nd.length ≤ 10) : Ev (fun k => laws_FnModes.j3 k L nd b false) true := by
  obtain ⟨K1, h1⟩ := plain_ev L (by omega)
  have hpl := List.length_filter_le plq L
  obtain ⟨⟨m, G, ok⟩, ⟨K2, h2⟩, hr⟩ := plain_full (L.filter plq) nd (fun e he => (List.mem_filter.1 he).2)
  obtain ⟨K3, h3⟩ := l2_ev (L.filter plq) b m ok (by omega)
  simp only at h1 h2 h3
  refine Ev.at 1 (K1 + K2 + K3) (fun k hk => ?_)
  have a1 := h1 k (by omega)
  have a2 := h2 k (by omega)
  have a3 := h3 k (by omega)
  simp only [laws_FnModes.j3, Bool.false_eq_true, if_false, a1, a2, a3, Option.bind_some]
  cases b with
  | false => rfl
  | true =>
    obtain ⟨q1, q2⟩ := hb rfl
    have := hr (by omega) q2
    simp only [Prod.mk.injEq] at this
    obtain ⟨rfl, _, rfl⟩ := this
    simp
theorem FnModes : laws_FnModes.Pure := by
  intro c hc0 _ hu8
  by_cases hbig : (c.length : Int) > 1048576
  · exact ⟨0, by simp [laws_FnModes.f, hbig]⟩
  have hc : Bytes c := fun x hx => by
    have := hu8 x hx
    simp only [Lit.wf, IntKind.min, IntKind.max, IntKind.signed, IntKind.bits, Bool.and_eq_true, decide_eq_true_eq] at this
    simp at this
    omega
  obtain ⟨L, nd, hL, hn, K1, h1⟩ := draw_ev c hc
  obtain ⟨⟨m, G, b⟩, ⟨hG, hlen, h3m⟩, ⟨K2, h2⟩, ⟨K3, h3⟩⟩ := modes_both3 L nd
  simp only at hG hlen h3m
  obtain ⟨K4, h4⟩ := same_ev G (by omega)
  have hj := j3_ev L nd b hL hlen
  have hl : Ev (fun k => laws_FnModes.l0 k L nd m G b false false L (L.length : Int) 0) true := by
    refine hurt_loop L nd m G b false true (by omega) (lack_loop L nd m G b _ true (by omega) (by omega) ?_)
    cases b with
    | false => simpa using hj
    | true =>
      by_cases q1 : L.any hurtq = true
      · simpa [q1] using hj
      · by_cases q2 : ill G nd = true
        · simpa [q1, q2] using hj
        · have hm : (m == 3) = false := by
            rw [beq_eq_false_iff_ne]
            intro e
            rcases h3m rfl e with ⟨j, hj', _, h⟩ | h
            · exact q1 (List.any_eq_true.2 ⟨L[j], List.getElem_mem hj', by simp [hurtq, h]⟩)
            · exact q2 h
          simpa [q1, q2, hm] using hj
  obtain ⟨K5, h5⟩ := hl
  simp only at h1 h2 h3 h4 h5
  refine ⟨K1 + K2 + K3 + K4 + K5 + 1, ?_⟩
  have a1 := h1 (K1 + K2 + K3 + K4 + K5 + 1) (by omega)
  have a2 := h2 (K1 + K2 + K3 + K4 + K5 + 1) (by omega)
  have a3 := h3 (K1 + K2 + K3 + K4 + K5 + 1) (by omega)
  have a4 := h4 (K1 + K2 + K3 + K4 + K5 + 1) (by omega)
  have a5 := h5 (K1 + K2 + K3 + K4 + K5) (by omega)
  simp only [laws_FnModes.f, hbig, if_false, a1, a2, a3, a4, Option.bind_some, bne_self_eq_false, Bool.false_eq_true, if_true, Bool.not_true, laws_FnModes.j0, a5]

end Go.Proofs.Ytglllkbebnlnmaa.Pure
