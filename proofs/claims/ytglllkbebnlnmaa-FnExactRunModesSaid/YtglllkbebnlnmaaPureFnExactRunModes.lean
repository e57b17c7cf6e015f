/- 'FnExactRunModes': what the program's function and the reference's answer, told over numbers and lists alone, meets the law at every input within the kinds' own bounds; no other condition. -/
import Derived.Test.YtglllkbebnlnmaaQFnExactRunModesx10
import Derived.Test.YtglllkbebnlnmaaPlain
namespace Go.Proofs.Ytglllkbebnlnmaa.Pure
open Go.RowKit Go.Proofs.Ytglllkbebnlnmaa.PFnExactRunModes Go.Proofs.Ytglllkbebnlnmaa.Plain Go.Proofs.YtglllkbebnlnmaaW.PrintWords Go.Proofs.YtglllkbebnlnmaaW.PrintLast
set_option linter.unusedVariables false
set_option linter.unusedSimpArgs false

-- the order of texts
theorem bl_irrefl : ∀ a : List UInt8, Op.bytesLess a a = false
  | [] => rfl
  | x :: r => by simp [Op.bytesLess, bl_irrefl r]
theorem bl_trans : ∀ a b c : List UInt8, Op.bytesLess a b = true → Op.bytesLess b c = true → Op.bytesLess a c = true := by
  intro a
  induction a with
  | nil =>
    intro b c h1 h2
    cases c with
    | nil => cases b <;> simp [Op.bytesLess] at h2
    | cons => rfl
  | cons x r ih =>
    intro b c h1 h2
    cases b with
    | nil => simp [Op.bytesLess] at h1
    | cons y s =>
      cases c with
      | nil => simp [Op.bytesLess] at h2
      | cons z t =>
        simp only [Op.bytesLess, Bool.or_eq_true, Bool.and_eq_true, decide_eq_true_eq, beq_iff_eq] at h1 h2 ⊢
        rcases h1 with h1 | ⟨rfl, h1⟩
        · rcases h2 with h2 | ⟨rfl, h2⟩
          · exact Or.inl (by rw [UInt8.lt_iff_toNat_lt] at *; omega)
          · exact Or.inl h1
        · rcases h2 with h2 | ⟨rfl, h2⟩
          · exact Or.inl h2
          · exact Or.inr ⟨rfl, ih s t h1 h2⟩
theorem bl_tri : ∀ a b : List UInt8, Op.bytesLess a b = false → Op.bytesLess b a = false → a = b := by
  intro a
  induction a with
  | nil => intro b h1 h2; cases b with
    | nil => rfl
    | cons => simp [Op.bytesLess] at h1
  | cons x r ih =>
    intro b h1 h2
    cases b with
    | nil => simp [Op.bytesLess] at h2
    | cons y s =>
      have e : x = y := by
        by_cases e : x = y
        · exact e
        · exfalso
          have : x < y ∨ y < x := by
            rw [UInt8.lt_iff_toNat_lt, UInt8.lt_iff_toNat_lt]
            have : x.toNat ≠ y.toNat := fun h => e (UInt8.toNat_inj.mp h)
            omega
          rcases this with h | h
          · simp [Op.bytesLess, h] at h1
          · simp [Op.bytesLess, h] at h2
      subst e
      have hx : ¬ x < x := by rw [UInt8.lt_iff_toNat_lt]; omega
      simp only [Op.bytesLess, hx, decide_false, Bool.false_or, beq_self_eq_true, Bool.true_and] at h1 h2
      rw [ih s h1 h2]
theorem ba_ext {a b : ByteArray} (h : a.toList = b.toList) : a = b := by
  rw [ByteArray.toList_eq, ByteArray.toList_eq] at h
  cases a; cases b
  simp only [ByteArray.mk.injEq]
  exact Array.toList_inj.mp h

abbrev less (a b : ByteArray) : Bool := Op.bytesLess a.toList b.toList
def has (l : List ByteArray) (x : ByteArray) : Bool := l.any (fun y => decide (y = x))
def Srt (l : List ByteArray) : Prop := l.Pairwise (fun a b => less a b = true)
def ins (l : List ByteArray) (x : ByteArray) : List ByteArray := match l with
  | [] => [x]
  | y :: r => if less y x = true then y :: ins r x else if y = x then y :: r else x :: y :: r
def del (l : List ByteArray) (x : ByteArray) : List ByteArray := l.filter (fun y => decide (y ≠ x))
theorem has_iff {l : List ByteArray} {x : ByteArray} : has l x = true ↔ x ∈ l := by
  unfold has
  rw [List.any_eq_true]
  constructor
  · rintro ⟨y, hy, h⟩; rw [of_decide_eq_true h] at hy; exact hy
  · intro h; exact ⟨x, h, decide_eq_true rfl⟩
theorem ins_mem {l : List ByteArray} {x y : ByteArray} : y ∈ ins l x → y = x ∨ y ∈ l := by
  induction l with
  | nil => simp [ins]
  | cons z r ih =>
    unfold ins
    split
    · intro h
      rcases List.mem_cons.1 h with h | h
      · exact Or.inr (by rw [h]; exact List.mem_cons_self)
      · rcases ih h with h | h
        · exact Or.inl h
        · exact Or.inr (List.mem_cons_of_mem _ h)
    · split
      · exact fun h => Or.inr h
      · intro h
        rcases List.mem_cons.1 h with h | h
        · exact Or.inl h
        · exact Or.inr h
theorem ins_srt {l : List ByteArray} (h : Srt l) (x : ByteArray) : Srt (ins l x) := by
  induction l with
  | nil => simp [ins, Srt]
  | cons z r ih =>
    obtain ⟨h1, h2⟩ := List.pairwise_cons.1 h
    unfold ins
    split
    · rename_i hz
      refine List.pairwise_cons.2 ⟨fun y hy => ?_, ih h2⟩
      rcases ins_mem hy with rfl | hy
      · exact hz
      · exact h1 y hy
    · split
      · exact h
      · rename_i hz hne
        have hxz : less x z = true := by
          cases hq : less x z with
          | true => rfl
          | false => exact absurd (ba_ext (bl_tri _ _ (Bool.eq_false_iff.mpr hz) hq)) hne
        refine List.pairwise_cons.2 ⟨fun y hy => ?_, h⟩
        rcases List.mem_cons.1 hy with rfl | hy
        · exact hxz
        · exact bl_trans _ _ _ hxz (h1 y hy)
theorem ins_len (l : List ByteArray) (x : ByteArray) : (ins l x).length ≤ l.length + 1 := by
  induction l with
  | nil => simp [ins]
  | cons z r ih =>
    unfold ins
    split
    · simp; omega
    · split <;> simp
theorem del_srt {l : List ByteArray} (h : Srt l) (x : ByteArray) : Srt (del l x) := List.Pairwise.filter _ h
theorem del_len (l : List ByteArray) (x : ByteArray) : (del l x).length ≤ l.length := List.length_filter_le _ _
theorem ins_has {l : List ByteArray} (h : Srt l) {x : ByteArray} (hx : has l x = true) : ins l x = l := by
  induction l with
  | nil => simp [has] at hx
  | cons z r ih =>
    obtain ⟨h1, h2⟩ := List.pairwise_cons.1 h
    have hm := has_iff.1 hx
    unfold ins
    split
    · rename_i hz
      rcases List.mem_cons.1 hm with rfl | hm
      · rw [show less x x = false from bl_irrefl _] at hz; cases hz
      · rw [ih h2 (has_iff.2 hm)]
    · split
      · rfl
      · rename_i hz hne
        rcases List.mem_cons.1 hm with e | hm
        · exact absurd e.symm hne
        · exact absurd (h1 x hm) hz
theorem ins_at : ∀ (l : List ByteArray) (x : ByteArray) (i : Nat), i ≤ l.length → (∀ j (hj : j < l.length), j < i → less l[j] x = true) → (∀ j (hj : j < l.length), i ≤ j → less l[j] x = false) → has l x = false → l.take i ++ [x] ++ l.drop i = ins l x
  | [], x, i, hi, _, _, _ => by simp [ins]
  | y :: r, x, i, hi, h1, h2, hn => by
    have hnr : has r x = false := by
      cases h : has r x with
      | false => rfl
      | true => rw [has_iff.2 (List.mem_cons_of_mem _ (has_iff.1 h))] at hn; cases hn
    have hyx : y ≠ x := fun e => by rw [has_iff.2 (by rw [e]; exact List.mem_cons_self)] at hn; cases hn
    cases i with
    | zero =>
      have := h2 0 (by simp) (Nat.le_refl _)
      simp only [List.getElem_cons_zero] at this
      simp [ins, this, hyx]
    | succ i =>
      have h0 := h1 0 (by simp) (by omega)
      simp only [List.getElem_cons_zero] at h0
      have := ins_at r x i (by simpa using hi) (fun j hj hji => h1 (j + 1) (by simpa using hj) (by omega)) (fun j hj hij => h2 (j + 1) (by simpa using hj) (by omega)) hnr
      simp only [List.take_succ_cons, List.drop_succ_cons, List.cons_append, ins, h0, if_true]
      rw [← this]
theorem del_none {l : List ByteArray} {x : ByteArray} (h : has l x = false) : del l x = l := by
  unfold del
  rw [List.filter_eq_self]
  intro y hy
  refine decide_eq_true (fun e => ?_)
  rw [has_iff.2 (by rw [← e]; exact hy)] at h
  cases h
theorem del_at : ∀ (l : List ByteArray) (x : ByteArray) (i : Nat), Srt l → (hi : i < l.length) → l[i] = x → l.take i ++ l.drop (i + 1) = del l x
  | y :: r, x, 0, h, hi, e => by
    obtain ⟨h1, h2⟩ := List.pairwise_cons.1 h
    simp only [List.getElem_cons_zero] at e
    subst e
    have : has r y = false := by
      cases hq : has r y with
      | false => rfl
      | true => have := h1 y (has_iff.1 hq); rw [show less y y = false from bl_irrefl _] at this; cases this
    have hd := del_none this
    unfold del at hd ⊢
    rw [List.filter_cons_of_neg (by simp), hd]
    rfl
  | y :: r, x, i + 1, h, hi, e => by
    obtain ⟨h1, h2⟩ := List.pairwise_cons.1 h
    simp only [List.getElem_cons_succ] at e
    have hi' : i < r.length := by simpa using hi
    have hne : y ≠ x := fun q => by
      have := h1 x (by rw [← e]; exact List.getElem_mem hi')
      rw [q, show less x x = false from bl_irrefl _] at this
      cases this
    have := del_at r x i h2 hi' e
    unfold del at this ⊢
    simp only [List.take_succ_cons, List.drop_succ_cons, List.cons_append]
    rw [this, List.filter_cons_of_pos (by simpa using hne)]
/-! ### What the functions tell -/
theorem any_range (l : List ByteArray) (q : ByteArray → Bool) : (List.range l.length).all (fun i => !q (l.getD i ByteArray.empty)) = !l.any q := by
  induction l with
  | nil => rfl
  | cons y r ih =>
    rw [List.length_cons, List.range_succ_eq_map, List.all_cons, List.all_map]
    simp only [List.getD_cons_zero, Function.comp_def, List.any_cons, Bool.not_or]
    rw [← ih]
    rfl
theorem getD_at (l : List ByteArray) (i : Nat) (h : i < l.length) : l.getD i ByteArray.empty = l[i] := by simp [h]
theorem eq_dec (a b : ByteArray) : (a.toList = b.toList) = (a = b) := propext ⟨ba_ext, fun h => by rw [h]⟩
theorem in_ev (l : List ByteArray) (x : ByteArray) (hl : l.length < 9223372036854775807) : Ev (fun k => spec_l22In.f k l x) (has l x) := by
  have h := all_loop2 (fun k i => spec_l22In.l0 k x l (l.length : Int) i) l.length (fun i => !decide (l.getD i ByteArray.empty = x)) false true
    (Ev.next ⟨0, fun k _ => by simp [spec_l22In.l0]⟩)
    (fun i hi hp r hr => Ev.step (fun k => by
      have h1 : (i : Int) < (l.length : Int) := by omega
      have h2 : (0 : Int) ≤ (i : Int) := by omega
      rw [getD_at l i hi] at hp
      have h3 : ¬ (l[i] = x) := by simpa using hp
      simp only [spec_l22In.l0, h1, h2, rdOf_get _ l i hi, eq_dec, h3, if_true, if_false, wrap_succ i (by omega)]) hr)
    (fun i hi hp => Ev.at 1 0 (fun k _ => by
      have h1 : (i : Int) < (l.length : Int) := by omega
      have h2 : (0 : Int) ≤ (i : Int) := by omega
      rw [getD_at l i hi] at hp
      have h3 : l[i] = x := by simpa using hp
      simp only [spec_l22In.l0, h1, h2, rdOf_get _ l i hi, eq_dec, h3, if_true]))
  rw [any_range l (fun y => decide (y = x))] at h
  refine Ev.congr (fun k => rfl) ?_
  rw [show has l x = (if (!l.any (fun y => decide (y = x))) = true then false else true) by unfold has; cases l.any (fun y => decide (y = x)) <;> rfl]
  exact h
theorem contains_ev (l : List ByteArray) (x : ByteArray) (hl : l.length < 9223372036854775807) : Ev (fun k => slices_Contains_string_string.f k l x) (has l x) := by
  have h := all_loop2 (fun k i => (slices_Index_string_string.l0 k l x (l.length : Int) i).bind fun t => some (decide (t ≥ 0))) l.length (fun i => !decide (l.getD i ByteArray.empty = x)) false true
    (Ev.next ⟨0, fun k _ => by simp [slices_Index_string_string.l0]⟩)
    (fun i hi hp r hr => Ev.step (fun k => by
      have h1 : (i : Int) < (l.length : Int) := by omega
      have h2 : (0 : Int) ≤ (i : Int) := by omega
      rw [getD_at l i hi] at hp
      have h3 : ¬ (x = l[i]) := fun e => by rw [e] at hp; simp at hp
      simp only [slices_Index_string_string.l0, h1, h2, rdOf_get _ l i hi, eq_dec, h3, if_true, if_false, wrap_succ i (by omega)]) hr)
    (fun i hi hp => Ev.at 1 0 (fun k _ => by
      have h1 : (i : Int) < (l.length : Int) := by omega
      have h2 : (0 : Int) ≤ (i : Int) := by omega
      rw [getD_at l i hi] at hp
      have h3 : x = l[i] := (by simpa using hp : l[i] = x).symm
      simp only [slices_Index_string_string.l0, h1, h2, rdOf_get _ l i hi, eq_dec, ← h3, if_true, Option.bind_some]
      simp))
  rw [any_range l (fun y => decide (y = x))] at h
  refine Ev.congr (fun k => rfl) ?_
  rw [show has l x = (if (!l.any (fun y => decide (y = x))) = true then false else true) by unfold has; cases l.any (fun y => decide (y = x)) <;> rfl]
  exact h
/-- Is a needed part among the failed ones? -/
def ill (failed needed : List ByteArray) : Bool := failed.any (fun p => has needed p)
theorem ill_swap (failed needed : List ByteArray) : needed.any (fun p => has failed p) = ill failed needed := by
  unfold ill
  rw [Bool.eq_iff_iff, List.any_eq_true, List.any_eq_true]
  constructor
  · rintro ⟨p, hp, h⟩; exact ⟨p, has_iff.1 h, has_iff.2 hp⟩
  · rintro ⟨p, hp, h⟩; exact ⟨p, has_iff.1 h, has_iff.2 hp⟩
theorem hurt_ev (needed failed : List ByteArray) (hn : needed.length < 9223372036854775807) (hf : failed.length < 9223372036854775807) : Ev (fun k => impl_RunModes_fn1.f k needed failed) (ill failed needed) := by
  have h := all_loop2 (fun k i => (slices_IndexFunc_string_string.l0 k needed failed (needed.length : Int) i).bind fun t => some (decide (t ≥ 0))) needed.length (fun i => !has failed (needed.getD i ByteArray.empty)) false true
    (Ev.next ⟨0, fun k _ => by simp [slices_IndexFunc_string_string.l0]⟩)
    (fun i hi hp r hr => by
      obtain ⟨K, hK⟩ := contains_ev failed (needed[i]) hf
      rw [getD_at needed i hi] at hp
      have h3 : has failed (needed[i]) = false := by simpa using hp
      rw [h3] at hK
      refine Ev.back 1 K (fun k hk => ?_) hr
      have h1 : (i : Int) < (needed.length : Int) := by omega
      have h2 : (0 : Int) ≤ (i : Int) := by omega
      have h4 := hK k hk
      simp only [slices_IndexFunc_string_string.l0, impl_RunModes_fn1_fn1.f, h1, h2, rdOf_get _ needed i hi, h4, if_true, Option.bind_some, Bool.false_eq_true, if_false, wrap_succ i (by omega)])
    (fun i hi hp => by
      obtain ⟨K, hK⟩ := contains_ev failed (needed[i]) hf
      rw [getD_at needed i hi] at hp
      have h3 : has failed (needed[i]) = true := by simpa using hp
      rw [h3] at hK
      refine Ev.at 1 K (fun k hk => ?_)
      have h1 : (i : Int) < (needed.length : Int) := by omega
      have h2 : (0 : Int) ≤ (i : Int) := by omega
      have h4 := hK k hk
      simp only [slices_IndexFunc_string_string.l0, impl_RunModes_fn1_fn1.f, h1, h2, rdOf_get _ needed i hi, h4, if_true, Option.bind_some]
      simp)
  rw [any_range needed (fun y => has failed y), ill_swap] at h
  refine Ev.congr (f := fun k => (slices_IndexFunc_string_string.l0 k needed failed (needed.length : Int) 0).bind fun t => some (decide (t ≥ 0))) (fun k => ?_) ?_
  · simp only [impl_RunModes_fn1.f, slices_ContainsFunc_string_string.f, slices_IndexFunc_string_string.f]
    cases slices_IndexFunc_string_string.l0 k needed failed (needed.length : Int) 0 <;> rfl
  · rw [show ill failed needed = (if (!ill failed needed) = true then false else true) by cases ill failed needed <;> rfl]
    exact h
theorem ill_ev (failed needed : List ByteArray) (hn : needed.length < 9223372036854775807) (hf : failed.length < 9223372036854775807) : Ev (fun k => spec_l26Ill.f k failed needed) (ill failed needed) := by
  have h := all_loop2 (fun k i => spec_l26Ill.l0 k needed failed (failed.length : Int) i) failed.length (fun i => !has needed (failed.getD i ByteArray.empty)) false true
    (Ev.next ⟨0, fun k _ => by simp [spec_l26Ill.l0]⟩)
    (fun i hi hp r hr => by
      obtain ⟨K, hK⟩ := in_ev needed (failed[i]) hn
      rw [getD_at failed i hi] at hp
      have h3 : has needed (failed[i]) = false := by simpa using hp
      rw [h3] at hK
      refine Ev.back 1 K (fun k hk => ?_) hr
      have h1 : (i : Int) < (failed.length : Int) := by omega
      have h2 : (0 : Int) ≤ (i : Int) := by omega
      have h4 := hK k hk
      simp only at h4
      simp only [spec_l26Ill.l0, h1, h2, rdOf_get _ failed i hi, h4, if_true, Option.bind_some, Bool.false_eq_true, if_false, wrap_succ i (by omega)])
    (fun i hi hp => by
      obtain ⟨K, hK⟩ := in_ev needed (failed[i]) hn
      rw [getD_at failed i hi] at hp
      have h3 : has needed (failed[i]) = true := by simpa using hp
      rw [h3] at hK
      refine Ev.at 1 K (fun k hk => ?_)
      have h1 : (i : Int) < (failed.length : Int) := by omega
      have h2 : (0 : Int) ≤ (i : Int) := by omega
      have h4 := hK k hk
      simp only at h4
      simp only [spec_l26Ill.l0, h1, h2, rdOf_get _ failed i hi, h4, if_true, Option.bind_some])
  rw [any_range failed (fun y => has needed y)] at h
  refine Ev.congr (fun k => rfl) ?_
  rw [show ill failed needed = (if (!failed.any (fun y => has needed y)) = true then false else true) by unfold ill; cases failed.any (fun y => has needed y) <;> rfl]
  exact h
theorem del_ev (l : List ByteArray) (x : ByteArray) (hl : l.length < 8796093022208) : Ev (fun k => spec_l26Less.f k l x) (del l x) := by
  have h := run_loop (fun k i (acc : List ByteArray) => spec_l26Less.l0 k x acc l (l.length : Int) i) l.length (fun i => del (l.take i) x) (del l x)
    (Ev.next ⟨0, fun k _ => by simp [spec_l26Less.l0]⟩)
    (fun i hi => ⟨0, fun k _ => by
      have h1 : (i : Int) < (l.length : Int) := by omega
      have h2 : (0 : Int) ≤ (i : Int) := by omega
      have h4 : (del (l.take i) x).length < 8796093022208 := by have := del_len (l.take i) x; have := List.length_take_le i l; omega
      have h5 : l.take (i + 1) = l.take i ++ [l[i]] := by rw [List.take_add_one, List.getElem?_eq_getElem hi]; rfl
      by_cases h3 : l[i] = x
      · have h6 : del (l.take (i + 1)) x = del (l.take i) x := by rw [h5]; simp [del, h3]
        simp only [spec_l26Less.l0, h1, h2, rdOf_get _ l i hi, eq_dec, h3, if_true, wrap_succ i (by omega), h6]
      · have h6 : del (l.take (i + 1)) x = del (l.take i) x ++ [l[i]] := by unfold del; rw [h5, List.filter_append, List.filter_cons_of_pos (by simpa using h3), List.filter_nil]
        simp only [spec_l26Less.l0, h1, h2, rdOf_get _ l i hi, eq_dec, h3, if_true, if_false, wrap_succ i (by omega), h6, h4]⟩) 0 (Nat.zero_le _)
  exact Ev.congr (fun k => rfl) h
theorem mid_wrap (i j : Nat) (h : i ≤ j) (hj : j < 1000000000) : wrap64 ((IntKind.u64.wrap (wrap64 ((i : Int) + (j : Int)))) / 2) = (((i + j) / 2 : Nat) : Int) := by
  have h0 : wrap64 ((i : Int) + (j : Int)) = (i : Int) + (j : Int) := wrap_in (by omega) (by omega)
  have h1 : IntKind.u64.wrap ((i : Int) + (j : Int)) = (i : Int) + (j : Int) := by
    unfold IntKind.wrap
    simp only [IntKind.signed, IntKind.bits, Bool.false_and, Bool.false_eq_true, if_false]
    omega
  rw [h0, h1, wrap_in (by omega) (by omega)]
  omega
theorem lessf (a b : ByteArray) : cmp_Less_string.f a b = some (less a b) := by
  simp [cmp_Less_string.f, cmp_isNaN_string.f]
theorem search_ev (l : List ByteArray) (x : ByteArray) (hl : l.length < 1000000) (hs : Srt l) :
    ∃ r : Int × Bool, (∃ i : Nat, i ≤ l.length ∧ r = ((i : Int), has l x) ∧ (∀ j (hj : j < l.length), j < i → less l[j] x = true) ∧ (∀ j (hj : j < l.length), i ≤ j → less l[j] x = false)) ∧
      Ev (fun k => slices_BinarySearch_string_string.f k l x) r := by
  have hlt : ∀ a b (ha : a < l.length) (hb : b < l.length), a < b → less l[a] l[b] = true := fun a b ha hb hab => List.pairwise_iff_getElem.1 hs a b ha hb hab
  have h := one_while (fun k (s : Int × Int) => slices_BinarySearch_string_string.l0 k l x (l.length : Int) s.1 s.2)
    (fun d s => ∃ i j : Nat, s = ((i : Int), (j : Int)) ∧ d = j - i ∧ i ≤ j ∧ j ≤ l.length ∧ (∀ t (ht : t < l.length), t < i → less l[t] x = true) ∧ (∀ t (ht : t < l.length), j ≤ t → less l[t] x = false))
    (fun r => ∃ i : Nat, i ≤ l.length ∧ r = ((i : Int), has l x) ∧ (∀ j (hj : j < l.length), j < i → less l[j] x = true) ∧ (∀ j (hj : j < l.length), i ≤ j → less l[j] x = false))
    (by
      rintro d s ⟨i, j, rfl, rfl, hij, hj, h1, h2⟩
      by_cases hlt' : i < j
      · refine Or.inr ?_
        have hm1 : i ≤ (i + j) / 2 := by omega
        have hm2 : (i + j) / 2 < j := by omega
        have hml : (i + j) / 2 < l.length := by omega
        have c1 : (i : Int) < (j : Int) := by omega
        have c2 : (0 : Int) ≤ (((i + j) / 2 : Nat) : Int) := by omega
        have c3 : (((i + j) / 2 : Nat) : Int) < (l.length : Int) := by omega
        cases hq : less (l[(i + j) / 2]) x with
        | true =>
          refine ⟨j - ((i + j) / 2 + 1), ((((i + j) / 2 + 1 : Nat) : Int), (j : Int)), by omega, ⟨_, j, rfl, rfl, by omega, hj, fun t ht hti => ?_, h2⟩, fun r hr => ?_⟩
          · by_cases e : t = (i + j) / 2
            · subst e; exact hq
            · exact bl_trans _ _ _ (hlt t _ ht hml (by omega)) hq
          · refine Ev.step (fun k => ?_) hr
            simp only [slices_BinarySearch_string_string.l0, c1, c2, c3, mid_wrap i j (by omega) (by omega), rdOf_get _ l _ hml, lessf, hq, if_true, Option.bind_some, wrap_succ _ (show (i + j) / 2 < 9223372036854775807 by omega)]
        | false =>
          refine ⟨(i + j) / 2 - i, ((i : Int), (((i + j) / 2 : Nat) : Int)), by omega, ⟨i, _, rfl, rfl, by omega, by omega, h1, fun t ht hti => ?_⟩, fun r hr => ?_⟩
          · by_cases e : t = (i + j) / 2
            · subst e; exact hq
            · cases hw : less l[t] x with
              | false => rfl
              | true =>
                have hw' : less (l[(i + j) / 2]) x = true := bl_trans _ _ _ (hlt _ t hml ht (by omega)) hw
                rw [hw'] at hq; cases hq
          · refine Ev.step (fun k => ?_) hr
            simp only [slices_BinarySearch_string_string.l0, c1, c2, c3, mid_wrap i j (by omega) (by omega), rdOf_get _ l _ hml, lessf, hq, if_true, Bool.false_eq_true, if_false, Option.bind_some]
      · obtain rfl : i = j := by omega
        refine Or.inl ⟨((i : Int), has l x), ⟨i, hj, rfl, h1, h2⟩, ?_⟩
        have c1 : ¬ ((i : Int) < (i : Int)) := by omega
        by_cases hi : i < l.length
        · have c2 : (i : Int) < (l.length : Int) := by omega
          have c3 : (0 : Int) ≤ (i : Int) := by omega
          by_cases e : l[i] = x
          · have hh : has l x = true := has_iff.2 (by rw [← e]; exact List.getElem_mem hi)
            rw [hh]
            exact Ev.at 1 0 (fun k _ => by simp only [slices_BinarySearch_string_string.l0, c1, c2, c3, rdOf_get _ l _ hi, eq_dec, e, if_true, if_false])
          · have hh : has l x = false := by
              cases hq : has l x with
              | false => rfl
              | true =>
                exfalso
                obtain ⟨t, ht, et⟩ := List.getElem_of_mem (has_iff.1 hq)
                rcases Nat.lt_trichotomy t i with hti | rfl | hti
                · have := h1 t ht hti; rw [et, show less x x = false from bl_irrefl _] at this; cases this
                · exact e et
                · have := hlt i t hi ht hti; rw [et, h2 i hi (Nat.le_refl _)] at this; cases this
            rw [hh]
            exact Ev.at 1 0 (fun k _ => by simp [slices_BinarySearch_string_string.l0, rdOf_get _ l _ hi, eq_dec, e, slices_isNaN_string.f, hi])
        · have hh : has l x = false := by
            cases hq : has l x with
            | false => rfl
            | true =>
              exfalso
              obtain ⟨t, ht, et⟩ := List.getElem_of_mem (has_iff.1 hq)
              have := h1 t ht (by omega); rw [et, show less x x = false from bl_irrefl _] at this; cases this
          rw [hh]
          have c2 : ¬ ((i : Int) < (l.length : Int)) := by omega
          exact Ev.at 1 0 (fun k _ => by simp only [slices_BinarySearch_string_string.l0, c1, c2, if_false]))
    (l.length - 0) ((0 : Int), (l.length : Int)) ⟨0, l.length, rfl, rfl, Nat.zero_le _, Nat.le_refl _, fun t _ ht => absurd ht (Nat.not_lt_zero _), fun t ht htl => absurd ht (by omega)⟩
  obtain ⟨r, hr, he⟩ := h
  exact ⟨r, hr, Ev.congr (fun k => rfl) he⟩

/-- The fold that l26Add walks. -/
def addf (x : ByteArray) (s : List ByteArray × Bool) (y : ByteArray) : List ByteArray × Bool :=
  if s.2 = true then (s.1 ++ [y], true) else if less y x = true then (s.1 ++ [y], false) else if y = x then (s.1 ++ [y], true) else (s.1 ++ [x] ++ [y], true)
theorem addf_true (x : ByteArray) : ∀ (l acc : List ByteArray), l.foldl (addf x) (acc, true) = (acc ++ l, true)
  | [], acc => by simp
  | y :: r, acc => by simp [addf, addf_true x r]
theorem addf_ins (x : ByteArray) : ∀ (l acc : List ByteArray), (if (l.foldl (addf x) (acc, false)).2 = true then (l.foldl (addf x) (acc, false)).1 else (l.foldl (addf x) (acc, false)).1 ++ [x]) = acc ++ ins l x
  | [], acc => by simp [ins]
  | y :: r, acc => by
    rw [List.foldl_cons]
    unfold ins
    by_cases h1 : less y x = true
    · rw [show addf x (acc, false) y = (acc ++ [y], false) by simp [addf, h1], addf_ins x r, if_pos h1]
      simp
    · by_cases h2 : y = x
      · rw [show addf x (acc, false) y = (acc ++ [y], true) by unfold addf; simp only [Bool.false_eq_true, if_false]; rw [if_neg h1, if_pos h2], addf_true, if_pos rfl, if_neg h1, if_pos h2]
        simp
      · rw [show addf x (acc, false) y = (acc ++ [x] ++ [y], true) by unfold addf; simp only [Bool.false_eq_true, if_false]; rw [if_neg h1, if_neg h2], addf_true, if_pos rfl, if_neg h1, if_neg h2]
        simp
theorem addf_len (x : ByteArray) : ∀ (l : List ByteArray) (s : List ByteArray × Bool), (l.foldl (addf x) s).1.length ≤ s.1.length + 2 * l.length
  | [], s => by simp
  | y :: r, s => by
    rw [List.foldl_cons]
    have h1 := addf_len x r (addf x s y)
    have h2 : (addf x s y).1.length ≤ s.1.length + 2 := by
      unfold addf
      split
      · simp
      · split
        · simp
        · split <;> simp
    simp only [List.length_cons]
    omega
theorem add_ev (l : List ByteArray) (x : ByteArray) (hl : l.length < 1000000) : Ev (fun k => spec_l26Add.f k l x) (ins l x) := by
  have h := run_loop2 (fun k i (s : List ByteArray × Bool) => spec_l26Add.l0 k x s.1 s.2 l (l.length : Int) i) l.length (fun i => (l.take i).foldl (addf x) ([], false)) (ins l x)
    (Ev.at 1 0 (fun k _ => by
      have hh := addf_ins x l []
      have hb := addf_len x l ([], false)
      simp only [List.length_nil, List.nil_append] at hb hh
      have c1 : ¬ ((l.length : Int) < (l.length : Int)) := by omega
      have c2 : (l.foldl (addf x) ([], false)).1.length < 8796093022208 := by omega
      simp only [spec_l26Add.l0, List.take_length, c1, if_false, c2, if_true]
      rw [← hh]
      split <;> rfl))
    (fun i hi r hr => by
      have h1 : (i : Int) < (l.length : Int) := by omega
      have h2 : (0 : Int) ≤ (i : Int) := by omega
      have h5 : l.take (i + 1) = l.take i ++ [l[i]] := by rw [List.take_add_one, List.getElem?_eq_getElem hi]; rfl
      have hb := addf_len x (l.take i) ([], false)
      have hb2 := List.length_take_le i l
      have e : (l.take (i + 1)).foldl (addf x) ([], false) = addf x ((l.take i).foldl (addf x) ([], false)) l[i] := by rw [h5, List.foldl_append]; rfl
      rw [e] at hr
      simp only [List.length_nil] at hb
      generalize (l.take i).foldl (addf x) ([], false) = s at hb hr ⊢
      obtain ⟨acc, b⟩ := s
      simp only at hb hr ⊢
      have c3 : acc.length < 8796093022208 := by omega
      have c4 : (acc ++ [x]).length < 8796093022208 := by simp; omega
      refine Ev.back 2 0 (fun k _ => ?_) hr
      cases b with
      | true => simp only [spec_l26Add.l0, spec_l26Add.j1, addf, h1, h2, c3, rdOf_get _ l i hi, if_true, Bool.false_eq_true, if_false, wrap_succ i (by omega)]
      | false =>
        by_cases q1 : less l[i] x = true
        · have q1' : Op.bytesLess l[i].toList x.toList = true := q1
          simp only [spec_l26Add.l0, spec_l26Add.j1, addf, h1, h2, c3, rdOf_get _ l i hi, q1', Bool.not_true, if_true, Bool.false_eq_true, if_false, wrap_succ i (by omega)]
        · have q1' : Op.bytesLess l[i].toList x.toList = false := Bool.eq_false_iff.mpr q1
          by_cases q2 : l[i] = x
          · have q3 : Op.bytesLess x.toList x.toList = false := bl_irrefl _
            simp only [spec_l26Add.l0, spec_l26Add.j1, addf, h1, h2, c3, rdOf_get _ l i hi, q2, q3, Bool.not_false, if_true, Bool.false_eq_true, if_false, wrap_succ i (by omega)]
          · simp only [spec_l26Add.l0, spec_l26Add.j1, addf, h1, h2, c3, c4, rdOf_get _ l i hi, q1', eq_dec, q2, Bool.not_false, if_true, Bool.false_eq_true, if_false, Option.bind_some, wrap_succ i (by omega)]) 0 (Nat.zero_le _)
  exact Ev.congr (fun k => rfl) h
/-! ### The modes -/
theorem idx_cases (s : ByteArray) : idx modeKs s =
    (if s.data.toList = [111, 110] then some 0 else if s.data.toList = [103, 111] then some 1 else if s.data.toList = [104, 117, 114, 116] then some 2 else if s.data.toList = [104, 101, 97, 108] then some 3
      else if s.data.toList = [115, 116, 111, 112] then some 4 else if s.data.toList = [114, 101, 115, 101, 116] then some 5 else if s.data.toList = [111, 102, 102] then some 6 else none) := by
  simp only [modeKs, idx]
  repeat' split
  all_goals rfl
set_option maxHeartbeats 4000000 in
theorem step_same (a0 : Int) (a1 : ByteArray) (hr : 0 ≤ a0 ∧ a0 ≤ 4) : ∃ v, 0 ≤ v ∧ v ≤ 4 ∧ impl_ModeStep.f a0 a1 = some v ∧ Ev (fun k => spec_ModeStep.f k a0 a1) v := by
  have e1 : spec_l26Mode.f a0 = some true := by unfold spec_l26Mode.f; rw [if_pos hr.1]; simp [hr.2]
  have e2 : impl_between.f a0 0 4 = some true := by unfold impl_between.f; rw [if_pos hr.1]; simp [hr.2]
  have key : spec_ModeStep.f 6 a0 a1 = impl_ModeStep.f a0 a1 ∧ ∃ v, 0 ≤ v ∧ v ≤ 4 ∧ impl_ModeStep.f a0 a1 = some v := by
    unfold spec_ModeStep.f impl_ModeStep.f find2
    rw [e1, e2, idx_cases]
    simp only [Option.bind_some, if_true, spec_ModeStep.j0, spec_ModeStep.j1, spec_ModeStep.j2, spec_ModeStep.j3, spec_ModeStep.j4, ByteArray.toList_eq]
    generalize a1.data.toList = s
    have h5 : a0 = 0 ∨ a0 = 1 ∨ a0 = 2 ∨ a0 = 3 ∨ a0 = 4 := by omega
    by_cases k1 : s = [111, 102, 102]
    · subst k1; rcases h5 with rfl | rfl | rfl | rfl | rfl <;> exact ⟨by decide, _, by decide, by decide, rfl⟩
    by_cases k2 : s = [111, 110]
    · subst k2; rcases h5 with rfl | rfl | rfl | rfl | rfl <;> exact ⟨by decide, _, by decide, by decide, rfl⟩
    by_cases k3 : s = [103, 111]
    · subst k3; rcases h5 with rfl | rfl | rfl | rfl | rfl <;> exact ⟨by decide, _, by decide, by decide, rfl⟩
    by_cases k4 : s = [104, 117, 114, 116]
    · subst k4; rcases h5 with rfl | rfl | rfl | rfl | rfl <;> exact ⟨by decide, _, by decide, by decide, rfl⟩
    by_cases k5 : s = [104, 101, 97, 108]
    · subst k5; rcases h5 with rfl | rfl | rfl | rfl | rfl <;> exact ⟨by decide, _, by decide, by decide, rfl⟩
    by_cases k6 : s = [115, 116, 111, 112]
    · subst k6; rcases h5 with rfl | rfl | rfl | rfl | rfl <;> exact ⟨by decide, _, by decide, by decide, rfl⟩
    by_cases k7 : s = [114, 101, 115, 101, 116]
    · subst k7; rcases h5 with rfl | rfl | rfl | rfl | rfl <;> exact ⟨by decide, _, by decide, by decide, rfl⟩
    simp only [k1, k2, k3, k4, k5, k6, k7, if_false, Option.bind_none, Option.getD_none]
    exact ⟨by simp, a0, hr.1, hr.2, rfl⟩
  obtain ⟨k1, v, v0, v4, hv⟩ := key
  refine ⟨v, v0, v4, hv, Ev.of (fun k => spec_ModeStep.mono a0 a1 k) (k := 6) (k1.trans hv)⟩
theorem hurt_step : impl_ModeStep.f 2 (⟨#[104, 117, 114, 116]⟩ : ByteArray) = some 3 := by decide
theorem stop_step : impl_ModeStep.f 3 (⟨#[115, 116, 111, 112]⟩ : ByteArray) = some 4 := by decide
theorem heal_step : impl_ModeStep.f 3 (⟨#[104, 101, 97, 108]⟩ : ByteArray) = some 2 := by decide

def failMode (m : Int) (mine was : Bool) : Int := if mine = true then (if m = 2 then 3 else if m = 3 then (if was = true then 3 else 4) else m) else m
def mendMode (m : Int) (mine il : Bool) : Int := if mine = true then (if m = 3 then (if il = true then 3 else 2) else m) else m
def healMode (m v : Int) (b il : Bool) : Int := if b = true then (if il = true then m else v) else v
theorem impl_fail (k : Nat) (m : Int) (mine was : Bool) (L : List S31) (n i : Int) (nd fl : List ByteArray) :
    impl_RunModes.j2 (k + 2) m mine was L n i nd fl = impl_RunModes.l0 k (failMode m mine was) L n (wrap64 (i + 1)) nd fl := by
  cases mine with
  | false => simp [impl_RunModes.j2, impl_RunModes.j3, failMode]
  | true =>
    by_cases h2 : m = 2
    · subst h2; simp [impl_RunModes.j2, impl_RunModes.j3, failMode, hurt_step]
    · by_cases h3 : m = 3
      · subst h3; cases was <;> simp [impl_RunModes.j2, impl_RunModes.j3, failMode, stop_step]
      · simp [impl_RunModes.j2, impl_RunModes.j3, failMode, h2, h3]
theorem spec_fail (k : Nat) (m : Int) (mine was : Bool) (L : List S31) (n i : Int) (nd fl : List ByteArray) :
    (if mine = true then spec_RunModes.j2 (k + 1) nd m fl mine was L n i (m == 2) else spec_RunModes.j2 (k + 1) nd m fl mine was L n i false) = spec_RunModes.l0 k nd (failMode m mine was) fl L n (wrap64 (i + 1)) := by
  cases mine with
  | false => simp [spec_RunModes.j2, failMode]
  | true =>
    by_cases h2 : m = 2
    · subst h2; simp [spec_RunModes.j2, failMode]
    · by_cases h3 : m = 3
      · subst h3; cases was <;> simp [spec_RunModes.j2, failMode]
      · simp [spec_RunModes.j2, failMode, h2, h3]
theorem insert_f (l : List ByteArray) (x : ByteArray) (p : Nat) (hp : p ≤ l.length) (hl : l.length ≤ 1000000) : slices_Insert_string_string.f l (p : Int) [x] = some (l.take p ++ [x] ++ l.drop p) := by
  unfold slices_Insert_string_string.f
  rw [if_pos ⟨by omega, by omega, rfl, hl⟩, toNat_i]
theorem delete_f (l : List ByteArray) (p : Nat) (hp : p < l.length) (hl : l.length ≤ 1000000) : slices_Delete_string_string.f l (p : Int) (wrap64 ((p : Int) + 1)) = some (l.take p ++ l.drop (p + 1)) := by
  unfold slices_Delete_string_string.f
  rw [wrap_succ p (by omega), if_pos ⟨by omega, by omega, by omega⟩, toNat_i, toNat_i]
theorem found_at (l : List ByteArray) (x : ByteArray) (p : Nat) (hs : Srt l) (hx : has l x = true) (h1 : ∀ j (hj : j < l.length), j < p → less l[j] x = true) (h2 : ∀ j (hj : j < l.length), p ≤ j → less l[j] x = false) : ∃ h : p < l.length, l[p] = x := by
  obtain ⟨t, ht, et⟩ := List.getElem_of_mem (has_iff.1 hx)
  rcases Nat.lt_trichotomy t p with htp | rfl | htp
  · have := h1 t ht htp; rw [et, show less x x = false from bl_irrefl _] at this; cases this
  · exact ⟨ht, et⟩
  · have hp : p < l.length := by omega
    have := List.pairwise_iff_getElem.1 hs p t hp ht htp
    rw [et, h2 p hp (Nat.le_refl _)] at this
    cases this
theorem rd31_at (L : List S31) (i : Nat) (h : i < L.length) : rd_T31 L (i : Int) = L[i] := by simp [rd_T31, h]
set_option maxHeartbeats 4000000 in
theorem modes_loop (L : List S31) (nd : List ByteArray) (hL : L.length ≤ 60) (hn : nd.length ≤ 10) : ∃ (r q : Int × List ByteArray × Bool), (r = q ∧ r.2.2 = true ∧ r.2.1.length ≤ 60) ∧
    Ev (fun k => impl_RunModes.l0 k 0 L (L.length : Int) 0 nd []) r ∧ Ev (fun k => spec_RunModes.l0 k nd 0 [] L (L.length : Int) 0) q := by
  have h := two_while (fun k (s : Int × Int × List ByteArray) => impl_RunModes.l0 k s.1 L (L.length : Int) s.2.1 nd s.2.2) (fun k (t : Int × List ByteArray × Int) => spec_RunModes.l0 k nd t.1 t.2.1 L (L.length : Int) t.2.2)
    (fun d s t => ∃ (i : Nat) (m : Int) (fl : List ByteArray), i ≤ L.length ∧ d = L.length - i ∧ s = (m, (i : Int), fl) ∧ t = (m, fl, (i : Int)) ∧ 0 ≤ m ∧ m ≤ 4 ∧ Srt fl ∧ fl.length ≤ i)
    (fun (r q : Int × List ByteArray × Bool) => r = q ∧ r.2.2 = true ∧ r.2.1.length ≤ 60)
    (by
      rintro d s t ⟨i, m, fl, hi, rfl, rfl, rfl, m0, m4, hs, hfl⟩
      by_cases hlt : i < L.length
      · refine Or.inr ?_
        have c1 : (i : Int) < (L.length : Int) := by omega
        have c2 : (0 : Int) ≤ (i : Int) := by omega
        have hrd := rd31_at L i hlt
        have hw := wrap_succ i (by omega)
        generalize L[i] = e at hrd
        obtain ⟨Ki, hin⟩ := in_ev nd e.f1 (by omega)
        obtain ⟨Kc, hct⟩ := contains_ev nd e.f1 (by omega)
        obtain ⟨rb, ⟨p, hp, hrb, hb1, hb2⟩, Kb, hbs⟩ := search_ev fl e.f1 (by omega) hs
        subst hrb
        obtain ⟨Kw, hwas⟩ := in_ev fl e.f1 (by omega)
        simp only at hin hct hbs hwas
        generalize has nd e.f1 = mine at hin hct
        by_cases k1 : e.f0.toList = [102, 97, 105, 108]
        · obtain ⟨Ka, hadd⟩ := add_ev fl e.f1 (by omega)
          simp only at hadd
          refine ⟨L.length - (i + 1), (failMode m mine (has fl e.f1), ((i + 1 : Nat) : Int), ins fl e.f1), (failMode m mine (has fl e.f1), ins fl e.f1, ((i + 1 : Nat) : Int)), by omega,
            ⟨i + 1, _, _, by omega, rfl, rfl, rfl, ?_, ?_, ins_srt hs _, by have := ins_len fl e.f1; omega⟩, fun r hr => ?_, fun r hr => ?_⟩
          · unfold failMode; split <;> (try split) <;> (try split) <;> (try split) <;> omega
          · unfold failMode; split <;> (try split) <;> (try split) <;> (try split) <;> omega
          · refine Ev.back 3 (Kc + Kb) (fun k hk => ?_) hr
            have a1 := hct (k + 2) (by omega)
            have a2 := hbs (k + 2) (by omega)
            simp only [impl_RunModes.l0, c1, c2, hrd, k1, a1, a2, if_true, Option.bind_some]
            rw [← hw, ← impl_fail]
            cases hq : has fl e.f1 with
            | true => rw [if_pos rfl, ins_has hs hq]
            | false => rw [if_neg (by decide), insert_f fl e.f1 p hp (by omega), ins_at fl e.f1 p hp hb1 hb2 hq]; rfl
          · refine Ev.back 2 (Ki + Kw + Ka) (fun k hk => ?_) hr
            have a1 := hin (k + 1) (by omega)
            have a2 := hwas (k + 1) (by omega)
            have a3 := hadd (k + 1) (by omega)
            simp only [spec_RunModes.l0, c1, c2, hrd, k1, a1, a2, a3, if_true, Option.bind_some]
            rw [← hw, ← spec_fail]
        · by_cases k2 : e.f0.toList = [109, 101, 110, 100]
          · obtain ⟨Kd, hdel⟩ := del_ev fl e.f1 (by omega)
            have hdl := del_len fl e.f1
            obtain ⟨Kh, hh⟩ := hurt_ev nd (del fl e.f1) (by omega) (by omega)
            obtain ⟨Kl, hil⟩ := ill_ev (del fl e.f1) nd (by omega) (by omega)
            simp only at hdel hh hil
            generalize hill : ill (del fl e.f1) nd = il at hh hil
            refine ⟨L.length - (i + 1), (mendMode m mine il, ((i + 1 : Nat) : Int), del fl e.f1), (mendMode m mine il, del fl e.f1, ((i + 1 : Nat) : Int)), by omega,
              ⟨i + 1, _, _, by omega, rfl, rfl, rfl, ?_, ?_, del_srt hs _, by omega⟩, fun r hr => ?_, fun r hr => ?_⟩
            · unfold mendMode; split <;> (try split) <;> (try split) <;> omega
            · unfold mendMode; split <;> (try split) <;> (try split) <;> omega
            · refine Ev.back 2 (Kc + Kb + Kh) (fun k hk => ?_) hr
              have a1 := hct (k + 1) (by omega)
              have a2 := hbs (k + 1) (by omega)
              have a3 := hh k (by omega)
              have j4 : impl_RunModes.j4 (k + 1) m mine L (L.length : Int) (i : Int) nd (del fl e.f1) = impl_RunModes.l0 k (mendMode m mine il) L (L.length : Int) ((i + 1 : Nat) : Int) nd (del fl e.f1) := by
                rw [← hw]
                cases mine with
                | false => simp [impl_RunModes.j4, mendMode]
                | true =>
                  by_cases h3 : m = 3
                  · subst h3; cases il <;> simp [impl_RunModes.j4, mendMode, a3, heal_step]
                  · simp [impl_RunModes.j4, mendMode, h3]
              simp only [impl_RunModes.l0, c1, c2, hrd, k2, show ¬ ([109, 101, 110, 100] : List UInt8) = [102, 97, 105, 108] by decide, a1, a2, if_true, if_false, Option.bind_some]
              rw [← j4]
              cases hq : has fl e.f1 with
              | true =>
                obtain ⟨hpl, hpe⟩ := found_at fl e.f1 p hs hq hb1 hb2
                rw [if_pos rfl, delete_f fl p hpl (by omega), del_at fl e.f1 p hs hpl hpe]; rfl
              | false => simp only [Bool.false_eq_true, if_false, del_none hq]
            · refine Ev.back 1 (Ki + Kd + Kl) (fun k hk => ?_) hr
              have a1 := hin k (by omega)
              have a2 := hdel k (by omega)
              have a3 := hil k (by omega)
              simp only [spec_RunModes.l0, c1, c2, hrd, k1, k2, a1, a2, if_true, if_false, Option.bind_some, hw]
              cases mine with
              | false => simp [mendMode]
              | true =>
                by_cases h3 : m = 3
                · subst h3; cases il <;> simp [mendMode, a3]
                · simp [mendMode, h3]
          · obtain ⟨v, v0, v4, hv, Kv, hsv⟩ := step_same m e.f0 ⟨m0, m4⟩
            obtain ⟨Kh, hh⟩ := hurt_ev nd fl (by omega) (by omega)
            obtain ⟨Kl, hil⟩ := ill_ev fl nd (by omega) (by omega)
            simp only at hsv hh hil
            generalize hill : ill fl nd = il at hh hil
            obtain ⟨b, hb⟩ : ∃ b, b = (if e.f0.toList = [104, 101, 97, 108] then (e.f0.toList == ([104, 101, 97, 108] : List UInt8)) else (e.f0.toList == ([103, 111] : List UInt8))) := ⟨_, rfl⟩
            have j5 : ∀ k, Kh ≤ k → impl_RunModes.j5 (k + 1) m L (L.length : Int) (i : Int) b nd fl e.f0 e.f1 = impl_RunModes.l0 k (healMode m v b il) L (L.length : Int) ((i + 1 : Nat) : Int) nd fl := by
              intro k hk
              have a3 := hh k hk
              rw [← hw]
              cases b <;> cases il <;> simp [impl_RunModes.j5, healMode, a3, hv]
            have j3 : ∀ k, Kl + Kv ≤ k → spec_RunModes.j3 (k + 1) nd m fl L (L.length : Int) (i : Int) b e.f0 e.f1 = spec_RunModes.l0 k nd (healMode m v b il) fl L (L.length : Int) ((i + 1 : Nat) : Int) := by
              intro k hk
              have a3 := hil k (by omega)
              have a4 := hsv k (by omega)
              rw [← hw]
              cases b <;> cases il <;> simp [spec_RunModes.j3, healMode, a3, a4]
            refine ⟨L.length - (i + 1), (healMode m v b il, ((i + 1 : Nat) : Int), fl), (healMode m v b il, fl, ((i + 1 : Nat) : Int)), by omega,
              ⟨i + 1, _, _, by omega, rfl, rfl, rfl, ?_, ?_, hs, by omega⟩, fun r hr => ?_, fun r hr => ?_⟩
            · unfold healMode; split <;> (try split) <;> omega
            · unfold healMode; split <;> (try split) <;> omega
            · refine Ev.back 2 (Kc + Kb + Kh) (fun k hk => ?_) hr
              have a1 := hct (k + 1) (by omega)
              have a2 := hbs (k + 1) (by omega)
              simp only [impl_RunModes.l0, c1, c2, hrd, k1, k2, a1, a2, if_true, if_false, Option.bind_some]
              rw [← j5 k (by omega), hb]
              split <;> rfl
            · refine Ev.back 2 (Ki + Kl + Kv) (fun k hk => ?_) hr
              have a1 := hin (k + 1) (by omega)
              simp only [spec_RunModes.l0, c1, c2, hrd, k1, k2, a1, if_true, if_false, Option.bind_some]
              rw [← j3 k (by omega), hb]
              split <;> rfl
      · refine Or.inl ⟨(m, fl, true), (m, fl, true), ⟨rfl, rfl, by simp only; omega⟩, ?_, ?_⟩
        · have c1 : ¬ (i : Int) < (L.length : Int) := by omega
          exact Ev.at 1 0 (fun k _ => by simp only [impl_RunModes.l0, c1, if_false])
        · have c1 : ¬ (i : Int) < (L.length : Int) := by omega
          exact Ev.at 1 0 (fun k _ => by simp only [spec_RunModes.l0, c1, if_false]))
    L.length (0, 0, []) (0, [], 0) ⟨0, 0, [], Nat.zero_le _, by omega, rfl, rfl, by decide, by decide, List.Pairwise.nil, Nat.le_refl _⟩
  obtain ⟨r, q, hp, h1, h2⟩ := h
  exact ⟨r, q, hp, h1, h2⟩
theorem modes_both (L : List S31) (nd : List ByteArray) : ∃ (r : Int × List ByteArray × Bool), r.2.1.length ≤ 60 ∧ Ev (fun k => impl_RunModes.f k L nd) r ∧ Ev (fun k => spec_RunModes.f k L nd) r := by
  by_cases h1 : (L.length : Int) > 60
  · exact ⟨(0, [], false), Nat.zero_le _, Ev.at 1 0 (fun k _ => by simp only [impl_RunModes.f, h1, if_true, impl_RunModes.j0]), Ev.at 1 0 (fun k _ => by simp only [spec_RunModes.f, h1, if_true, spec_RunModes.j0])⟩
  · by_cases h2 : (nd.length : Int) > 10
    · exact ⟨(0, [], false), Nat.zero_le _, Ev.at 1 0 (fun k _ => by simp only [impl_RunModes.f, h1, h2, if_false, decide_true, if_true, impl_RunModes.j0]), Ev.at 1 0 (fun k _ => by simp only [spec_RunModes.f, h1, h2, if_false, decide_true, if_true, spec_RunModes.j0])⟩
    · obtain ⟨r, q, ⟨rfl, _, hl⟩, e1, e2⟩ := modes_loop L nd (by omega) (by omega)
      refine ⟨r, hl, Ev.step (fun k => ?_) e1, Ev.step (fun k => ?_) e2⟩
      · simp only [impl_RunModes.f, h1, h2, if_false, decide_false, Bool.false_eq_true, impl_RunModes.j0]
      · simp only [spec_RunModes.f, h1, h2, if_false, decide_false, Bool.false_eq_true, spec_RunModes.j0]
/-! ### The law's own functions -/
theorem mt_loop : ∀ (d : Nat) (x : Int) (s : ByteArray), x.toNat = d → 0 ≤ x → x + (s.size : Int) ≤ 4611686018427387904 → ∃ t, Ev (fun k => laws_markText.l0 k x s) t := by
  intro d
  induction d using Nat.strongRecOn with
  | _ d ih =>
    intro x s hd h0 hb
    by_cases hx : x > 0
    · have e1 : Int.tdiv x 10 = x / 10 := Int.tdiv_eq_ediv_of_nonneg h0
      have e2 : wrap64 (Int.tdiv x 10) = x / 10 := by rw [e1]; exact wrap_in (by omega) (by omega)
      have hsz : (strOfNums ([(wrap64 (48 + (Int.tmod x 10))) % 256] : List Int)).size = 1 := strOfNums_size _
      obtain ⟨t, ht⟩ := ih (x / 10).toNat (by omega) (x / 10) (strOfNums ([(wrap64 (48 + (Int.tmod x 10))) % 256] : List Int) ++ s) rfl (by omega) (by rw [ByteArray.size_append, hsz]; omega)
      refine ⟨t, Ev.step (fun k => ?_) ht⟩
      have c : (strOfNums ([(wrap64 (48 + (Int.tmod x 10))) % 256] : List Int)).size + s.size ≤ 9223372036854775807 := by rw [hsz]; omega
      simp only [laws_markText.l0, hx, if_true, Option.bind_some, c, e2]
    · have c : 1 + s.size ≤ 9223372036854775807 := by omega
      exact ⟨_, Ev.at 1 0 (fun k _ => by simp only [laws_markText.l0, hx, if_false, c, if_true]; rfl)⟩
theorem mt_ex (n : Int) (h : n ≤ 4611686018427387904) : ∃ t, Ev (fun k => laws_markText.f k n) t := by
  by_cases h0 : n ≤ 0
  · exact ⟨(⟨#[109, 48]⟩ : ByteArray), Ev.congr (fun k => by simp only [laws_markText.f, h0, if_true]) (Ev.now _)⟩
  · obtain ⟨t, ht⟩ := mt_loop n.toNat n ⟨#[]⟩ rfl (by omega) (by show n + ((0 : Nat) : Int) ≤ _; omega)
    exact ⟨t, Ev.congr (fun k => by simp only [laws_markText.f, h0, if_false]) ht⟩
open Classical in
noncomputable def mt (n : Int) : ByteArray := if h : ∃ t, Ev (fun k => laws_markText.f k n) t then h.choose else ⟨#[]⟩
theorem mt_ev (n : Int) (h : n ≤ 4611686018427387904) : Ev (fun k => laws_markText.f k n) (mt n) := by
  unfold mt
  rw [dif_pos (mt_ex n h)]
  exact (mt_ex n h).choose_spec
theorem markS_ev (l : List ByteArray) (m0 : Int) (h0 : 0 ≤ m0) (hm : m0 + l.length ≤ 1000000000) :
    Ev (fun k => laws_markStringS.f k l m0) (m0 + ((1 : Nat) : Int) * (l.length : Int), (List.range l.length).map fun (j : Nat) => mt (m0 + ((1 : Nat) : Int) * (j : Int))) := by
  have h := mark_loop (fun k ys m i => laws_markStringS.l0 k ys m i) mt 1 m0 l (fun k ys m hy => by simp [laws_markStringS.l0, hy]) (fun i hi => by
    obtain ⟨K, hK⟩ := mt_ev (m0 + ((1 : Nat) : Int) * (i : Int)) (by omega)
    refine ⟨K, fun k hk ys hy => ?_⟩
    have h1 : (i : Int) < (ys.length : Int) := by omega
    have h2 : (0 : Int) ≤ (i : Int) := by omega
    have h3 := hK k hk
    have h4 : wrap64 (m0 + ((1 : Nat) : Int) * (i : Int) + 1) = m0 + ((1 : Nat) : Int) * ((i + 1 : Nat) : Int) := (wrap_in (by omega) (by omega)).trans (by omega)
    simp only at h3
    simp only [laws_markStringS.l0, h1, h2, h3, h4, if_true, wrap_succ i (by omega), toNat_i, Option.bind_some])
  exact Ev.congr (fun k => rfl) h
theorem heldS_ev (n : Nat) (m0 : Int) (h0 : 0 ≤ m0) (hm : m0 + n ≤ 1000000000) :
    Ev (fun k => laws_heldStringS.f k ((List.range n).map fun (j : Nat) => mt (m0 + ((1 : Nat) : Int) * (j : Int))) m0) (m0 + ((1 : Nat) : Int) * (n : Int)) := by
  have h := held_loop (fun k m i => laws_heldStringS.l0 k ((List.range n).map fun (j : Nat) => mt (m0 + ((1 : Nat) : Int) * (j : Int))) m i) 1 m0 n (m0 + ((1 : Nat) : Int) * (n : Int)) (fun k => by simp [laws_heldStringS.l0]) (fun i hi => by
    obtain ⟨K, hK⟩ := mt_ev (m0 + ((1 : Nat) : Int) * (i : Int)) (by omega)
    refine ⟨K, fun k hk => ?_⟩
    have h1 : (i : Int) < ((((List.range n).map fun (j : Nat) => mt (m0 + ((1 : Nat) : Int) * (j : Int))).length : Nat) : Int) := by simp; omega
    have h2 : (0 : Int) ≤ (i : Int) := by omega
    have h3 := hK k hk
    have h5 : rdOf ByteArray.empty ((List.range n).map fun (j : Nat) => mt (m0 + ((1 : Nat) : Int) * (j : Int))) (i : Int) = mt (m0 + ((1 : Nat) : Int) * (i : Int)) := by
      rw [rdOf_get _ _ i (by simpa using hi)]; simp
    have h4 : wrap64 (m0 + ((1 : Nat) : Int) * (i : Int) + 1) = m0 + ((1 : Nat) : Int) * ((i + 1 : Nat) : Int) := (wrap_in (by omega) (by omega)).trans (by omega)
    simp only at h3
    generalize ((List.range n).map fun (j : Nat) => mt (m0 + ((1 : Nat) : Int) * (j : Int))) = M at *
    simp only [laws_heldStringS.l0, h1, h2, h3, h4, h5, if_true, wrap_succ i (by omega), Option.bind_some])
  exact Ev.congr (fun k => rfl) h
theorem markE_ev (l : List S31) (hl : l.length ≤ 1048576) : ∃ r : Int × List S31, r.1 = 1 + 2 * (l.length : Int) ∧ Ev (fun k => laws_markEventS.f k l 1) r := by
  have h := one_while (fun k (s : List S31 × Int × Int) => laws_markEventS.l0 k s.1 s.2.1 s.2.2)
    (fun d s => ∃ (i : Nat) (ys : List S31), s = (ys, 1 + 2 * (i : Int), (i : Int)) ∧ ys.length = l.length ∧ i ≤ l.length ∧ d = l.length - i) (fun r => r.1 = 1 + 2 * (l.length : Int))
    (by
      rintro d s ⟨i, ys, rfl, hy, hi, rfl⟩
      by_cases hlt : i < l.length
      · obtain ⟨K1, hK1⟩ := mt_ev (1 + 2 * (i : Int)) (by omega)
        obtain ⟨K2, hK2⟩ := mt_ev (1 + 2 * (i : Int) + 1) (by omega)
        simp only at hK1 hK2
        have h1 : (i : Int) < (ys.length : Int) := by omega
        have h2 : (0 : Int) ≤ (i : Int) := by omega
        have w1 : wrap64 (1 + 2 * (i : Int) + 1) = 1 + 2 * (i : Int) + 1 := wrap_in (by omega) (by omega)
        have w2 : wrap64 (1 + 2 * (i : Int) + 1 + 1) = 1 + 2 * ((i + 1 : Nat) : Int) := (wrap_in (by omega) (by omega)).trans (by omega)
        obtain ⟨Y1, hY1⟩ : ∃ Y1, Y1 = ys.set i (⟨mt (1 + 2 * (i : Int)), (rd_T31 ys (i : Int)).f1⟩ : S31) := ⟨_, rfl⟩
        refine Or.inr ⟨l.length - (i + 1), (Y1.set i (⟨(rd_T31 Y1 (i : Int)).f0, mt (1 + 2 * (i : Int) + 1)⟩ : S31), 1 + 2 * ((i + 1 : Nat) : Int), ((i + 1 : Nat) : Int)), by omega, ⟨i + 1, _, rfl, by rw [List.length_set, hY1, List.length_set]; exact hy, by omega, rfl⟩, fun r hr => Ev.back 1 (K1 + K2) (fun k hk => ?_) hr⟩
        · have a1 := hK1 k (by omega)
          have a2 := hK2 k (by omega)
          simp only [laws_markEventS.l0, h1, h2, a1, a2, w1, w2, if_true, wrap_succ i (by omega), toNat_i, Option.bind_some, hY1]
      · obtain rfl : i = l.length := by omega
        have h1 : ¬ ((l.length : Int) < (ys.length : Int)) := by omega
        exact Or.inl ⟨(1 + 2 * (l.length : Int), ys), rfl, Ev.at 1 0 (fun k _ => by simp only [laws_markEventS.l0, h1, if_false])⟩)
    (l.length - 0) (l, 1, 0) ⟨0, l, rfl, rfl, Nat.zero_le _, rfl⟩
  obtain ⟨r, hr, he⟩ := h
  exact ⟨r, hr, Ev.congr (fun k => rfl) he⟩
theorem sz1 (a b : ByteArray) (n : Int) (ha : a.size ≤ 140737488351232) (hb : b.size ≤ 140737488351232) (h0 : 0 ≤ n) (h1 : n ≤ 1048576) : ∃ t, laws_szEvent.f a b n = some t ∧ (t < 0 ∨ (0 ≤ t ∧ t ≤ n)) := by
  unfold laws_szEvent.f
  have e1 : wrap64 (n - (a.size : Int)) = n - (a.size : Int) := wrap_in (by omega) (by omega)
  have e2 : wrap64 (n - (a.size : Int) - (b.size : Int)) = n - (a.size : Int) - (b.size : Int) := wrap_in (by omega) (by omega)
  rw [e1, e2]
  split
  · exact ⟨-1, rfl, Or.inl (by decide)⟩
  · split
    · exact ⟨-1, rfl, Or.inl (by decide)⟩
    · exact ⟨_, rfl, Or.inr ⟨by omega, by omega⟩⟩
theorem szE_ev (l : List S64) (hl : l.length ≤ 140737488351232) (hz : ∀ z ∈ l, z.f0.size ≤ 140737488351232 ∧ z.f1.size ≤ 140737488351232) : ∃ t, (t < 0 ∨ (0 ≤ t ∧ t ≤ 1048576 ∧ l.length ≤ 1048576)) ∧ Ev (fun k => laws_szEventS.f k l 1048576) t := by
  have e0 : wrap64 (1048576 - (l.length : Int)) = 1048576 - (l.length : Int) := wrap_in (by omega) (by omega)
  by_cases hn : (1048576 : Int) - (l.length : Int) < 0
  · exact ⟨-1, Or.inl (by decide), Ev.congr (fun k => by simp only [laws_szEventS.f, e0, hn, if_true]) (Ev.now _)⟩
  have h := one_while (fun k (s : Int × Int) => laws_szEventS.l0 k l s.1 s.2) (fun d s => ∃ (i : Nat) (n : Int), s = (n, (i : Int)) ∧ 0 ≤ n ∧ n ≤ 1048576 ∧ i ≤ l.length ∧ d = l.length - i) (fun t => t < 0 ∨ (0 ≤ t ∧ t ≤ 1048576 ∧ l.length ≤ 1048576))
    (by
      rintro d s ⟨i, n, rfl, h0, h1, hi, rfl⟩
      by_cases hlt : i < l.length
      · have c1 : (i : Int) < (l.length : Int) := by omega
        have c2 : (0 : Int) ≤ (i : Int) := by omega
        have hrd : rd_T64 l (i : Int) = l[i] := by simp [rd_T64, hlt]
        have hm := hz l[i] (List.getElem_mem hlt)
        obtain ⟨t, ht, hc⟩ := sz1 l[i].f0 l[i].f1 n hm.1 hm.2 h0 h1
        rcases hc with hc | ⟨hc0, hc1⟩
        · exact Or.inl ⟨-1, Or.inl (by decide), Ev.at 1 0 (fun k _ => by simp only [laws_szEventS.l0, c1, c2, hrd, ht, hc, if_true, Option.bind_some])⟩
        · have hnt : ¬ t < 0 := by omega
          refine Or.inr ⟨l.length - (i + 1), (t, ((i + 1 : Nat) : Int)), by omega, ⟨i + 1, t, rfl, hc0, by omega, by omega, rfl⟩, fun r hr => Ev.step (fun k => ?_) hr⟩
          simp only [laws_szEventS.l0, c1, c2, hrd, ht, hnt, if_true, if_false, Option.bind_some, wrap_succ i (by omega)]
      · have c1 : ¬ (i : Int) < (l.length : Int) := by omega
        exact Or.inl ⟨n, Or.inr ⟨h0, h1, by omega⟩, Ev.at 1 0 (fun k _ => by simp only [laws_szEventS.l0, c1, if_false])⟩)
    (l.length - 0) (1048576 - (l.length : Int), 0) ⟨0, _, rfl, by omega, by omega, Nat.zero_le _, rfl⟩
  obtain ⟨t, ht, he⟩ := h
  exact ⟨t, ht, Ev.congr (fun k => by simp only [laws_szEventS.f, e0, hn, if_false]) he⟩
theorem szS_ev (l : List ByteArray) (m : Int) (h0 : 0 ≤ m) (hm : m ≤ 1048576) (hl : l.length ≤ 140737488351232) (hz : ∀ z ∈ l, z.size ≤ 140737488351232) : ∃ t, (t < 0 ∨ l.length ≤ 1048576) ∧ Ev (fun k => laws_szStringS.f k l m) t := by
  have e0 : wrap64 (m - (l.length : Int)) = m - (l.length : Int) := wrap_in (by omega) (by omega)
  by_cases hn : m - (l.length : Int) < 0
  · exact ⟨-1, Or.inl (by decide), Ev.congr (fun k => by simp only [laws_szStringS.f, e0, hn, if_true]) (Ev.now _)⟩
  have h := one_while (fun k (s : Int × Int) => laws_szStringS.l0 k l s.1 s.2) (fun d s => ∃ (i : Nat) (n : Int), s = (n, (i : Int)) ∧ 0 ≤ n ∧ n ≤ 1048576 ∧ i ≤ l.length ∧ d = l.length - i) (fun t => t < 0 ∨ l.length ≤ 1048576)
    (by
      rintro d s ⟨i, n, rfl, h0, h1, hi, rfl⟩
      by_cases hlt : i < l.length
      · have c1 : (i : Int) < (l.length : Int) := by omega
        have c2 : (0 : Int) ≤ (i : Int) := by omega
        have hm := hz l[i] (List.getElem_mem hlt)
        have e1 : wrap64 (n - (l[i].size : Int)) = n - (l[i].size : Int) := wrap_in (by omega) (by omega)
        by_cases hc : n - (l[i].size : Int) < 0
        · exact Or.inl ⟨-1, Or.inl (by decide), Ev.at 1 0 (fun k _ => by simp only [laws_szStringS.l0, c1, c2, rdOf_get _ l i hlt, e1, hc, if_true])⟩
        · refine Or.inr ⟨l.length - (i + 1), (n - (l[i].size : Int), ((i + 1 : Nat) : Int)), by omega, ⟨i + 1, _, rfl, by omega, by omega, by omega, rfl⟩, fun r hr => Ev.step (fun k => ?_) hr⟩
          simp only [laws_szStringS.l0, c1, c2, rdOf_get _ l i hlt, e1, hc, if_true, if_false, wrap_succ i (by omega)]
      · have c1 : ¬ (i : Int) < (l.length : Int) := by omega
        exact Or.inl ⟨n, Or.inr (by omega), Ev.at 1 0 (fun k _ => by simp only [laws_szStringS.l0, c1, if_false])⟩)
    (l.length - 0) (m - (l.length : Int), 0) ⟨0, _, rfl, by omega, by omega, Nat.zero_le _, rfl⟩
  obtain ⟨t, ht, he⟩ := h
  exact ⟨t, ht, Ev.congr (fun k => by simp only [laws_szStringS.f, e0, hn, if_false]) he⟩
def cE (x : S64) : S31 := ⟨x.f0, x.f1⟩
theorem toE_ev (l : List S64) (h : l.length ≤ 1048576) : Ev (fun k => laws_toEventS.f k l) (l.map cE) := by
  have := to_loop (fun k acc i => laws_toEventS.l0 k l acc i) cE l z31 (fun k acc => by simp [laws_toEventS.l0]) (fun i hi => ⟨0, fun k _ acc hacc => by
    have h1 : (i : Int) < (l.length : Int) := by omega
    have h2 : (0 : Int) ≤ (i : Int) := by omega
    have h3 : (i : Int) < (acc.length : Int) := by omega
    have h4 : rd_T64 l (i : Int) = l[i] := by simp [rd_T64, hi]
    simp only [laws_toEventS.l0, laws_toEvent.f, h1, h2, h3, h4, if_true, Option.bind_some, wrap_succ i (by omega), toNat_i]
    rfl⟩)
  exact Ev.congr (fun k => by
    simp only [laws_toEventS.f, toNat_i]
    rw [if_pos (by omega), if_pos (by omega)]) this
theorem toS_ev (l : List ByteArray) (h : l.length ≤ 1048576) : Ev (fun k => laws_toStringS.f k l) l := by
  have := to_loop (fun k acc i => laws_toStringS.l0 k l acc i) id l (⟨#[]⟩ : ByteArray) (fun k acc => by simp [laws_toStringS.l0]) (fun i hi => ⟨0, fun k _ acc hacc => by
    have h1 : (i : Int) < (l.length : Int) := by omega
    have h2 : (0 : Int) ≤ (i : Int) := by omega
    have h3 : (i : Int) < (acc.length : Int) := by omega
    simp only [laws_toStringS.l0, h1, h2, h3, rdOf_get _ l i hi, if_true, wrap_succ i (by omega), toNat_i]
    rfl⟩)
  rw [List.map_id] at this
  exact Ev.congr (fun k => by
    simp only [laws_toStringS.f, toNat_i]
    rw [if_pos (by omega), if_pos (by omega)]) this
theorem eqE_ev (l : List S31) (h : l.length < 9223372036854775807) : Ev (fun k => laws_eqEventS.f k l l) true := by
  have := eq_loop (fun k i => laws_eqEventS.l0 k l l i) l.length true (fun k => by simp [laws_eqEventS.l0]) (fun i hi => ⟨0, fun k _ => by
    have h1 : (i : Int) < (l.length : Int) := by omega
    have h2 : (0 : Int) ≤ (i : Int) := by omega
    simp only [laws_eqEventS.l0, laws_eqEvent.f, h1, h2, if_true, Option.bind_some, wrap_succ i (by omega)]⟩)
  exact Ev.congr (fun k => by simp only [laws_eqEventS.f, if_true]) this
theorem eqS_ev (l : List ByteArray) (h : l.length < 9223372036854775807) : Ev (fun k => laws_eqStringS.f k l l) true := by
  have := eq_loop (fun k i => laws_eqStringS.l0 k l l i) l.length true (fun k => by simp [laws_eqStringS.l0]) (fun i hi => ⟨0, fun k _ => by
    have h1 : (i : Int) < (l.length : Int) := by omega
    have h2 : (0 : Int) ≤ (i : Int) := by omega
    simp only [laws_eqStringS.l0, h1, h2, if_true, wrap_succ i (by omega)]⟩)
  exact Ev.congr (fun k => by simp only [laws_eqStringS.f, if_true]) this
set_option maxHeartbeats 4000000 in
theorem FnExactRunModes : ∀ (l0 : List (S64)) (l1 : List ByteArray), ((∀ (zl0 : S64), zl0 ∈ l0 → (zl0.f0.size ≤ 140737488351232 ∧ zl0.f1.size ≤ 140737488351232)) ∧ l0.length * 32 ≤ 140737488351232) → ((∀ (zl1 : ByteArray), zl1 ∈ l1 → zl1.size ≤ 140737488351232) ∧ l1.length * 16 ≤ 140737488351232) → ∃ k, laws_FnExactRunModes.f k l0 l1 = some true := by
  intro l0 l1 ⟨hz0, hl0⟩ ⟨hz1, hl1⟩
  obtain ⟨t, ht, Ks, hs⟩ := szE_ev l0 (by omega) hz0
  simp only at hs
  by_cases hn : t < 0
  · exact ⟨Ks, by simp [laws_FnExactRunModes.f, hs Ks (Nat.le_refl _), hn]⟩
  obtain ⟨ht0, ht1, hlen0⟩ : 0 ≤ t ∧ t ≤ 1048576 ∧ l0.length ≤ 1048576 := by
    rcases ht with h | h
    · exact absurd h hn
    · exact h
  obtain ⟨u, hu, Ku, hsu⟩ := szS_ev l1 t ht0 ht1 (by omega) hz1
  simp only at hsu
  by_cases hn2 : u < 0
  · exact ⟨Ks + Ku, by simp [laws_FnExactRunModes.f, hs (Ks + Ku) (by omega), hn, hsu (Ks + Ku) (by omega), hn2]⟩
  have hlen1 : l1.length ≤ 1048576 := by
    rcases hu with h | h
    · exact absurd h hn2
    · exact h
  obtain ⟨K1, h1⟩ := toE_ev l0 hlen0
  obtain ⟨K2, h2⟩ := toS_ev l1 hlen1
  have hLl : (l0.map cE).length = l0.length := List.length_map ..
  generalize l0.map cE = L at *
  obtain ⟨⟨m, G, b⟩, hG, ⟨K3, h3⟩, ⟨K4, h4⟩⟩ := modes_both L l1
  simp only at hG
  obtain ⟨K5, h5⟩ := eqS_ev G (by omega)
  obtain ⟨K6, h6⟩ := eqE_ev L (by omega)
  obtain ⟨K7, h7⟩ := eqS_ev l1 (by omega)
  obtain ⟨⟨q1, q2⟩, hq, K8, h8⟩ := markE_ev L (by omega)
  simp only at hq
  obtain ⟨K9, h9⟩ := markS_ev l1 q1 (by omega) (by omega)
  obtain ⟨K10, h10⟩ := markS_ev G 1 (by omega) (by omega)
  obtain ⟨K11, h11⟩ := heldS_ev G.length 1 (by omega) (by omega)
  have hneg : ¬ (q1 + ((1 : Nat) : Int) * (l1.length : Int) < 0) := by omega
  have hneg2 : ¬ ((1 : Int) + ((1 : Nat) : Int) * (G.length : Int) < 0) := by omega
  generalize hX : (1 : Int) + ((1 : Nat) : Int) * (G.length : Int) = X at *
  generalize hZ : q1 + ((1 : Nat) : Int) * (l1.length : Int) = Z at *
  generalize ((List.range G.length).map fun (j : Nat) => mt (1 + ((1 : Nat) : Int) * (j : Int))) = M at *
  generalize ((List.range l1.length).map fun (j : Nat) => mt (q1 + ((1 : Nat) : Int) * (j : Int))) = M2 at *
  simp only at h1 h2 h3 h4 h5 h6 h7 h8 h9 h10 h11
  obtain ⟨K, hK⟩ : ∃ K, K = K1 + K2 + K3 + K4 + K5 + K6 + K7 + K8 + K9 + K10 + K11 + Ks + Ku := ⟨_, rfl⟩
  have e2 : ∀ k, K ≤ k → laws_FnExactRunModes.j2 (k + 1) M X false = some true := by
    intro k hk
    have h11' := h11 k (by omega)
    simp only [laws_FnExactRunModes.j2, Bool.false_eq_true, if_false, h11', Option.bind_some, hneg2, if_true]
  have e1 : ∀ k, K ≤ k → laws_FnExactRunModes.j1 (k + 2) l0 l1 m G b G false = some true := by
    intro k hk
    have h1' := h1 (k + 1) (by omega)
    have h2' := h2 (k + 1) (by omega)
    have h3' := h3 (k + 1) (by omega)
    have h5' := h5 (k + 1) (by omega)
    have h10' := h10 (k + 1) (by omega)
    have h11' := h11 (k + 1) (by omega)
    have e2' := e2 k (by omega)
    simp only [laws_FnExactRunModes.j1, Bool.false_eq_true, if_false, h10', h11', h1', h2', h3', h5', Option.bind_some, hneg2, if_true, bne_self_eq_false, e2']
  have e0 : ∀ k, K ≤ k → laws_FnExactRunModes.j0 (k + 3) l0 l1 m G b L l1 m G b false = some true := by
    intro k hk
    have h1' := h1 (k + 2) (by omega)
    have h2' := h2 (k + 2) (by omega)
    have h5' := h5 (k + 2) (by omega)
    have h6' := h6 (k + 2) (by omega)
    have h7' := h7 (k + 2) (by omega)
    have h8' := h8 (k + 2) (by omega)
    have h9' := h9 (k + 2) (by omega)
    have e1' := e1 k (by omega)
    simp only [laws_FnExactRunModes.j0, Bool.false_eq_true, if_false, h1', h2', h5', h6', h7', h8', h9', Option.bind_some, hneg, if_true, bne_self_eq_false, e1']
  refine ⟨K + 3, ?_⟩
  have hs' := hs (K + 3) (by omega)
  have hsu' := hsu (K + 3) (by omega)
  have h1' := h1 (K + 3) (by omega)
  have h2' := h2 (K + 3) (by omega)
  have h3' := h3 (K + 3) (by omega)
  have h4' := h4 (K + 3) (by omega)
  have h5' := h5 (K + 3) (by omega)
  have e0' := e0 K (Nat.le_refl _)
  simp only [laws_FnExactRunModes.f, hs', hsu', hn, hn2, if_false, h1', h2', h3', h4', h5', Option.bind_some, if_true, bne_self_eq_false, e0']

end Go.Proofs.Ytglllkbebnlnmaa.Pure
