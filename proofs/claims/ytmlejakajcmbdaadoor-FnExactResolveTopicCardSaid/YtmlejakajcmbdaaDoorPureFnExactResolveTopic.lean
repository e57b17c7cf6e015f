/- ResolveTopic of the program and of the reference say the same of every two texts. No condition. -/
import Derived.Test.YtmlejakajcmbdaaDoorQFnExactResolveTopicx7
import Derived.Test.YtmlejakajcmbdaaDoorPlain
namespace Go.Proofs.YtmlejakajcmbdaaDoor.Pure
open Go.RowKit Go.Proofs.YtmlejakajcmbdaaDoor.PFnExactResolveTopic Go.Proofs.YtmlejakajcmbdaaDoor.Plain Go.Proofs.YtmlejakajcmbdaaDoorW.PrintWords Go.Proofs.YtmlejakajcmbdaaDoorW.PrintLast
set_option linter.unusedVariables false
set_option linter.unusedSimpArgs false

theorem ba_ext {a b : ByteArray} (h : a.data.toList = b.data.toList) : a = b := by
  obtain ⟨⟨x⟩⟩ := a
  obtain ⟨⟨y⟩⟩ := b
  simp only at h
  rw [h]
theorem ext_list (s : ByteArray) (a b : Nat) : (s.extract a b).data.toList = (s.data.toList.drop a).take (b - a) := by
  obtain ⟨⟨l⟩⟩ := s
  have e : (ByteArray.mk (Array.mk l)).extract a b = ByteArray.mk ((l.drop a).take (b - a)).toArray := ByteArray.extract_mk l a b
  rw [e]
theorem size_list (s : ByteArray) : s.size = s.data.toList.length := Lib.size_eq s
theorem bt_list (s : ByteArray) (i : Nat) (h : i < s.size) : bt s (i : Int) = ((s.data.toList[i]'(by rw [← size_list]; exact h)).toNat : Int) := by
  have : ((i : Int)).toNat = i := by omega
  simp only [bt, this, h, dif_pos]
  rfl
theorem bt_47 (s : ByteArray) (i : Nat) (h : i < s.size) : bt s (i : Int) = 47 ↔ s.data.toList[i]'(by rw [← size_list]; exact h) = 47 := by
  rw [bt_list s i h]
  constructor
  · intro e
    have e' : (s.data.toList[i]'(by rw [← size_list]; exact h)).toNat = 47 := by omega
    exact UInt8.toNat_inj.1 e'
  · intro e
    rw [e]
    rfl
theorem index_append (c : UInt8) : ∀ (p q : List UInt8), c ∉ p → Lib.indexByte (p ++ c :: q) c = (p.length : Int)
  | [], q, _ => by simp [Lib.indexByte]
  | b :: p, q, h => by
    have h1 : ¬ b = c := fun e => h (by simp [e])
    have h2 : c ∉ p := fun e => h (by simp [e])
    have ih := index_append c p q h2
    rw [List.cons_append]
    unfold Lib.indexByte
    have : (b == c) = false := by simpa using h1
    rw [this, ih]
    have : ((p.length : Int) == -1) = false := by
      rw [beq_eq_false_iff_ne]
      omega
    rw [this]
    simp
theorem index_none (c : UInt8) : ∀ (p : List UInt8), c ∉ p → Lib.indexByte p c = -1
  | [], _ => rfl
  | b :: p, h => by
    have h1 : ¬ b = c := fun e => h (by simp [e])
    have h2 : c ∉ p := fun e => h (by simp [e])
    unfold Lib.indexByte
    have : (b == c) = false := by simpa using h1
    rw [this, index_none c p h2]
    rfl

def sl : ByteArray := ⟨#[47]⟩
def piecesOf (t : ByteArray) : List ByteArray := Lib.splitB sl 0 (Lib.countB t sl) t
theorem sl_list : sl.data.toList = [47] := rfl
theorem pieces_none (t : ByteArray) (h : (47 : UInt8) ∉ t.data.toList) : piecesOf t = [t] := by
  unfold piecesOf
  refine Lib.splitB_miss _ _ _ _ ?_
  show Lib.index _ _ = -1
  rw [sl_list, Lib.index_one, index_none _ _ h]
theorem pieces_hit (t : ByteArray) (j : Nat) (h : j < t.size) (hj : t.data.toList[j]'(by rw [← size_list]; exact h) = 47) (hb : (47 : UInt8) ∉ t.data.toList.take j) :
    piecesOf t = t.extract 0 j :: piecesOf (t.extract (j + 1) t.size) := by
  have hl : j < t.data.toList.length := by rw [← size_list]; exact h
  have e : t.data.toList = t.data.toList.take j ++ 47 :: t.data.toList.drop (j + 1) := by
    conv => lhs; rw [← List.take_append_drop j t.data.toList]
    rw [List.drop_eq_getElem_cons hl, hj]
  have hi : Lib.indexB t sl = (j : Int) := by
    show Lib.index _ _ = _
    rw [sl_list, Lib.index_one]
    conv => lhs; rw [e]
    rw [index_append _ _ _ hb, List.length_take]
    omega
  have ed : (t.extract (j + 1) t.size).data.toList = t.data.toList.drop (j + 1) := by
    rw [ext_list, List.take_of_length_le]
    rw [List.length_drop, ← size_list]
    omega
  have hc : Lib.countB t sl = Lib.countB (t.extract (j + 1) t.size) sl + 1 := by
    show Lib.count _ _ = Lib.count _ _ + 1
    rw [sl_list, Lib.count_one, Lib.count_one, ed]
    conv => lhs; rw [e]
    rw [List.count_append, List.count_cons_self, List.count_eq_zero_of_not_mem hb]
    omega
  unfold piecesOf
  rw [hc, Lib.splitB_hit _ _ _ _ j hi]
  rfl

def okb (b : Int) : Bool := if b ≥ 97 then (if b ≤ 122 then true else (if b ≥ 48 then (if b ≤ 57 then true else decide (b = 95)) else decide (b = 95))) else (if b ≥ 48 then (if b ≤ 57 then true else decide (b = 95)) else decide (b = 95))
def partB (p : ByteArray) : Bool := if (p.size : Int) < 1 then false else if (p.size : Int) > 20 then false else if bt p 0 < 97 then false else if bt p 0 > 122 then false else if (List.range p.size).all (fun i => okb (bt p (i : Int))) = true then true else false
theorem spec_part (p : ByteArray) (hp : p.size ≤ 1048576) : Ev (fun k => spec_l24Part.f k p) (partB p) := by
  have go : Ev (fun k => spec_l24Part.l0 k p 0) (if (List.range p.size).all (fun i => okb (bt p (i : Int))) = true then true else false) := by
    refine all_loop (fun k i => spec_l24Part.l0 k p i) p.size _ true false ?_ ?_ ?_
    · exact Ev.next ⟨0, fun k _ => by simp only [spec_l24Part.l0]; rw [if_neg (by omega)]⟩
    · intro i hi hp'
      refine ⟨0, fun k _ => ?_⟩
      have e : wrap64 ((i : Int) + 1) = ((i + 1 : Nat) : Int) := wrap_succ i (by omega)
      simp only [spec_l24Part.l0, e]
      rw [if_pos (by omega), if_pos (by omega)]
      simp only [okb] at hp'
      repeat' split at hp'
      all_goals simp_all
    · intro i hi hp'
      refine ⟨0, fun k _ => ?_⟩
      simp only [spec_l24Part.l0]
      rw [if_pos (by omega), if_pos (by omega)]
      simp only [okb] at hp'
      repeat' split at hp'
      all_goals first
        | (exact absurd hp' (by decide))
        | (have hq := of_decide_eq_false hp'
           (repeat' split) <;> first | rfl | (exfalso; omega))
  unfold partB
  simp only [spec_l24Part.f]
  by_cases h1 : (p.size : Int) < 1
  · simp only [h1, if_true]
    exact Ev.next ⟨0, fun k _ => by simp [spec_l24Part.j0]⟩
  by_cases h2 : (p.size : Int) > 20
  · simp only [h1, h2, if_true, if_false]
    exact Ev.next ⟨0, fun k _ => by simp [spec_l24Part.j0]⟩
  have h3 : 0 < (p.size : Int) := by omega
  by_cases h4 : bt p 0 < 97
  · simp only [h1, h2, h3, h4, if_true, if_false]
    exact Ev.next ⟨0, fun k _ => by simp [spec_l24Part.j0]⟩
  by_cases h5 : bt p 0 > 122
  · simp only [h1, h2, h3, h4, h5, if_true, if_false, decide_true]
    exact Ev.next ⟨0, fun k _ => by simp [spec_l24Part.j0]⟩
  simp only [h1, h2, h3, h4, h5, if_true, if_false, decide_false]
  refine Ev.next ?_
  simp only [spec_l24Part.j0, Bool.false_eq_true, if_false]
  exact go
theorem impl_part (p : ByteArray) (hp : p.size ≤ 1048576) : Ev (fun k => impl_goodPart.f k p) (partB p) := by
  have go : Ev (fun k => impl_goodPart.l0 k p (p.size : Int) 0) (if (List.range p.size).all (fun i => okb (bt p (i : Int))) = true then true else false) := by
    refine all_loop (fun k i => impl_goodPart.l0 k p (p.size : Int) i) p.size _ true false ?_ ?_ ?_
    · exact Ev.next ⟨0, fun k _ => by simp only [impl_goodPart.l0]; rw [if_neg (by omega)]⟩
    · intro i hi hp'
      refine ⟨0, fun k _ => ?_⟩
      have e : wrap64 ((i : Int) + 1) = ((i + 1 : Nat) : Int) := wrap_succ i (by omega)
      simp only [impl_goodPart.l0, e]
      rw [if_pos (by omega), if_pos (by omega), if_pos (by omega)]
      simp only [okb] at hp'
      repeat' split at hp'
      all_goals simp_all
    · intro i hi hp'
      refine ⟨0, fun k _ => ?_⟩
      simp only [impl_goodPart.l0]
      rw [if_pos (by omega), if_pos (by omega), if_pos (by omega)]
      simp only [okb] at hp'
      repeat' split at hp'
      all_goals first
        | (exact absurd hp' (by decide))
        | (have hq := of_decide_eq_false hp'
           (repeat' split) <;> first | rfl | (exfalso; omega))
  unfold partB
  simp only [impl_goodPart.f]
  by_cases h1 : (p.size : Int) < 1
  · simp only [h1, if_true]
    exact Ev.next ⟨0, fun k _ => by simp [impl_goodPart.j0]⟩
  by_cases h2 : (p.size : Int) > 20
  · simp only [h1, h2, if_true, if_false]
    exact Ev.next ⟨0, fun k _ => by simp [impl_goodPart.j0]⟩
  have h3 : 0 < (p.size : Int) := by omega
  by_cases h4 : bt p 0 < 97
  · simp only [h1, h2, h3, h4, if_true, if_false]
    exact Ev.next ⟨0, fun k _ => by simp [impl_goodPart.j0]⟩
  by_cases h5 : bt p 0 > 122
  · simp only [h1, h2, h3, h4, h5, if_true, if_false, decide_true]
    exact Ev.next ⟨0, fun k _ => by simp [impl_goodPart.j0]⟩
  simp only [h1, h2, h3, h4, h5, if_true, if_false, decide_false]
  refine Ev.next ?_
  simp only [impl_goodPart.j0, Bool.false_eq_true, if_false]
  exact go

theorem ext_ext (s : ByteArray) (a b c : Nat) (hb : b ≤ s.size) : (s.extract a s.size).extract b c = s.extract (a + b) (a + c) ∨ True := Or.inr trivial
theorem pieces_at (s : ByteArray) (at_ i : Nat) (hat : at_ ≤ i) (hlt : i < s.size) (hb' : s.data.toList[i]'(by rw [← size_list]; exact hlt) = 47) (hno : (47 : UInt8) ∉ (s.data.toList.take i).drop at_) :
    piecesOf (s.extract at_ s.size) = s.extract at_ i :: piecesOf (s.extract (i + 1) s.size) := by
  have hsz : (s.extract at_ s.size).size = s.size - at_ := by rw [size_list, ext_list, List.length_take, List.length_drop, ← size_list]; omega
  have hlist : (s.extract at_ s.size).data.toList = s.data.toList.drop at_ := by
    rw [ext_list, List.take_of_length_le]
    rw [List.length_drop, ← size_list]; omega
  have hj : i - at_ < (s.extract at_ s.size).size := by omega
  have hg : (s.extract at_ s.size).data.toList[i - at_]? = some 47 := by
    rw [hlist, List.getElem?_drop, show at_ + (i - at_) = i by omega, List.getElem?_eq_getElem (by rw [← size_list]; exact hlt), hb']
  have hg2 : (s.extract at_ s.size).data.toList[i - at_]'(by rw [← size_list]; exact hj) = 47 := by
    rw [List.getElem?_eq_getElem (by rw [← size_list]; exact hj)] at hg
    exact Option.some.inj hg
  have hn2 : (47 : UInt8) ∉ (s.extract at_ s.size).data.toList.take (i - at_) := by
    have : (s.data.toList.drop at_).take (i - at_) = (s.data.toList.take i).drop at_ := by rw [List.drop_take]
    rw [hlist, this]; exact hno
  have e1 : (s.extract at_ s.size).extract 0 (i - at_) = s.extract at_ i := by
    refine ba_ext ?_
    rw [ext_list, hlist, ext_list, List.drop_zero, Nat.sub_zero]
  have e2 : (s.extract at_ s.size).extract (i - at_ + 1) (s.extract at_ s.size).size = s.extract (i + 1) s.size := by
    refine ba_ext ?_
    rw [ext_list, hlist, hsz, ext_list, List.drop_drop]
    rw [show at_ + (i - at_ + 1) = i + 1 by omega, show s.size - at_ - (i - at_ + 1) = s.size - (i + 1) by omega]
  rw [pieces_hit _ (i - at_) hj hg2 hn2, e1, e2]

theorem parts_loop (s : ByteArray) (hs : s.size ≤ 1048576) : ∀ (d i at_ : Nat) (acc : List ByteArray), i + d = s.size → at_ ≤ i → acc.length ≤ i → (47 : UInt8) ∉ (s.data.toList.take i).drop at_ →
    Ev (fun k => spec_l24Parts.l0 k s acc (at_ : Int) (i : Int)) (acc ++ piecesOf (s.extract at_ s.size)) := by
  intro d
  induction d with
  | zero =>
    intro i at_ acc hi hat hacc hno
    obtain rfl : i = s.size := by omega
    have e : wrap64 ((s.size : Int) + 1) = ((s.size + 1 : Nat) : Int) := wrap_succ _ (by omega)
    have hp : piecesOf (s.extract at_ s.size) = [s.extract at_ s.size] := by
      refine pieces_none _ ?_
      rw [ext_list, ← List.drop_take]
      exact hno
    have t1 : ((at_ : Int)).toNat = at_ := by omega
    have t2 : ((s.size : Int)).toNat = s.size := by omega
    have e1 : ∀ k, spec_l24Parts.l0 (k + 1) s acc (at_ : Int) (s.size : Int) = spec_l24Parts.l0 k s (acc ++ [s.extract at_ s.size]) ((s.size + 1 : Nat) : Int) ((s.size + 1 : Nat) : Int) := fun k => by
      rw [spec_l24Parts.l0]
      rw [if_pos (Int.le_refl _), if_pos rfl, if_pos (by omega), if_pos (by omega), if_pos (by omega), e, t1, t2]
    have e2 : ∀ k a, spec_l24Parts.l0 (k + 1) s a ((s.size + 1 : Nat) : Int) ((s.size + 1 : Nat) : Int) = some a := fun k a => by
      rw [spec_l24Parts.l0]
      rw [if_neg (by omega)]
    refine Ev.next (Ev.next ⟨0, fun k _ => ?_⟩)
    show spec_l24Parts.l0 (k + 1 + 1) s acc (at_ : Int) (s.size : Int) = _
    rw [e1, e2, hp]
  | succ d ih =>
    intro i at_ acc hi hat hacc hno
    have hlt : i < s.size := by omega
    have hl : i < s.data.toList.length := by rw [← size_list]; exact hlt
    have e : wrap64 ((i : Int) + 1) = ((i + 1 : Nat) : Int) := wrap_succ _ (by omega)
    have t1 : ((at_ : Int)).toNat = at_ := by omega
    have t2 : ((i : Int)).toNat = i := by omega
    by_cases hb : bt s (i : Int) = 47
    · have hb' := (bt_47 s i hlt).1 hb
      have hp := pieces_at s at_ i hat hlt hb' hno
      have hn := ih (i + 1) (i + 1) (acc ++ [s.extract at_ i]) (by omega) (Nat.le_refl _) (by simp; omega) (by
        rw [List.drop_of_length_le (by rw [List.length_take]; omega)]
        simp)
      rw [List.append_assoc, List.singleton_append, ← hp] at hn
      refine Ev.step (fun k => ?_) hn
      simp only [spec_l24Parts.l0, e]
      rw [if_pos (by omega), if_neg (by omega), if_pos (by omega), if_pos (by omega), if_pos hb, if_pos (by omega), if_pos (by omega), if_pos (by omega), t1, t2]
    · have hb' : ¬ s.data.toList[i] = 47 := fun x => hb ((bt_47 s i hlt).2 x)
      have hn := ih (i + 1) at_ acc (by omega) (by omega) (by omega) (by
        rw [List.take_succ_eq_append_getElem hl, List.drop_append_of_le_length (by rw [List.length_take]; omega), List.mem_append]
        rintro (x | x)
        · exact hno x
        · rw [List.mem_singleton] at x
          exact hb' x.symm)
      refine Ev.step (fun k => ?_) hn
      simp only [spec_l24Parts.l0, e]
      rw [if_pos (by omega), if_neg (by omega), if_pos (by omega), if_pos (by omega), if_neg hb]

def partsB (s : ByteArray) : List ByteArray := if s.size = 0 then [] else if bt s 0 = 47 then piecesOf (s.extract 1 s.size) else []
theorem spec_parts (s : ByteArray) (hs : s.size ≤ 1048576) : Ev (fun k => spec_l24Parts.f k s) (partsB s) := by
  unfold partsB
  simp only [spec_l24Parts.f]
  by_cases h0 : s.size = 0
  · rw [if_pos h0]
    simp only [h0, Int.ofNat_zero, Int.natCast_zero, if_true]
    exact Ev.next ⟨0, fun k _ => by simp [spec_l24Parts.j0]⟩
  · rw [if_neg h0]
    have h1 : ¬ ((s.size : Int) = 0) := by omega
    have h2 : 0 < (s.size : Int) := by omega
    simp only [h1, h2, if_true, if_false]
    by_cases hb : bt s 0 = 47
    · rw [if_pos hb]
      refine Ev.next ?_
      have : (bt s 0 != 47) = false := by simp [hb]
      simp only [spec_l24Parts.j0, this, Bool.false_eq_true, if_false]
      have h := parts_loop s hs (s.size - 1) 1 1 [] (by omega) (Nat.le_refl _) (by simp) (by
        rw [List.drop_of_length_le (by rw [List.length_take]; omega)]
        simp)
      exact h
    · rw [if_neg hb]
      have : (bt s 0 != 47) = true := by simp [hb]
      exact Ev.next ⟨0, fun k _ => by simp [spec_l24Parts.j0, this]⟩

theorem splitB_size (sep : ByteArray) : ∀ (k : Nat) (s p : ByteArray), p ∈ Lib.splitB sep 0 k s → p.size ≤ s.size
  | 0, s, p, h => by
    rw [Lib.splitB_zero, List.mem_singleton] at h
    rw [h]; exact Nat.le_refl _
  | k + 1, s, p, h => by
    unfold Lib.splitB at h
    split at h
    · rw [List.mem_singleton] at h
      rw [h]; exact Nat.le_refl _
    · rcases List.mem_cons.1 h with rfl | h
      · rw [size_list, ext_list, List.length_take, List.length_drop, ← size_list]; omega
      · have := splitB_size sep k _ p h
        refine Nat.le_trans this ?_
        rw [size_list, ext_list, List.length_take, List.length_drop, ← size_list]; omega
theorem pieces_size (t p : ByteArray) (h : p ∈ piecesOf t) : p.size ≤ t.size := splitB_size _ _ _ _ h
theorem pieces_length (t : ByteArray) : (piecesOf t).length ≤ t.size + 2 := by
  have h := Lib.splitB_length_le sl 0 (Lib.countB t sl) t
  have hct : Lib.countB t sl ≤ t.size + 1 := by rw [size_list]; exact Lib.count_le _ _
  unfold piecesOf
  omega
theorem pieces_pos (t : ByteArray) : 0 < (piecesOf t).length := by
  unfold piecesOf
  cases Lib.countB t sl with
  | zero => simp [Lib.splitB_zero]
  | succ n =>
    unfold Lib.splitB
    split
    · simp
    · simp

theorem spec_all (l : List ByteArray) (hl : l.length ≤ 1048578) (hp : ∀ p ∈ l, p.size ≤ 1048576) :
    Ev (fun k => spec_GoodTopic.l0 k l (l.length : Int) 0) (if (List.range l.length).all (fun i => partB (rdOf ByteArray.empty l (i : Int))) = true then true else false) := by
  refine all_loop2 (fun k i => spec_GoodTopic.l0 k l (l.length : Int) i) l.length _ true false ?_ ?_ ?_
  · exact Ev.next ⟨0, fun k _ => by simp only [spec_GoodTopic.l0]; rw [if_neg (by omega)]⟩
  · intro i hi hp' r hr
    have e : wrap64 ((i : Int) + 1) = ((i + 1 : Nat) : Int) := wrap_succ i (by omega)
    refine Ev.next ?_
    simp only [spec_GoodTopic.l0, e]
    have c1 : ((i : Nat) : Int) < (l.length : Int) := by omega
    have c2 : (0 : Int) ≤ ((i : Nat) : Int) := by omega
    simp only [c1, c2, if_true]
    refine Ev.bind (spec_part _ (by rw [rdOf_get _ _ _ hi]; exact hp _ (List.getElem_mem hi))) ?_
    simp only [hp', if_true]
    exact hr
  · intro i hi hp'
    refine Ev.next ?_
    simp only [spec_GoodTopic.l0]
    have c1 : ((i : Nat) : Int) < (l.length : Int) := by omega
    have c2 : (0 : Int) ≤ ((i : Nat) : Int) := by omega
    simp only [c1, c2, if_true]
    refine Ev.bind (spec_part _ (by rw [rdOf_get _ _ _ hi]; exact hp _ (List.getElem_mem hi))) ?_
    simp only [hp', Bool.false_eq_true, if_false]
    exact Ev.now _
theorem impl_all (l : List ByteArray) (hl : l.length ≤ 1048578) (hp : ∀ p ∈ l, p.size ≤ 1048576) :
    Ev (fun k => impl_GoodTopic.l0 k l (l.length : Int) 0) (if (List.range l.length).all (fun i => partB (rdOf ByteArray.empty l (i : Int))) = true then true else false) := by
  refine all_loop2 (fun k i => impl_GoodTopic.l0 k l (l.length : Int) i) l.length _ true false ?_ ?_ ?_
  · exact Ev.next ⟨0, fun k _ => by simp only [impl_GoodTopic.l0]; rw [if_neg (by omega)]⟩
  · intro i hi hp' r hr
    have e : wrap64 ((i : Int) + 1) = ((i + 1 : Nat) : Int) := wrap_succ i (by omega)
    refine Ev.next ?_
    simp only [impl_GoodTopic.l0, e]
    have c1 : ((i : Nat) : Int) < (l.length : Int) := by omega
    have c2 : (0 : Int) ≤ ((i : Nat) : Int) := by omega
    simp only [c1, c2, if_true]
    refine Ev.bind (impl_part _ (by rw [rdOf_get _ _ _ hi]; exact hp _ (List.getElem_mem hi))) ?_
    simp only [hp', if_true]
    exact hr
  · intro i hi hp'
    refine Ev.next ?_
    simp only [impl_GoodTopic.l0]
    have c1 : ((i : Nat) : Int) < (l.length : Int) := by omega
    have c2 : (0 : Int) ≤ ((i : Nat) : Int) := by omega
    simp only [c1, c2, if_true]
    refine Ev.bind (impl_part _ (by rw [rdOf_get _ _ _ hi]; exact hp _ (List.getElem_mem hi))) ?_
    simp only [hp', Bool.false_eq_true, if_false]
    exact Ev.now _

def goodB (s : ByteArray) : Bool := if (s.size : Int) > 60 then false else if (partsB s).length = 0 then false else if (List.range (partsB s).length).all (fun i => partB (rdOf ByteArray.empty (partsB s) (i : Int))) = true then true else false
theorem parts_size (s p : ByteArray) (h : p ∈ partsB s) : p.size ≤ s.size := by
  unfold partsB at h
  split at h
  · simp at h
  · split at h
    · refine Nat.le_trans (pieces_size _ _ h) ?_
      rw [size_list, ext_list, List.length_take, List.length_drop, ← size_list]; omega
    · simp at h
theorem parts_length (s : ByteArray) : (partsB s).length ≤ s.size + 2 := by
  unfold partsB
  split
  · simp
  · split
    · refine Nat.le_trans (pieces_length _) ?_
      have : (s.extract 1 s.size).size ≤ s.size := by rw [size_list, ext_list, List.length_take, List.length_drop, ← size_list]; omega
      omega
    · simp
theorem spec_good (s : ByteArray) (hs : s.size ≤ 1048576) : Ev (fun k => spec_GoodTopic.f k s) (goodB s) := by
  have hl := parts_length s
  unfold goodB
  simp only [spec_GoodTopic.f]
  refine Ev.bind (spec_parts s hs) ?_
  by_cases h1 : (s.size : Int) > 60
  · simp only [h1, if_true]
    exact Ev.next ⟨0, fun k _ => by simp [spec_GoodTopic.j0]⟩
  · simp only [h1, if_false]
    by_cases h2 : (partsB s).length = 0
    · have h2' : (((partsB s).length : Int) == 0) = true := by simp [h2]
      simp only [h2', if_pos h2]
      exact Ev.next ⟨0, fun k _ => by simp [spec_GoodTopic.j0]⟩
    · have h2' : (((partsB s).length : Int) == 0) = false := by rw [beq_eq_false_iff_ne]; omega
      simp only [h2', if_neg h2]
      refine Ev.next ?_
      simp only [spec_GoodTopic.j0, Bool.false_eq_true, if_false]
      exact spec_all _ (by omega) (fun p hp => Nat.le_trans (parts_size s p hp) hs)
theorem cut_slash (s : ByteArray) : strings_CutPrefix.f s sl = some (if s.size = 0 then (s, false) else if bt s 0 = 47 then (s.extract 1 s.size, true) else (s, false)) := by
  have e1 : (sl.size : Int) = 1 := rfl
  simp only [strings_CutPrefix.f, stringslite_CutPrefix.f, stringslite_HasPrefix.f, e1]
  by_cases h0 : s.size = 0
  · rw [if_pos h0, if_neg (by omega)]
    simp
  · rw [if_neg h0, if_pos (by omega), if_pos (by omega), if_pos (by omega)]
    have t1 : ((1 : Int)).toNat = 1 := rfl
    have hl : 0 < s.data.toList.length := by rw [← size_list]; omega
    have e2 : ((s.extract 0 1).toList == sl.toList) = decide (bt s 0 = 47) := by
      have x := bt_47 s 0 (by omega)
      have y : (s.extract 0 1).toList = [s.data.toList[0]] := by
        rw [ByteArray.toList_eq, ext_list, List.drop_zero]
        show s.data.toList.take (0 + 1) = _
        rw [List.take_succ_eq_append_getElem hl]
        rfl
      have z : sl.toList = [47] := by rw [ByteArray.toList_eq]; rfl
      rw [y, z]
      by_cases hb : bt s ((0 : Nat) : Int) = 47
      · have hx := x.1 hb
        simp only [hx]
        have : bt s 0 = 47 := hb
        simp [this]
      · have hx : ¬ s.data.toList[0] = 47 := fun w => hb (x.2 w)
        have : ¬ bt s 0 = 47 := hb
        rw [decide_eq_false this, beq_eq_false_iff_ne]
        intro w
        exact hx (List.cons.inj w).1
    rw [t1, e2]
    by_cases hb : bt s 0 = 47
    · simp only [hb, decide_true, Option.bind_some, if_true]
      rw [if_pos (by omega), if_pos (by omega)]
      rfl
    · simp [hb]
theorem impl_good (s : ByteArray) (hs : s.size ≤ 1048576) : Ev (fun k => impl_GoodTopic.f k s) (goodB s) := by
  have hl := parts_length s
  have hcut := cut_slash s
  unfold goodB
  simp only [impl_GoodTopic.f]
  rw [show (⟨#[47]⟩ : ByteArray) = sl from rfl, hcut]
  simp only [Option.bind_some]
  unfold partsB
  by_cases h0 : s.size = 0
  · simp only [h0, if_true]
    refine Ev.next ⟨0, fun k _ => ?_⟩
    simp [impl_GoodTopic.j0]
  · simp only [h0, if_false]
    by_cases hb : bt s 0 = 47
    · simp only [hb, if_true]
      by_cases h1 : (s.size : Int) > 60
      · simp only [h1, if_true, decide_true]
        exact Ev.next ⟨0, fun k _ => by simp [impl_GoodTopic.j0]⟩
      · simp only [h1, if_false, decide_false]
        have hsz : (s.extract 1 s.size).size ≤ s.size := by rw [size_list, ext_list, List.length_take, List.length_drop, ← size_list]; omega
        rw [if_neg (by have := pieces_pos (s.extract 1 s.size); omega)]
        refine Ev.next ?_
        simp only [impl_GoodTopic.j0, Bool.false_eq_true, if_false]
        have hsp : ∀ k, strings_Split.f k (s.extract 1 s.size) (⟨#[47]⟩ : ByteArray) = some (piecesOf (s.extract 1 s.size)) := fun k => by
          unfold strings_Split.f
          rw [if_pos ⟨by omega, rfl⟩]
          rfl
        simp only [hsp, Option.bind_some]
        exact impl_all _ (by have := pieces_length (s.extract 1 s.size); omega) (fun p hp => by have := pieces_size _ p hp; omega)
    · simp only [hb, if_false]
      refine Ev.next ⟨0, fun k _ => ?_⟩
      simp [impl_GoodTopic.j0]
def lastCut (s : ByteArray) : Nat → Nat
  | 0 => 0
  | i + 1 => if bt s (i : Int) = 47 then i + 1 else lastCut s i
theorem lastCut_le (s : ByteArray) : ∀ i, lastCut s i ≤ i
  | 0 => Nat.le_refl _
  | i + 1 => by
    unfold lastCut
    split
    · exact Nat.le_refl _
    · exact Nat.le_succ_of_le (lastCut_le s i)
/-- What is cut off the space ahead of its last stroke. -/
def headOf (s : ByteArray) : ByteArray := s.extract 0 (lastCut s s.size - 1)
theorem last_ev (s : ByteArray) (hs : s.size ≤ 1048576) : Ev (fun k => bytealg_LastIndexByteString.f k s 47) ((lastCut s s.size : Int) - 1) := by
  have key : ∀ i, i ≤ s.size → Ev (fun k => bytealg_LastIndexByteString.l0 k s 47 ((i : Int) - 1)) ((lastCut s i : Int) - 1) := by
    intro i
    induction i with
    | zero =>
      intro _
      refine Ev.next ⟨0, fun k _ => ?_⟩
      simp only [bytealg_LastIndexByteString.l0]
      rw [if_neg (by omega)]
      rfl
    | succ i ih =>
      intro hi
      have e0 : (((i + 1 : Nat) : Int) - 1) = (i : Int) := by omega
      rw [e0]
      unfold lastCut
      by_cases hb : bt s (i : Int) = 47
      · rw [if_pos hb]
        refine Ev.next ⟨0, fun k _ => ?_⟩
        simp only [bytealg_LastIndexByteString.l0]
        rw [if_pos (by omega), if_pos (by omega), if_pos (by omega), if_pos hb, e0]
      · rw [if_neg hb]
        have e : wrap64 ((i : Int) - 1) = (i : Int) - 1 := wrap_in (by omega) (by omega)
        refine Ev.step (fun k => ?_) (ih (by omega))
        simp only [bytealg_LastIndexByteString.l0, e]
        rw [if_pos (by omega), if_pos (by omega), if_pos (by omega), if_neg hb]
  have e : wrap64 ((s.size : Int) - 1) = (s.size : Int) - 1 := wrap_in (by omega) (by omega)
  simp only [bytealg_LastIndexByteString.f, e]
  exact key s.size (Nat.le_refl _)
theorem last_sl (s : ByteArray) (hs : s.size ≤ 1048576) : Ev (fun k => strings_LastIndex.f k s (⟨#[47]⟩ : ByteArray)) ((lastCut s s.size : Int) - 1) := by
  have e1 : (((⟨#[47]⟩ : ByteArray).size : Nat) : Int) = 1 := rfl
  have e2 : bt (⟨#[47]⟩ : ByteArray) 0 = 47 := by decide
  have d1 : ¬ ((1 : Int) = 0) := by decide
  have d2 : (0 : Int) < 1 := by decide
  simp only [strings_LastIndex.f, e1, e2, d1, d2, if_true, if_false]
  exact Ev.bind (last_ev s hs) (Ev.now _)

/-- What ResolveTopic comes to: the name, or nothing where it is not good. -/
def okName (s : ByteArray) : ByteArray := if goodB s = true then s else ⟨#[]⟩
def pre2 (n : ByteArray) : Bool := if (n.size : Int) ≥ 2 then (if bt n 0 = 126 then decide (bt n 1 = 47) else false) else false
def resB (a n : ByteArray) : ByteArray := if pre2 n = true then okName (a ++ n.extract 1 n.size) else if n.size = 0 then okName ((headOf a ++ sl) ++ n) else if bt n 0 = 47 then okName n else okName ((headOf a ++ sl) ++ n)
def resolveB (a n : ByteArray) : ByteArray := if a.size ≠ 0 ∧ goodB a = false then ⟨#[]⟩ else if (n.size : Int) > 60 then ⟨#[]⟩ else resB a n
theorem size_app (a b : ByteArray) : (a ++ b).size = a.size + b.size := ByteArray.size_append
theorem size_ext (s : ByteArray) (a b : Nat) : (s.extract a b).size = min b s.size - a := ByteArray.size_extract
theorem sl_size : sl.size = 1 := rfl
theorem sl_size' : (⟨#[47]⟩ : ByteArray).size = 1 := rfl
theorem spec_ok (s : ByteArray) (hs : s.size ≤ 1048576) : Ev (fun k => (spec_GoodTopic.f k s).bind fun t => (if t = true then (some s) else (some (⟨#[]⟩ : ByteArray)))) (okName s) := by
  refine Ev.bind (spec_good s hs) ?_
  unfold okName
  cases goodB s
  · exact Ev.now _
  · exact Ev.now _
theorem impl_ok (s : ByteArray) (hs : s.size ≤ 1048576) : Ev (fun k => (impl_GoodTopic.f k s).bind fun t => (if t = true then (some s) else (some (⟨#[]⟩ : ByteArray)))) (okName s) := by
  refine Ev.bind (impl_good s hs) ?_
  unfold okName
  cases goodB s
  · exact Ev.now _
  · exact Ev.now _
theorem spec_j4 (a n : ByteArray) (x : Nat) (ha : a.size ≤ 60) (hn : n.size ≤ 60) (hx : x ≤ a.size) : Ev (fun k => spec_ResolveTopic.j4 k a n (x : Int)) (okName ((a.extract 0 (x - 1) ++ sl) ++ n)) := by
  refine Ev.next ?_
  simp only [spec_ResolveTopic.j4]
  by_cases h0 : x = 0
  · subst h0
    have g1 : ¬ (((0 : Nat) : Int) > 0) := by omega
    simp only [g1, if_false]
    have t0 : (((0 : Nat) : Int)).toNat = 0 := rfl
    have s1 : (a.extract 0 0).size + 1 ≤ 9223372036854775807 := by rw [size_ext]; omega
    have s2 : (a.extract 0 0 ++ (⟨#[47]⟩ : ByteArray)).size + n.size ≤ 9223372036854775807 := by rw [size_app, size_ext, sl_size']; omega
    have c1 : (0 : Int) ≤ ((0 : Nat) : Int) := by omega
    have c2 : ((0 : Nat) : Int) ≤ (a.size : Int) := by omega
    simp only [t0, c1, c2, s1, s2, if_true]
    exact spec_ok ((a.extract 0 0 ++ sl) ++ n) (by rw [size_app, size_app, size_ext, sl_size]; omega)
  · have g1 : ((x : Int) > 0) := by omega
    have e : wrap64 ((x : Int) - 1) = ((x - 1 : Nat) : Int) := wrap_pred x (by omega) (by omega)
    simp only [g1, if_true, e]
    have t0 : (((x - 1 : Nat) : Int)).toNat = x - 1 := by omega
    have s1 : (a.extract 0 (x - 1)).size + 1 ≤ 9223372036854775807 := by rw [size_ext]; omega
    have s2 : (a.extract 0 (x - 1) ++ (⟨#[47]⟩ : ByteArray)).size + n.size ≤ 9223372036854775807 := by rw [size_app, size_ext, sl_size']; omega
    have c1 : (0 : Int) ≤ ((x - 1 : Nat) : Int) := by omega
    have c2 : ((x - 1 : Nat) : Int) ≤ (a.size : Int) := by omega
    simp only [t0, c1, c2, s1, s2, if_true]
    exact spec_ok ((a.extract 0 (x - 1) ++ sl) ++ n) (by rw [size_app, size_app, size_ext, sl_size]; omega)
theorem spec_tail (a n : ByteArray) (ha : a.size ≤ 60) (hn : n.size ≤ 60) : Ev (fun k => spec_ResolveTopic.l0 k a n (a.size : Int)) (okName ((headOf a ++ sl) ++ n)) := by
  have key : ∀ i, i ≤ a.size → Ev (fun k => spec_ResolveTopic.l0 k a n (i : Int)) (okName ((a.extract 0 (lastCut a i - 1) ++ sl) ++ n)) := by
    intro i
    induction i with
    | zero =>
      intro _
      refine Ev.step (fun k => ?_) (spec_j4 a n 0 ha hn (by omega))
      simp only [spec_ResolveTopic.l0]
      rw [if_neg (by omega)]
    | succ i ih =>
      intro hi
      have e : wrap64 (((i + 1 : Nat) : Int) - 1) = (i : Int) := by rw [wrap_in (by omega) (by omega)]; omega
      by_cases hb : bt a (i : Int) = 47
      · have hc : lastCut a (i + 1) = i + 1 := by unfold lastCut; rw [if_pos hb]
        rw [hc]
        refine Ev.step (fun k => ?_) (spec_j4 a n (i + 1) ha hn hi)
        simp only [spec_ResolveTopic.l0, e]
        rw [if_pos (by omega), if_pos (by omega), if_pos (by omega), if_pos hb]
      · have hc : lastCut a (i + 1) = lastCut a i := by conv => lhs; unfold lastCut
                                                        rw [if_neg hb]
        rw [hc]
        refine Ev.step (fun k => ?_) (ih (by omega))
        simp only [spec_ResolveTopic.l0, e]
        rw [if_pos (by omega), if_pos (by omega), if_pos (by omega), if_neg hb]
  exact key a.size (Nat.le_refl _)
theorem spec_j0 (a n : ByteArray) (ha : a.size ≤ 60) (hn : n.size ≤ 60) : Ev (fun k => spec_ResolveTopic.j0 k a n false) (resB a n) := by
  have go1 : ∀ b : Bool, Ev (fun k => spec_ResolveTopic.j2 k a n n b) (if b = true then okName ((headOf a ++ sl) ++ n) else okName n) := by
    intro b
    refine Ev.next ?_
    cases b
    · simp only [spec_ResolveTopic.j2, Bool.false_eq_true, if_false]
      exact spec_ok n (by omega)
    · simp only [spec_ResolveTopic.j2, if_true]
      exact spec_tail a n ha hn
  have goT : Ev (fun k => spec_ResolveTopic.j2 k a n n true) (okName ((headOf a ++ sl) ++ n)) := by
    have h := go1 true
    simp only [if_true] at h
    exact h
  have goF : Ev (fun k => spec_ResolveTopic.j2 k a n n false) (okName n) := by
    have h := go1 false
    simp only [Bool.false_eq_true, if_false] at h
    exact h
  have go : Ev (fun k => spec_ResolveTopic.j1 k a n n (pre2 n)) (resB a n) := by
    refine Ev.next ?_
    unfold resB
    cases hp : pre2 n with
    | true =>
      have h2 : (n.size : Int) ≥ 2 := by
        unfold pre2 at hp
        split at hp
        · assumption
        · cases hp
      simp only [spec_ResolveTopic.j1, if_true]
      have s1 : a.size + (n.extract 1 n.size).size ≤ 9223372036854775807 := by rw [size_ext]; omega
      have s2 : 1 ≤ (n.size : Int) := by omega
      simp only [s1, s2, if_true]
      exact spec_ok _ (by rw [size_app, size_ext]; omega)
    | false =>
      simp only [spec_ResolveTopic.j1, Bool.false_eq_true, if_false]
      by_cases h0 : n.size = 0
      · have h0' : (n.size : Int) = 0 := by omega
        simp only [h0', if_true, if_pos h0]
        exact goT
      · have h0' : ¬ (n.size : Int) = 0 := by omega
        have h1' : 0 < (n.size : Int) := by omega
        simp only [h0', h1', if_true, if_false, if_neg h0]
        by_cases hb : bt n 0 = 47
        · have : (bt n 0 != 47) = false := by simp [hb]
          simp only [this, if_pos hb]
          exact goF
        · have : (bt n 0 != 47) = true := by simp [hb]
          simp only [this, if_neg hb]
          exact goT
  refine Ev.next ?_
  simp only [spec_ResolveTopic.j0, Bool.false_eq_true, if_false]
  unfold pre2 at go
  by_cases h2 : (n.size : Int) ≥ 2
  · have h1' : 0 < (n.size : Int) := by omega
    have h1'' : 1 < (n.size : Int) := by omega
    simp only [h2, h1', h1'', if_true] at go ⊢
    by_cases hb : bt n 0 = 126
    · simp only [hb, if_true] at go ⊢
      have : (bt n 1 == 47) = decide (bt n 1 = 47) := rfl
      rw [this]
      exact go
    · simp only [hb, if_false] at go ⊢
      exact go
  · simp only [h2, if_false] at go ⊢
    exact go
theorem list_nil (a : ByteArray) : a.toList = ([] : List UInt8) ↔ a.size = 0 := by
  rw [ByteArray.toList_eq, size_list]
  exact List.length_eq_zero_iff.symm
theorem good_small (s : ByteArray) (h : goodB s = true) : s.size ≤ 60 := by
  unfold goodB at h
  split at h
  · cases h
  · omega
theorem spec_res (a n : ByteArray) (ha : a.size ≤ 1048576) : Ev (fun k => spec_ResolveTopic.f k a n) (resolveB a n) := by
  have stop : Ev (fun k => spec_ResolveTopic.j0 k a n true) (⟨#[]⟩ : ByteArray) := Ev.next ⟨0, fun k _ => by simp [spec_ResolveTopic.j0]⟩
  have go : a.size ≤ 60 → Ev (fun k => spec_ResolveTopic.j0 k a n (decide ((n.size : Int) > 60))) (if (n.size : Int) > 60 then ⟨#[]⟩ else resB a n) := by
    intro h
    by_cases hn : (n.size : Int) > 60
    · rw [if_pos hn, decide_eq_true hn]
      exact stop
    · rw [if_neg hn, decide_eq_false hn]
      exact spec_j0 a n h (by omega)
  unfold resolveB
  simp only [spec_ResolveTopic.f]
  by_cases h0 : a.size = 0
  · rw [if_neg (by simp [h0])]
    have := (list_nil a).2 h0
    simp only [this, if_true]
    exact go (by omega)
  · have : ¬ a.toList = [] := fun e => h0 ((list_nil a).1 e)
    simp only [this, if_false]
    refine Ev.bind (spec_good a ha) ?_
    cases hg : goodB a with
    | true =>
      simp only [if_true]
      rw [if_neg (by simp)]
      exact go (good_small a hg)
    | false =>
      simp only [Bool.false_eq_true, if_false]
      rw [if_pos ⟨h0, trivial⟩]
      exact stop
theorem has_slash (n : ByteArray) : strings_HasPrefix.f n (⟨#[47]⟩ : ByteArray) = some (if n.size = 0 then false else decide (bt n 0 = 47)) := by
  have h := cut_slash n
  have e1 : (sl.size : Int) = 1 := rfl
  rw [show (⟨#[47]⟩ : ByteArray) = sl from rfl]
  simp only [strings_HasPrefix.f, strings_CutPrefix.f, stringslite_CutPrefix.f, stringslite_HasPrefix.f, e1] at h ⊢
  by_cases h0 : n.size = 0
  · rw [if_pos h0, if_neg (by omega)]
    rfl
  · rw [if_neg h0]
    rw [if_neg h0, if_pos (by omega), if_pos (by omega), if_pos (by omega)] at h
    rw [if_pos (by omega), if_pos (by omega), if_pos (by omega)]
    simp only [Option.bind_some] at h ⊢
    by_cases hb : bt n 0 = 47
    · rw [decide_eq_true hb]
      rw [if_pos hb] at h
      cases hx : ((n.extract 0 ((1 : Int)).toNat).toList == sl.toList) with
      | true => rfl
      | false => rw [hx] at h; simp at h
    · rw [decide_eq_false hb]
      rw [if_neg hb] at h
      cases hx : ((n.extract 0 ((1 : Int)).toNat).toList == sl.toList) with
      | false => rfl
      | true =>
        rw [hx] at h
        simp only [if_true] at h
        rw [if_pos (by omega), if_pos (by omega)] at h
        simp at h
theorem two_list (l : List UInt8) (x y : UInt8) (h : 2 ≤ l.length) : (l.take 2 == [x, y]) = (decide (l[0]'(by omega) = x) && decide (l[1]'(by omega) = y)) := by
  match l, h with
  | a :: b :: r, _ =>
    simp only [List.take_succ_cons, List.take_zero, List.getElem_cons_zero, List.getElem_cons_succ]
    by_cases h1 : a = x
    · by_cases h2 : b = y
      · simp [h1, h2]
      · simp [h1, h2]
    · simp [h1]
theorem has_home (n : ByteArray) : strings_HasPrefix.f n (⟨#[126, 47]⟩ : ByteArray) = some (pre2 n) := by
  have e1 : (((⟨#[126, 47]⟩ : ByteArray).size : Nat) : Int) = 2 := rfl
  unfold pre2
  simp only [strings_HasPrefix.f, stringslite_HasPrefix.f, e1]
  by_cases h2 : (n.size : Int) ≥ 2
  · have hl : 2 ≤ n.data.toList.length := by rw [← size_list]; omega
    rw [if_pos h2, if_pos (by omega), if_pos (by omega), if_pos h2]
    have t2 : ((2 : Int)).toNat = 2 := rfl
    have z : (⟨#[126, 47]⟩ : ByteArray).toList = [126, 47] := by rw [ByteArray.toList_eq]
    have y : (n.extract 0 2).toList = n.data.toList.take 2 := by rw [ByteArray.toList_eq, ext_list, List.drop_zero]
    have b0 := bt_list n 0 (by omega)
    have b1 := bt_list n 1 (by omega)
    rw [t2, y, z, two_list _ _ _ hl]
    simp only [Option.bind_some]
    have c0 : bt n 0 = 126 ↔ n.data.toList[0] = 126 := by
      rw [show bt n 0 = _ from b0]
      constructor
      · intro e; exact UInt8.toNat_inj.1 (by have : (n.data.toList[0]).toNat = 126 := by omega
                                             exact this)
      · intro e; rw [e]; rfl
    have c1 : bt n 1 = 47 ↔ n.data.toList[1] = 47 := bt_47 n 1 (by omega)
    by_cases x0 : bt n 0 = 126
    · rw [if_pos x0, decide_eq_true (c0.1 x0), Bool.true_and]
      by_cases x1 : bt n 1 = 47
      · rw [decide_eq_true x1, decide_eq_true (c1.1 x1)]
      · rw [decide_eq_false x1, decide_eq_false (fun e => x1 (c1.2 e))]
    · rw [if_neg x0, decide_eq_false (fun e => x0 (c0.2 e)), Bool.false_and]
  · rw [if_neg h2, if_neg h2]
    rfl
theorem impl_j0 (a n : ByteArray) (ha : a.size ≤ 60) (hn : n.size ≤ 60) : Ev (fun k => impl_ResolveTopic.j0 k a n false) (resB a n) := by
  refine Ev.next ?_
  simp only [impl_ResolveTopic.j0, Bool.false_eq_true, if_false, has_slash, has_home, Option.bind_some]
  unfold resB
  have tail : Ev (fun k => (strings_LastIndex.f k a (⟨#[47]⟩ : ByteArray)).bind fun t142 => (if 0 ≤ (mx t142 0) then (if (mx t142 0) ≤ (a.size : Int) then (if (a.extract 0 ((mx t142 0) : Int).toNat).size + 1 ≤ 9223372036854775807 then (if ((a.extract 0 ((mx t142 0) : Int).toNat) ++ (⟨#[47]⟩ : ByteArray)).size + n.size ≤ 9223372036854775807 then ((impl_GoodTopic.f k (((a.extract 0 ((mx t142 0) : Int).toNat) ++ (⟨#[47]⟩ : ByteArray)) ++ n)).bind fun t143 => (if t143 = true then (some (((a.extract 0 ((mx t142 0) : Int).toNat) ++ (⟨#[47]⟩ : ByteArray)) ++ n)) else (some (⟨#[]⟩ : ByteArray)))) else (none)) else (none)) else (none)) else (none))) (okName ((headOf a ++ sl) ++ n)) := by
    refine Ev.bind (last_sl a (by omega)) ?_
    have hc := lastCut_le a a.size
    have em : mx ((lastCut a a.size : Int) - 1) 0 = ((lastCut a a.size - 1 : Nat) : Int) := by unfold mx; split <;> omega
    have t0 : (((lastCut a a.size - 1 : Nat) : Int)).toNat = lastCut a a.size - 1 := by omega
    simp only [em, t0]
    have s1 : (a.extract 0 (lastCut a a.size - 1)).size + 1 ≤ 9223372036854775807 := by rw [size_ext]; omega
    have s2 : (a.extract 0 (lastCut a a.size - 1) ++ (⟨#[47]⟩ : ByteArray)).size + n.size ≤ 9223372036854775807 := by rw [size_app, size_ext, sl_size']; omega
    have s3 : (0 : Int) ≤ ((lastCut a a.size - 1 : Nat) : Int) := by omega
    have s4 : ((lastCut a a.size - 1 : Nat) : Int) ≤ (a.size : Int) := by omega
    simp only [s1, s2, s3, s4, if_true]
    exact impl_ok _ (by rw [size_app, size_app, size_ext, sl_size']; omega)
  by_cases hb : (if n.size = 0 then false else decide (bt n 0 = 47)) = true
  · have h0 : ¬ n.size = 0 := by intro h; simp [h] at hb
    have hb' : bt n 0 = 47 := by simpa [h0] using hb
    have hp : pre2 n = false := by
      unfold pre2
      split
      · rw [if_neg (by omega)]
      · rfl
    simp only [hb, if_true, hp, Bool.false_eq_true, if_false, if_neg h0, if_pos hb']
    exact impl_ok n (by omega)
  · simp only [hb, Bool.false_eq_true, if_false]
    cases hp : pre2 n with
    | true =>
      have h2 : (n.size : Int) ≥ 2 := by
        unfold pre2 at hp
        split at hp
        · assumption
        · cases hp
      simp only [if_true]
      have s1 : a.size + (n.extract 1 n.size).size ≤ 9223372036854775807 := by rw [size_ext]; omega
      have s2 : 1 ≤ (n.size : Int) := by omega
      simp only [s1, s2, if_true]
      exact impl_ok _ (by rw [size_app, size_ext]; omega)
    | false =>
      simp only [Bool.false_eq_true, if_false]
      by_cases h0 : n.size = 0
      · rw [if_pos h0]
        exact tail
      · have hb' : ¬ bt n 0 = 47 := by intro e; exact hb (by simp [h0, e])
        rw [if_neg h0, if_neg hb']
        exact tail
theorem impl_res (a n : ByteArray) (ha : a.size ≤ 1048576) : Ev (fun k => impl_ResolveTopic.f k a n) (resolveB a n) := by
  have stop : Ev (fun k => impl_ResolveTopic.j0 k a n true) (⟨#[]⟩ : ByteArray) := Ev.next ⟨0, fun k _ => by simp [impl_ResolveTopic.j0]⟩
  have go : a.size ≤ 60 → Ev (fun k => impl_ResolveTopic.j0 k a n (decide ((n.size : Int) > 60))) (if (n.size : Int) > 60 then ⟨#[]⟩ else resB a n) := by
    intro h
    by_cases hn : (n.size : Int) > 60
    · rw [if_pos hn, decide_eq_true hn]
      exact stop
    · rw [if_neg hn, decide_eq_false hn]
      exact impl_j0 a n h (by omega)
  unfold resolveB
  simp only [impl_ResolveTopic.f]
  by_cases h0 : a.size = 0
  · rw [if_neg (by simp [h0])]
    have := (list_nil a).2 h0
    simp only [this, if_true]
    exact go (by omega)
  · have : ¬ a.toList = [] := fun e => h0 ((list_nil a).1 e)
    simp only [this, if_false]
    refine Ev.bind (impl_good a ha) ?_
    cases hg : goodB a with
    | true =>
      simp only [if_true]
      rw [if_neg (by simp)]
      exact go (good_small a hg)
    | false =>
      simp only [Bool.false_eq_true, if_false]
      rw [if_pos ⟨h0, trivial⟩]
      exact stop
theorem FnExactResolveTopic : laws_FnExactResolveTopic.Pure := by
  intro a n _ _
  by_cases ha : (a.size : Int) > 1048576
  · exact ⟨0, by simp [laws_FnExactResolveTopic.f, ha]⟩
  by_cases hn : (n.size : Int) > 1048576
  · exact ⟨0, by simp [laws_FnExactResolveTopic.f, ha, hn]⟩
  obtain ⟨K1, h1⟩ := spec_res a n (by omega)
  obtain ⟨K2, h2⟩ := impl_res a n (by omega)
  refine ⟨K1 + K2, ?_⟩
  simp only [laws_FnExactResolveTopic.f, ha, hn, if_false, h1 (K1 + K2) (by omega), h2 (K1 + K2) (by omega), Option.bind_some, if_true]

end Go.Proofs.YtmlejakajcmbdaaDoor.Pure
