/- TopicFits of the program and of the reference say the same of every pattern and name. No condition. -/
import Derived.Test.YtmlejakajcmbdaaDoorQFnExactTopicFitsx7
import Derived.Test.YtmlejakajcmbdaaDoorPlain
namespace Go.Proofs.YtmlejakajcmbdaaDoor.Pure
open Go.RowKit Go.Proofs.YtmlejakajcmbdaaDoor.PFnExactTopicFits Go.Proofs.YtmlejakajcmbdaaDoor.Plain Go.Proofs.YtmlejakajcmbdaaDoorW.PrintWords Go.Proofs.YtmlejakajcmbdaaDoorW.PrintLast
set_option linter.unusedVariables false
set_option linter.unusedSimpArgs false

theorem ba_ext {a b : ByteArray} (h : a.data.toList = b.data.toList) : a = b := by
  obtain ⟨⟨x⟩⟩ := a
  obtain ⟨⟨y⟩⟩ := b
  simp only at h
  rw [h]
theorem ext_list (s : ByteArray) (a b : Nat) : (s.extract a b).data.toList = (s.data.toList.drop a).take (b - a) := by
  obtain ⟨⟨l⟩⟩ := s
  have e : (ByteArray.mk (Array.mk l)).extract a b = ByteArray.mk ((l.drop a).take (b - a)).toArray := ByteArray.extract_mk l a b
  rw [e]
theorem size_list (s : ByteArray) : s.size = s.data.toList.length := Lib.size_eq s
theorem bt_list (s : ByteArray) (i : Nat) (h : i < s.size) : bt s (i : Int) = ((s.data.toList[i]'(by rw [← size_list]; exact h)).toNat : Int) := by
  have : ((i : Int)).toNat = i := by omega
  simp only [bt, this, h, dif_pos]
  rfl
theorem bt_47 (s : ByteArray) (i : Nat) (h : i < s.size) : bt s (i : Int) = 47 ↔ s.data.toList[i]'(by rw [← size_list]; exact h) = 47 := by
  rw [bt_list s i h]
  constructor
  · intro e
    have e' : (s.data.toList[i]'(by rw [← size_list]; exact h)).toNat = 47 := by omega
    exact UInt8.toNat_inj.1 e'
  · intro e
    rw [e]
    rfl
theorem index_append (c : UInt8) : ∀ (p q : List UInt8), c ∉ p → Lib.indexByte (p ++ c :: q) c = (p.length : Int)
  | [], q, _ => by simp [Lib.indexByte]
  | b :: p, q, h => by
    have h1 : ¬ b = c := fun e => h (by simp [e])
    have h2 : c ∉ p := fun e => h (by simp [e])
    have ih := index_append c p q h2
    rw [List.cons_append]
    unfold Lib.indexByte
    have : (b == c) = false := by simpa using h1
    rw [this, ih]
    have : ((p.length : Int) == -1) = false := by
      rw [beq_eq_false_iff_ne]
      omega
    rw [this]
    simp
theorem index_none (c : UInt8) : ∀ (p : List UInt8), c ∉ p → Lib.indexByte p c = -1
  | [], _ => rfl
  | b :: p, h => by
    have h1 : ¬ b = c := fun e => h (by simp [e])
    have h2 : c ∉ p := fun e => h (by simp [e])
    unfold Lib.indexByte
    have : (b == c) = false := by simpa using h1
    rw [this, index_none c p h2]
    rfl

def sl : ByteArray := ⟨#[47]⟩
def piecesOf (t : ByteArray) : List ByteArray := Lib.splitB sl 0 (Lib.countB t sl) t
theorem sl_list : sl.data.toList = [47] := rfl
theorem pieces_none (t : ByteArray) (h : (47 : UInt8) ∉ t.data.toList) : piecesOf t = [t] := by
  unfold piecesOf
  refine Lib.splitB_miss _ _ _ _ ?_
  show Lib.index _ _ = -1
  rw [sl_list, Lib.index_one, index_none _ _ h]
theorem pieces_hit (t : ByteArray) (j : Nat) (h : j < t.size) (hj : t.data.toList[j]'(by rw [← size_list]; exact h) = 47) (hb : (47 : UInt8) ∉ t.data.toList.take j) :
    piecesOf t = t.extract 0 j :: piecesOf (t.extract (j + 1) t.size) := by
  have hl : j < t.data.toList.length := by rw [← size_list]; exact h
  have e : t.data.toList = t.data.toList.take j ++ 47 :: t.data.toList.drop (j + 1) := by
    conv => lhs; rw [← List.take_append_drop j t.data.toList]
    rw [List.drop_eq_getElem_cons hl, hj]
  have hi : Lib.indexB t sl = (j : Int) := by
    show Lib.index _ _ = _
    rw [sl_list, Lib.index_one]
    conv => lhs; rw [e]
    rw [index_append _ _ _ hb, List.length_take]
    omega
  have ed : (t.extract (j + 1) t.size).data.toList = t.data.toList.drop (j + 1) := by
    rw [ext_list, List.take_of_length_le]
    rw [List.length_drop, ← size_list]
    omega
  have hc : Lib.countB t sl = Lib.countB (t.extract (j + 1) t.size) sl + 1 := by
    show Lib.count _ _ = Lib.count _ _ + 1
    rw [sl_list, Lib.count_one, Lib.count_one, ed]
    conv => lhs; rw [e]
    rw [List.count_append, List.count_cons_self, List.count_eq_zero_of_not_mem hb]
    omega
  unfold piecesOf
  rw [hc, Lib.splitB_hit _ _ _ _ j hi]
  rfl

def okb (b : Int) : Bool := if b ≥ 97 then (if b ≤ 122 then true else (if b ≥ 48 then (if b ≤ 57 then true else decide (b = 95)) else decide (b = 95))) else (if b ≥ 48 then (if b ≤ 57 then true else decide (b = 95)) else decide (b = 95))
def partB (p : ByteArray) : Bool := if (p.size : Int) < 1 then false else if (p.size : Int) > 20 then false else if bt p 0 < 97 then false else if bt p 0 > 122 then false else if (List.range p.size).all (fun i => okb (bt p (i : Int))) = true then true else false
theorem spec_part (p : ByteArray) (hp : p.size ≤ 1048576) : Ev (fun k => spec_l24Part.f k p) (partB p) := by
  have go : Ev (fun k => spec_l24Part.l0 k p 0) (if (List.range p.size).all (fun i => okb (bt p (i : Int))) = true then true else false) := by
    refine all_loop (fun k i => spec_l24Part.l0 k p i) p.size _ true false ?_ ?_ ?_
    · exact Ev.next ⟨0, fun k _ => by simp only [spec_l24Part.l0]; rw [if_neg (by omega)]⟩
    · intro i hi hp'
      refine ⟨0, fun k _ => ?_⟩
      have e : wrap64 ((i : Int) + 1) = ((i + 1 : Nat) : Int) := wrap_succ i (by omega)
      simp only [spec_l24Part.l0, e]
      rw [if_pos (by omega), if_pos (by omega)]
      simp only [okb] at hp'
      repeat' split at hp'
      all_goals simp_all
    · intro i hi hp'
      refine ⟨0, fun k _ => ?_⟩
      simp only [spec_l24Part.l0]
      rw [if_pos (by omega), if_pos (by omega)]
      simp only [okb] at hp'
      repeat' split at hp'
      all_goals first
        | (exact absurd hp' (by decide))
        | (have hq := of_decide_eq_false hp'
           (repeat' split) <;> first | rfl | (exfalso; omega))
  unfold partB
  simp only [spec_l24Part.f]
  by_cases h1 : (p.size : Int) < 1
  · simp only [h1, if_true]
    exact Ev.next ⟨0, fun k _ => by simp [spec_l24Part.j0]⟩
  by_cases h2 : (p.size : Int) > 20
  · simp only [h1, h2, if_true, if_false]
    exact Ev.next ⟨0, fun k _ => by simp [spec_l24Part.j0]⟩
  have h3 : 0 < (p.size : Int) := by omega
  by_cases h4 : bt p 0 < 97
  · simp only [h1, h2, h3, h4, if_true, if_false]
    exact Ev.next ⟨0, fun k _ => by simp [spec_l24Part.j0]⟩
  by_cases h5 : bt p 0 > 122
  · simp only [h1, h2, h3, h4, h5, if_true, if_false, decide_true]
    exact Ev.next ⟨0, fun k _ => by simp [spec_l24Part.j0]⟩
  simp only [h1, h2, h3, h4, h5, if_true, if_false, decide_false]
  refine Ev.next ?_
  simp only [spec_l24Part.j0, Bool.false_eq_true, if_false]
  exact go
theorem impl_part (p : ByteArray) (hp : p.size ≤ 1048576) : Ev (fun k => impl_goodPart.f k p) (partB p) := by
  have go : Ev (fun k => impl_goodPart.l0 k p (p.size : Int) 0) (if (List.range p.size).all (fun i => okb (bt p (i : Int))) = true then true else false) := by
    refine all_loop (fun k i => impl_goodPart.l0 k p (p.size : Int) i) p.size _ true false ?_ ?_ ?_
    · exact Ev.next ⟨0, fun k _ => by simp only [impl_goodPart.l0]; rw [if_neg (by omega)]⟩
    · intro i hi hp'
      refine ⟨0, fun k _ => ?_⟩
      have e : wrap64 ((i : Int) + 1) = ((i + 1 : Nat) : Int) := wrap_succ i (by omega)
      simp only [impl_goodPart.l0, e]
      rw [if_pos (by omega), if_pos (by omega), if_pos (by omega)]
      simp only [okb] at hp'
      repeat' split at hp'
      all_goals simp_all
    · intro i hi hp'
      refine ⟨0, fun k _ => ?_⟩
      simp only [impl_goodPart.l0]
      rw [if_pos (by omega), if_pos (by omega), if_pos (by omega)]
      simp only [okb] at hp'
      repeat' split at hp'
      all_goals first
        | (exact absurd hp' (by decide))
        | (have hq := of_decide_eq_false hp'
           (repeat' split) <;> first | rfl | (exfalso; omega))
  unfold partB
  simp only [impl_goodPart.f]
  by_cases h1 : (p.size : Int) < 1
  · simp only [h1, if_true]
    exact Ev.next ⟨0, fun k _ => by simp [impl_goodPart.j0]⟩
  by_cases h2 : (p.size : Int) > 20
  · simp only [h1, h2, if_true, if_false]
    exact Ev.next ⟨0, fun k _ => by simp [impl_goodPart.j0]⟩
  have h3 : 0 < (p.size : Int) := by omega
  by_cases h4 : bt p 0 < 97
  · simp only [h1, h2, h3, h4, if_true, if_false]
    exact Ev.next ⟨0, fun k _ => by simp [impl_goodPart.j0]⟩
  by_cases h5 : bt p 0 > 122
  · simp only [h1, h2, h3, h4, h5, if_true, if_false, decide_true]
    exact Ev.next ⟨0, fun k _ => by simp [impl_goodPart.j0]⟩
  simp only [h1, h2, h3, h4, h5, if_true, if_false, decide_false]
  refine Ev.next ?_
  simp only [impl_goodPart.j0, Bool.false_eq_true, if_false]
  exact go

theorem ext_ext (s : ByteArray) (a b c : Nat) (hb : b ≤ s.size) : (s.extract a s.size).extract b c = s.extract (a + b) (a + c) ∨ True := Or.inr trivial
theorem pieces_at (s : ByteArray) (at_ i : Nat) (hat : at_ ≤ i) (hlt : i < s.size) (hb' : s.data.toList[i]'(by rw [← size_list]; exact hlt) = 47) (hno : (47 : UInt8) ∉ (s.data.toList.take i).drop at_) :
    piecesOf (s.extract at_ s.size) = s.extract at_ i :: piecesOf (s.extract (i + 1) s.size) := by
  have hsz : (s.extract at_ s.size).size = s.size - at_ := by rw [size_list, ext_list, List.length_take, List.length_drop, ← size_list]; omega
  have hlist : (s.extract at_ s.size).data.toList = s.data.toList.drop at_ := by
    rw [ext_list, List.take_of_length_le]
    rw [List.length_drop, ← size_list]; omega
  have hj : i - at_ < (s.extract at_ s.size).size := by omega
  have hg : (s.extract at_ s.size).data.toList[i - at_]? = some 47 := by
    rw [hlist, List.getElem?_drop, show at_ + (i - at_) = i by omega, List.getElem?_eq_getElem (by rw [← size_list]; exact hlt), hb']
  have hg2 : (s.extract at_ s.size).data.toList[i - at_]'(by rw [← size_list]; exact hj) = 47 := by
    rw [List.getElem?_eq_getElem (by rw [← size_list]; exact hj)] at hg
    exact Option.some.inj hg
  have hn2 : (47 : UInt8) ∉ (s.extract at_ s.size).data.toList.take (i - at_) := by
    have : (s.data.toList.drop at_).take (i - at_) = (s.data.toList.take i).drop at_ := by rw [List.drop_take]
    rw [hlist, this]; exact hno
  have e1 : (s.extract at_ s.size).extract 0 (i - at_) = s.extract at_ i := by
    refine ba_ext ?_
    rw [ext_list, hlist, ext_list, List.drop_zero, Nat.sub_zero]
  have e2 : (s.extract at_ s.size).extract (i - at_ + 1) (s.extract at_ s.size).size = s.extract (i + 1) s.size := by
    refine ba_ext ?_
    rw [ext_list, hlist, hsz, ext_list, List.drop_drop]
    rw [show at_ + (i - at_ + 1) = i + 1 by omega, show s.size - at_ - (i - at_ + 1) = s.size - (i + 1) by omega]
  rw [pieces_hit _ (i - at_) hj hg2 hn2, e1, e2]

theorem parts_loop (s : ByteArray) (hs : s.size ≤ 4398046511104) : ∀ (d i at_ : Nat) (acc : List ByteArray), i + d = s.size → at_ ≤ i → acc.length ≤ i → (47 : UInt8) ∉ (s.data.toList.take i).drop at_ →
    Ev (fun k => spec_l24Parts.l0 k s acc (at_ : Int) (i : Int)) (acc ++ piecesOf (s.extract at_ s.size)) := by
  intro d
  induction d with
  | zero =>
    intro i at_ acc hi hat hacc hno
    obtain rfl : i = s.size := by omega
    have e : wrap64 ((s.size : Int) + 1) = ((s.size + 1 : Nat) : Int) := wrap_succ _ (by omega)
    have hp : piecesOf (s.extract at_ s.size) = [s.extract at_ s.size] := by
      refine pieces_none _ ?_
      rw [ext_list, ← List.drop_take]
      exact hno
    have t1 : ((at_ : Int)).toNat = at_ := by omega
    have t2 : ((s.size : Int)).toNat = s.size := by omega
    have e1 : ∀ k, spec_l24Parts.l0 (k + 1) s acc (at_ : Int) (s.size : Int) = spec_l24Parts.l0 k s (acc ++ [s.extract at_ s.size]) ((s.size + 1 : Nat) : Int) ((s.size + 1 : Nat) : Int) := fun k => by
      rw [spec_l24Parts.l0]
      rw [if_pos (Int.le_refl _), if_pos rfl, if_pos (by omega), if_pos (by omega), if_pos (by omega), e, t1, t2]
    have e2 : ∀ k a, spec_l24Parts.l0 (k + 1) s a ((s.size + 1 : Nat) : Int) ((s.size + 1 : Nat) : Int) = some a := fun k a => by
      rw [spec_l24Parts.l0]
      rw [if_neg (by omega)]
    refine Ev.next (Ev.next ⟨0, fun k _ => ?_⟩)
    show spec_l24Parts.l0 (k + 1 + 1) s acc (at_ : Int) (s.size : Int) = _
    rw [e1, e2, hp]
  | succ d ih =>
    intro i at_ acc hi hat hacc hno
    have hlt : i < s.size := by omega
    have hl : i < s.data.toList.length := by rw [← size_list]; exact hlt
    have e : wrap64 ((i : Int) + 1) = ((i + 1 : Nat) : Int) := wrap_succ _ (by omega)
    have t1 : ((at_ : Int)).toNat = at_ := by omega
    have t2 : ((i : Int)).toNat = i := by omega
    by_cases hb : bt s (i : Int) = 47
    · have hb' := (bt_47 s i hlt).1 hb
      have hp := pieces_at s at_ i hat hlt hb' hno
      have hn := ih (i + 1) (i + 1) (acc ++ [s.extract at_ i]) (by omega) (Nat.le_refl _) (by simp; omega) (by
        rw [List.drop_of_length_le (by rw [List.length_take]; omega)]
        simp)
      rw [List.append_assoc, List.singleton_append, ← hp] at hn
      refine Ev.step (fun k => ?_) hn
      simp only [spec_l24Parts.l0, e]
      rw [if_pos (by omega), if_neg (by omega), if_pos (by omega), if_pos (by omega), if_pos hb, if_pos (by omega), if_pos (by omega), if_pos (by omega), t1, t2]
    · have hb' : ¬ s.data.toList[i] = 47 := fun x => hb ((bt_47 s i hlt).2 x)
      have hn := ih (i + 1) at_ acc (by omega) (by omega) (by omega) (by
        rw [List.take_succ_eq_append_getElem hl, List.drop_append_of_le_length (by rw [List.length_take]; omega), List.mem_append]
        rintro (x | x)
        · exact hno x
        · rw [List.mem_singleton] at x
          exact hb' x.symm)
      refine Ev.step (fun k => ?_) hn
      simp only [spec_l24Parts.l0, e]
      rw [if_pos (by omega), if_neg (by omega), if_pos (by omega), if_pos (by omega), if_neg hb]

def partsB (s : ByteArray) : List ByteArray := if s.size = 0 then [] else if bt s 0 = 47 then piecesOf (s.extract 1 s.size) else []
theorem spec_parts (s : ByteArray) (hs : s.size ≤ 4398046511104) : Ev (fun k => spec_l24Parts.f k s) (partsB s) := by
  unfold partsB
  simp only [spec_l24Parts.f]
  by_cases h0 : s.size = 0
  · rw [if_pos h0]
    simp only [h0, Int.ofNat_zero, Int.natCast_zero, if_true]
    exact Ev.next ⟨0, fun k _ => by simp [spec_l24Parts.j0]⟩
  · rw [if_neg h0]
    have h1 : ¬ ((s.size : Int) = 0) := by omega
    have h2 : 0 < (s.size : Int) := by omega
    simp only [h1, h2, if_true, if_false]
    by_cases hb : bt s 0 = 47
    · rw [if_pos hb]
      refine Ev.next ?_
      have : (bt s 0 != 47) = false := by simp [hb]
      simp only [spec_l24Parts.j0, this, Bool.false_eq_true, if_false]
      have h := parts_loop s hs (s.size - 1) 1 1 [] (by omega) (Nat.le_refl _) (by simp) (by
        rw [List.drop_of_length_le (by rw [List.length_take]; omega)]
        simp)
      exact h
    · rw [if_neg hb]
      have : (bt s 0 != 47) = true := by simp [hb]
      exact Ev.next ⟨0, fun k _ => by simp [spec_l24Parts.j0, this]⟩

theorem splitB_size (sep : ByteArray) : ∀ (k : Nat) (s p : ByteArray), p ∈ Lib.splitB sep 0 k s → p.size ≤ s.size
  | 0, s, p, h => by
    rw [Lib.splitB_zero, List.mem_singleton] at h
    rw [h]; exact Nat.le_refl _
  | k + 1, s, p, h => by
    unfold Lib.splitB at h
    split at h
    · rw [List.mem_singleton] at h
      rw [h]; exact Nat.le_refl _
    · rcases List.mem_cons.1 h with rfl | h
      · rw [size_list, ext_list, List.length_take, List.length_drop, ← size_list]; omega
      · have := splitB_size sep k _ p h
        refine Nat.le_trans this ?_
        rw [size_list, ext_list, List.length_take, List.length_drop, ← size_list]; omega
theorem pieces_size (t p : ByteArray) (h : p ∈ piecesOf t) : p.size ≤ t.size := splitB_size _ _ _ _ h
theorem pieces_length (t : ByteArray) : (piecesOf t).length ≤ t.size + 2 := by
  have h := Lib.splitB_length_le sl 0 (Lib.countB t sl) t
  have hct : Lib.countB t sl ≤ t.size + 1 := by rw [size_list]; exact Lib.count_le _ _
  unfold piecesOf
  omega
theorem pieces_pos (t : ByteArray) : 0 < (piecesOf t).length := by
  unfold piecesOf
  cases Lib.countB t sl with
  | zero => simp [Lib.splitB_zero]
  | succ n =>
    unfold Lib.splitB
    split
    · simp
    · simp

theorem spec_all (l : List ByteArray) (hl : l.length ≤ 1048578) (hp : ∀ p ∈ l, p.size ≤ 1048576) :
    Ev (fun k => spec_GoodTopic.l0 k l (l.length : Int) 0) (if (List.range l.length).all (fun i => partB (rdOf ByteArray.empty l (i : Int))) = true then true else false) := by
  refine all_loop2 (fun k i => spec_GoodTopic.l0 k l (l.length : Int) i) l.length _ true false ?_ ?_ ?_
  · exact Ev.next ⟨0, fun k _ => by simp only [spec_GoodTopic.l0]; rw [if_neg (by omega)]⟩
  · intro i hi hp' r hr
    have e : wrap64 ((i : Int) + 1) = ((i + 1 : Nat) : Int) := wrap_succ i (by omega)
    refine Ev.next ?_
    simp only [spec_GoodTopic.l0, e]
    have c1 : ((i : Nat) : Int) < (l.length : Int) := by omega
    have c2 : (0 : Int) ≤ ((i : Nat) : Int) := by omega
    simp only [c1, c2, if_true]
    refine Ev.bind (spec_part _ (by rw [rdOf_get _ _ _ hi]; exact hp _ (List.getElem_mem hi))) ?_
    simp only [hp', if_true]
    exact hr
  · intro i hi hp'
    refine Ev.next ?_
    simp only [spec_GoodTopic.l0]
    have c1 : ((i : Nat) : Int) < (l.length : Int) := by omega
    have c2 : (0 : Int) ≤ ((i : Nat) : Int) := by omega
    simp only [c1, c2, if_true]
    refine Ev.bind (spec_part _ (by rw [rdOf_get _ _ _ hi]; exact hp _ (List.getElem_mem hi))) ?_
    simp only [hp', Bool.false_eq_true, if_false]
    exact Ev.now _
theorem impl_all (l : List ByteArray) (hl : l.length ≤ 1048578) (hp : ∀ p ∈ l, p.size ≤ 1048576) :
    Ev (fun k => impl_GoodTopic.l0 k l (l.length : Int) 0) (if (List.range l.length).all (fun i => partB (rdOf ByteArray.empty l (i : Int))) = true then true else false) := by
  refine all_loop2 (fun k i => impl_GoodTopic.l0 k l (l.length : Int) i) l.length _ true false ?_ ?_ ?_
  · exact Ev.next ⟨0, fun k _ => by simp only [impl_GoodTopic.l0]; rw [if_neg (by omega)]⟩
  · intro i hi hp' r hr
    have e : wrap64 ((i : Int) + 1) = ((i + 1 : Nat) : Int) := wrap_succ i (by omega)
    refine Ev.next ?_
    simp only [impl_GoodTopic.l0, e]
    have c1 : ((i : Nat) : Int) < (l.length : Int) := by omega
    have c2 : (0 : Int) ≤ ((i : Nat) : Int) := by omega
    simp only [c1, c2, if_true]
    refine Ev.bind (impl_part _ (by rw [rdOf_get _ _ _ hi]; exact hp _ (List.getElem_mem hi))) ?_
    simp only [hp', if_true]
    exact hr
  · intro i hi hp'
    refine Ev.next ?_
    simp only [impl_GoodTopic.l0]
    have c1 : ((i : Nat) : Int) < (l.length : Int) := by omega
    have c2 : (0 : Int) ≤ ((i : Nat) : Int) := by omega
    simp only [c1, c2, if_true]
    refine Ev.bind (impl_part _ (by rw [rdOf_get _ _ _ hi]; exact hp _ (List.getElem_mem hi))) ?_
    simp only [hp', Bool.false_eq_true, if_false]
    exact Ev.now _

def goodB (s : ByteArray) : Bool := if (s.size : Int) > 60 then false else if (partsB s).length = 0 then false else if (List.range (partsB s).length).all (fun i => partB (rdOf ByteArray.empty (partsB s) (i : Int))) = true then true else false
theorem parts_size (s p : ByteArray) (h : p ∈ partsB s) : p.size ≤ s.size := by
  unfold partsB at h
  split at h
  · simp at h
  · split at h
    · refine Nat.le_trans (pieces_size _ _ h) ?_
      rw [size_list, ext_list, List.length_take, List.length_drop, ← size_list]; omega
    · simp at h
theorem parts_length (s : ByteArray) : (partsB s).length ≤ s.size + 2 := by
  unfold partsB
  split
  · simp
  · split
    · refine Nat.le_trans (pieces_length _) ?_
      have : (s.extract 1 s.size).size ≤ s.size := by rw [size_list, ext_list, List.length_take, List.length_drop, ← size_list]; omega
      omega
    · simp
theorem spec_good (s : ByteArray) (hs : s.size ≤ 4398046511104) : Ev (fun k => spec_GoodTopic.f k s) (goodB s) := by
  have hl := parts_length s
  unfold goodB
  simp only [spec_GoodTopic.f]
  refine Ev.bind (spec_parts s hs) ?_
  by_cases h1 : (s.size : Int) > 60
  · simp only [h1, if_true]
    exact Ev.next ⟨0, fun k _ => by simp [spec_GoodTopic.j0]⟩
  · simp only [h1, if_false]
    by_cases h2 : (partsB s).length = 0
    · have h2' : (((partsB s).length : Int) == 0) = true := by simp [h2]
      simp only [h2', if_pos h2]
      exact Ev.next ⟨0, fun k _ => by simp [spec_GoodTopic.j0]⟩
    · have h2' : (((partsB s).length : Int) == 0) = false := by rw [beq_eq_false_iff_ne]; omega
      simp only [h2', if_neg h2]
      refine Ev.next ?_
      simp only [spec_GoodTopic.j0, Bool.false_eq_true, if_false]
      exact spec_all _ (by omega) (fun p hp => by have := parts_size s p hp; omega)
theorem cut_slash (s : ByteArray) : strings_CutPrefix.f s sl = some (if s.size = 0 then (s, false) else if bt s 0 = 47 then (s.extract 1 s.size, true) else (s, false)) := by
  have e1 : (sl.size : Int) = 1 := rfl
  simp only [strings_CutPrefix.f, stringslite_CutPrefix.f, stringslite_HasPrefix.f, e1]
  by_cases h0 : s.size = 0
  · rw [if_pos h0, if_neg (by omega)]
    simp
  · rw [if_neg h0, if_pos (by omega), if_pos (by omega), if_pos (by omega)]
    have t1 : ((1 : Int)).toNat = 1 := rfl
    have hl : 0 < s.data.toList.length := by rw [← size_list]; omega
    have e2 : ((s.extract 0 1).toList == sl.toList) = decide (bt s 0 = 47) := by
      have x := bt_47 s 0 (by omega)
      have y : (s.extract 0 1).toList = [s.data.toList[0]] := by
        rw [ByteArray.toList_eq, ext_list, List.drop_zero]
        show s.data.toList.take (0 + 1) = _
        rw [List.take_succ_eq_append_getElem hl]
        rfl
      have z : sl.toList = [47] := by rw [ByteArray.toList_eq]; rfl
      rw [y, z]
      by_cases hb : bt s ((0 : Nat) : Int) = 47
      · have hx := x.1 hb
        simp only [hx]
        have : bt s 0 = 47 := hb
        simp [this]
      · have hx : ¬ s.data.toList[0] = 47 := fun w => hb (x.2 w)
        have : ¬ bt s 0 = 47 := hb
        rw [decide_eq_false this, beq_eq_false_iff_ne]
        intro w
        exact hx (List.cons.inj w).1
    rw [t1, e2]
    by_cases hb : bt s 0 = 47
    · simp only [hb, decide_true, Option.bind_some, if_true]
      rw [if_pos (by omega), if_pos (by omega)]
      rfl
    · simp [hb]
theorem impl_good (s : ByteArray) (hs : s.size ≤ 4398046511104) : Ev (fun k => impl_GoodTopic.f k s) (goodB s) := by
  have hl := parts_length s
  have hcut := cut_slash s
  unfold goodB
  simp only [impl_GoodTopic.f]
  rw [show (⟨#[47]⟩ : ByteArray) = sl from rfl, hcut]
  simp only [Option.bind_some]
  unfold partsB
  by_cases h0 : s.size = 0
  · simp only [h0, if_true]
    refine Ev.next ⟨0, fun k _ => ?_⟩
    simp [impl_GoodTopic.j0]
  · simp only [h0, if_false]
    by_cases hb : bt s 0 = 47
    · simp only [hb, if_true]
      by_cases h1 : (s.size : Int) > 60
      · simp only [h1, if_true, decide_true]
        exact Ev.next ⟨0, fun k _ => by simp [impl_GoodTopic.j0]⟩
      · simp only [h1, if_false, decide_false]
        have hsz : (s.extract 1 s.size).size ≤ s.size := by rw [size_list, ext_list, List.length_take, List.length_drop, ← size_list]; omega
        rw [if_neg (by have := pieces_pos (s.extract 1 s.size); omega)]
        refine Ev.next ?_
        simp only [impl_GoodTopic.j0, Bool.false_eq_true, if_false]
        have hsp : ∀ k, strings_Split.f k (s.extract 1 s.size) (⟨#[47]⟩ : ByteArray) = some (piecesOf (s.extract 1 s.size)) := fun k => by
          unfold strings_Split.f
          rw [if_pos ⟨by omega, rfl⟩]
          rfl
        simp only [hsp, Option.bind_some]
        exact impl_all _ (by have := pieces_length (s.extract 1 s.size); omega) (fun p hp => by have := pieces_size _ p hp; omega)
    · simp only [hb, if_false]
      refine Ev.next ⟨0, fun k _ => ?_⟩
      simp [impl_GoodTopic.j0]
def isDS (x : ByteArray) : Bool := decide (x.toList = [42, 42])
def Fm (x : ByteArray) (n : List ByteArray) (g : List ByteArray → Bool) : Bool :=
  match n with
  | [] => false
  | y :: m => if x.toList = ([42] : List UInt8) ∨ x.toList = y.toList then g m else false
def F : List ByteArray → List ByteArray → Bool
  | [], n => n.isEmpty
  | x :: p, n => if x.toList = ([42, 42] : List UInt8) then (List.range (n.length + 1)).any (fun k => F p (n.drop k)) else Fm x n (F p)
theorem F_nil (n : List ByteArray) : F [] n = n.isEmpty := rfl
theorem F_any (x : ByteArray) (p n : List ByteArray) (hx : x.toList = ([42, 42] : List UInt8)) : F (x :: p) n = (List.range (n.length + 1)).any (fun k => F p (n.drop k)) := by
  show (if x.toList = ([42, 42] : List UInt8) then _ else _) = _
  rw [if_pos hx]
theorem F_one (x : ByteArray) (p n : List ByteArray) (hx : ¬ x.toList = ([42, 42] : List UInt8)) : F (x :: p) n = Fm x n (F p) := by
  show (if x.toList = ([42, 42] : List UInt8) then _ else _) = _
  rw [if_neg hx]
theorem F_star (x : ByteArray) (p n : List ByteArray) (hx : x.toList = ([42, 42] : List UInt8)) : F (x :: p) n = (F p n || (!n.isEmpty && F (x :: p) (n.drop 1))) := by
  cases n with
  | nil =>
    rw [F_any x p [] hx]
    simp
  | cons y m =>
    have e2 : F (x :: p) m = (List.range (m.length + 1)).any (fun k => F p (m.drop k)) := F_any x p m hx
    rw [F_any x p (y :: m) hx, List.length_cons, List.range_succ_eq_map, List.any_cons, List.any_map]
    simp only [List.drop_zero, List.drop_succ_cons, List.isEmpty_cons, Bool.not_false, Bool.true_and]
    rw [e2]
    rfl
theorem impl_fits_ev : ∀ (d : Nat) (p n : List ByteArray), p.length + n.length ≤ d → Ev (fun k => impl_fits.f k p n) (F p n) := by
  intro d
  induction d using Nat.strongRecOn with
  | _ d ih =>
    intro p n hd
    refine Ev.next ?_
    cases p with
    | nil =>
      simp only [impl_fits.f, List.length_nil, Int.natCast_zero, Int.ofNat_zero, if_true, F_nil]
      refine ⟨0, fun k _ => ?_⟩
      cases n with
      | nil => rfl
      | cons y m => simp; omega
    | cons x p =>
      have c0 : ¬ (((x :: p).length : Nat) : Int) = 0 := by rw [List.length_cons]; omega
      have c1 : 0 < (((x :: p).length : Nat) : Int) := by rw [List.length_cons]; omega
      have c2 : 1 ≤ (((x :: p).length : Nat) : Int) := by rw [List.length_cons]; omega
      have e0 : rdOf ByteArray.empty (x :: p) 0 = x := rfl
      simp only [impl_fits.f, c0, c1, c2, e0, if_true, if_false, List.drop_succ_cons, List.drop_zero]
      rw [List.length_cons] at hd
      by_cases hx : x.toList = ([42, 42] : List UInt8)
      · rw [F_star x p n hx]
        simp only [hx, if_true]
        refine Ev.bind (ih (p.length + n.length) (by omega) p n (Nat.le_refl _)) ?_
        cases hF : F p n with
        | true =>
          simp only [if_true, Bool.true_or]
          exact Ev.now _
        | false =>
          simp only [Bool.false_eq_true, if_false, Bool.false_or]
          cases n with
          | nil =>
            refine ⟨0, fun k _ => ?_⟩
            simp
          | cons y m =>
            have c3 : (((y :: m).length : Nat) : Int) > 0 := by rw [List.length_cons]; omega
            have c4 : 1 ≤ (((y :: m).length : Nat) : Int) := by rw [List.length_cons]; omega
            simp only [c3, c4, if_true, List.drop_succ_cons, List.drop_zero, List.isEmpty_cons, Bool.not_false, Bool.true_and]
            refine Ev.bind (ih (p.length + 1 + m.length) (by rw [List.length_cons] at hd; omega) (x :: p) m (by rw [List.length_cons]; exact Nat.le_refl _)) ?_
            exact Ev.now _
      · simp only [hx, if_false]
        have eF := F_one x p n hx
        rw [eF]
        cases n with
        | nil =>
          refine ⟨0, fun k _ => ?_⟩
          simp [Fm]
        | cons y m =>
          have c3 : (((y :: m).length : Nat) : Int) > 0 := by rw [List.length_cons]; omega
          have c4 : 1 ≤ (((y :: m).length : Nat) : Int) := by rw [List.length_cons]; omega
          have c5 : 0 < (((y :: m).length : Nat) : Int) := by rw [List.length_cons]; omega
          have e1 : rdOf ByteArray.empty (y :: m) 0 = y := rfl
          simp only [Fm, c3, c4, c5, e1, if_true, List.drop_succ_cons, List.drop_zero]
          have hr := ih (p.length + m.length) (by rw [List.length_cons] at hd; omega) p m (Nat.le_refl _)
          by_cases h1 : x.toList = ([42] : List UInt8)
          · simp only [h1, if_true, true_or]
            exact Ev.bind hr (Ev.now _)
          · by_cases h2 : x.toList = y.toList
            · rw [if_pos (Or.inr h2)]
              simp only [h1, h2, if_true, if_false]
              rw [← h2]
              simp only [h1, if_false]
              exact Ev.bind hr (Ev.now _)
            · simp only [h1, h2, if_false, or_self]
              exact Ev.now _
theorem spec_fits_ev : ∀ (p n : List ByteArray), n.length ≤ 1048580 → Ev (fun k => spec_l24Fits.f k p n) (F p n) := by
  intro p
  induction p with
  | nil =>
    intro n _
    refine Ev.next ?_
    simp only [spec_l24Fits.f, List.length_nil, Int.natCast_zero, Int.ofNat_zero, if_true, F_nil]
    refine ⟨0, fun k _ => ?_⟩
    cases n with
    | nil => rfl
    | cons y m => simp; omega
  | cons x p ih =>
    intro n hn
    have c0 : ¬ (((x :: p).length : Nat) : Int) = 0 := by rw [List.length_cons]; omega
    have c1 : 0 < (((x :: p).length : Nat) : Int) := by rw [List.length_cons]; omega
    have c2 : 1 ≤ (((x :: p).length : Nat) : Int) := by rw [List.length_cons]; omega
    have e0 : rdOf ByteArray.empty (x :: p) 0 = x := rfl
    by_cases hx : x.toList = ([42, 42] : List UInt8)
    · have loop : ∀ (d i : Nat), i + d = n.length + 1 → Ev (fun k => spec_l24Fits.l0 k (x :: p) n (i : Int)) ((List.range' i d).any (fun k => F p (n.drop k))) := by
        intro d
        induction d with
        | zero =>
          intro i hi
          refine Ev.next ⟨0, fun k _ => ?_⟩
          simp only [spec_l24Fits.l0]
          rw [if_neg (by omega)]
          rfl
        | succ d ihd =>
          intro i hi
          rw [List.range'_succ, List.any_cons]
          have e : wrap64 ((i : Int) + 1) = ((i + 1 : Nat) : Int) := wrap_succ i (by omega)
          have t0 : ((i : Int)).toNat = i := by omega
          have c3 : (i : Int) ≤ (n.length : Int) := by omega
          have c4 : (0 : Int) ≤ (i : Int) := by omega
          refine Ev.next ?_
          simp only [spec_l24Fits.l0, e, t0, c2, c3, c4, if_true, List.drop_succ_cons, List.drop_zero]
          refine Ev.bind (ih (n.drop i) (by rw [List.length_drop]; omega)) ?_
          cases hF : F p (n.drop i) with
          | true =>
            simp only [if_true, Bool.true_or]
            exact Ev.now _
          | false =>
            simp only [Bool.false_eq_true, if_false, Bool.false_or]
            exact ihd (i + 1) (by omega)
      have h := loop (n.length + 1) 0 (by omega)
      have eF : F (x :: p) n = (List.range' 0 (n.length + 1)).any (fun k => F p (n.drop k)) := by
        rw [F_any x p n hx, List.range_eq_range']
      rw [eF]
      refine Ev.next ?_
      simp only [spec_l24Fits.f, c0, c1, e0, hx, if_true, if_false]
      exact h
    · have eF := F_one x p n hx
      rw [eF]
      refine Ev.next ?_
      simp only [spec_l24Fits.f, c0, c1, c2, e0, hx, if_true, if_false, List.drop_succ_cons, List.drop_zero]
      cases n with
      | nil =>
        refine ⟨0, fun k _ => ?_⟩
        simp [Fm]
      | cons y m =>
        have c3 : (((y :: m).length : Nat) : Int) > 0 := by rw [List.length_cons]; omega
        have c4 : 1 ≤ (((y :: m).length : Nat) : Int) := by rw [List.length_cons]; omega
        have c5 : 0 < (((y :: m).length : Nat) : Int) := by rw [List.length_cons]; omega
        have e1 : rdOf ByteArray.empty (y :: m) 0 = y := rfl
        simp only [Fm, c3, c4, c5, e1, if_true, List.drop_succ_cons, List.drop_zero]
        have hr := ih m (by rw [List.length_cons] at hn; omega)
        by_cases h1 : x.toList = ([42] : List UInt8)
        · simp only [h1, if_true, true_or]
          exact Ev.bind hr (Ev.now _)
        · by_cases h2 : x.toList = y.toList
          · rw [if_pos (Or.inr h2)]
            simp only [h1, h2, if_true, if_false]
            rw [← h2]
            simp only [h1, if_false]
            exact Ev.bind hr (Ev.now _)
          · simp only [h1, h2, if_false, or_self]
            exact Ev.now _

theorem F_congr (b b' : List ByteArray) (h : ∀ n, F b n = F b' n) : ∀ (a n : List ByteArray), F (a ++ b) n = F (a ++ b') n
  | [], n => h n
  | x :: a, n => by
    rw [List.cons_append, List.cons_append]
    by_cases hx : x.toList = ([42, 42] : List UInt8)
    · rw [F_any _ _ _ hx, F_any _ _ _ hx]
      congr 1
      funext k
      exact F_congr b b' h a _
    · rw [F_one _ _ _ hx, F_one _ _ _ hx]
      congr 1
      funext k
      exact F_congr b b' h a _
theorem F_two (s x : ByteArray) (r n : List ByteArray) (hs : s.toList = ([42, 42] : List UInt8)) (hx : x.toList = ([42, 42] : List UInt8)) : F (s :: x :: r) n = F (s :: r) n := by
  have e1 : F (s :: x :: r) n = (List.range (n.length + 1)).any (fun k => (List.range ((n.drop k).length + 1)).any (fun j => F r ((n.drop k).drop j))) := by
    rw [F_any _ _ _ hs]
    congr 1
    funext k
    rw [F_any _ _ _ hx]
  have e2 : F (s :: r) n = (List.range (n.length + 1)).any (fun k => F r (n.drop k)) := F_any _ _ _ hs
  rw [e1, e2, Bool.eq_iff_iff]
  simp only [List.any_eq_true, List.mem_range, List.length_drop, List.drop_drop]
  constructor
  · rintro ⟨k, hk, j, hj, h⟩
    exact ⟨k + j, by omega, h⟩
  · rintro ⟨k, hk, h⟩
    exact ⟨k, hk, 0, by omega, h⟩
def ddStep (q : List ByteArray) (x : ByteArray) : List ByteArray := if x.toList = ([42, 42] : List UInt8) then (if (q.length : Int) > 0 then (if (rdOf ByteArray.empty q ((q.length - 1 : Nat) : Int)).toList = ([42, 42] : List UInt8) then q else q ++ [x]) else q ++ [x]) else q ++ [x]
def dd (l : List ByteArray) : List ByteArray := l.foldl ddStep []
theorem F_dd : ∀ (r q n : List ByteArray), F (r.foldl ddStep q) n = F (q ++ r) n
  | [], q, n => by rw [List.foldl_nil, List.append_nil]
  | x :: r, q, n => by
    rw [List.foldl_cons, F_dd r]
    unfold ddStep
    split
    · rename_i hx
      split
      · rename_i hq
        split
        · rename_i hl
          have hq' : 0 < q.length := by omega
          obtain ⟨q0, s, rfl⟩ : ∃ q0 s, q = q0 ++ [s] := ⟨q.dropLast, q.getLast (by intro e; rw [e] at hq'; simp at hq'), (List.dropLast_concat_getLast _).symm⟩
          have hs : s.toList = ([42, 42] : List UInt8) := by
            rw [rdOf_get _ _ _ (by simp)] at hl
            simpa using hl
          rw [List.append_assoc, List.append_assoc]
          exact F_congr _ _ (fun m => (F_two s x r m hs hx).symm) q0 n
        · rw [List.append_assoc]; rfl
      · rw [List.append_assoc]; rfl
    · rw [List.append_assoc]; rfl
theorem dd_length : ∀ (r q : List ByteArray), (r.foldl ddStep q).length ≤ q.length + r.length
  | [], q => by simp
  | x :: r, q => by
    rw [List.foldl_cons, List.length_cons]
    have h := dd_length r (ddStep q x)
    have h2 : (ddStep q x).length ≤ q.length + 1 := by
      unfold ddStep
      (repeat' split) <;> simp
    omega

def st (x : ByteArray) : ByteArray := if x.toList = ([42] : List UInt8) then ⟨#[97]⟩ else if x.toList = ([42, 42] : List UInt8) then ⟨#[97]⟩ else x
def plainStep (acc x : ByteArray) : ByteArray := acc ++ (sl ++ st x)
def plainOf (l : List ByteArray) : ByteArray := l.foldl plainStep ⟨#[]⟩
theorem app_list (a b : ByteArray) : (a ++ b).data.toList = a.data.toList ++ b.data.toList := by simp
theorem plain_list : ∀ (l : List ByteArray) (acc : ByteArray), (l.foldl plainStep acc).data.toList = acc.data.toList ++ (l.map fun x => 47 :: (st x).data.toList).flatten
  | [], acc => by simp
  | x :: l, acc => by
    rw [List.foldl_cons, plain_list l]
    unfold plainStep
    rw [app_list, app_list, sl_list]
    simp
theorem st_size (x : ByteArray) : (st x).size ≤ x.size + 1 := by
  unfold st
  split
  · show 1 ≤ _; omega
  · split
    · show 1 ≤ _; omega
    · omega
theorem plain_size : ∀ (l : List ByteArray) (acc : ByteArray), (∀ x ∈ l, x.size ≤ 1048576) → (l.foldl plainStep acc).size ≤ acc.size + l.length * 1048578
  | [], acc, _ => by simp
  | x :: l, acc, h => by
    have h1 := plain_size l (plainStep acc x) (fun y hy => h y (List.mem_cons_of_mem _ hy))
    have h2 := h x List.mem_cons_self
    have h3 := st_size x
    have h4 : (plainStep acc x).size = acc.size + (1 + (st x).size) := by
      unfold plainStep
      rw [ByteArray.size_append, ByteArray.size_append]
      rfl
    rw [List.foldl_cons, List.length_cons]
    omega

def topicB (p n : ByteArray) : Bool := if goodB n = true then (if (partsB p).length = 0 then false else if goodB (plainOf (partsB p)) = true then F (partsB p) (partsB n) else false) else false
theorem spec_l1 (n : ByteArray) (P : List ByteArray) (hn : n.size ≤ 1048576) (hP : P.length ≤ 1048580) : Ev (fun k => spec_TopicFits.l1 k n [] P (P.length : Int) 0) (F P (partsB n)) := by
  have hl := parts_length n
  have := run_loop (fun k i (q : List ByteArray) => spec_TopicFits.l1 k n q P (P.length : Int) i) P.length (fun i => dd (P.take i)) (F P (partsB n)) ?_ ?_ 0 (Nat.zero_le _)
  · simpa [dd] using this
  · refine Ev.next ?_
    have e : dd (P.take P.length) = dd P := by rw [List.take_length]
    simp only [spec_TopicFits.l1, Int.lt_irrefl, if_false, e]
    refine Ev.bind (spec_parts n (by omega)) ?_
    have h := spec_fits_ev (dd P) (partsB n) (by omega)
    have hF : F (dd P) (partsB n) = F P (partsB n) := by
      have := F_dd P [] (partsB n)
      rw [List.nil_append] at this
      exact this
    rw [hF] at h
    exact Ev.bind h (Ev.now _)
  · intro i hi
    refine ⟨0, fun k _ => ?_⟩
    have e : wrap64 ((i : Int) + 1) = ((i + 1 : Nat) : Int) := wrap_succ i (by omega)
    have hq : (dd (P.take i)).length ≤ P.length := by
      have := dd_length (P.take i) []
      rw [List.length_take] at this
      have h2 : (dd (P.take i)).length ≤ [].length + min i P.length := this
      simp only [List.length_nil] at h2
      omega
    have es : dd (P.take (i + 1)) = ddStep (dd (P.take i)) P[i] := by
      unfold dd
      rw [List.take_succ_eq_append_getElem hi, List.foldl_append]
      rfl
    have er : rdOf ByteArray.empty P (i : Int) = P[i] := rdOf_get _ _ _ hi
    show spec_TopicFits.l1 (k + 1) n (dd (P.take i)) P (P.length : Int) (i : Int) = spec_TopicFits.l1 k n (dd (P.take (i + 1))) P (P.length : Int) ((i + 1 : Nat) : Int)
    rw [es]
    simp only [spec_TopicFits.l1, e, er]
    rw [if_pos (by omega), if_pos (by omega), if_pos (by omega)]
    unfold ddStep
    by_cases hx : P[i].toList = ([42, 42] : List UInt8)
    · rw [if_pos hx, if_pos hx]
      by_cases hp : ((dd (P.take i)).length : Int) > 0
      · have ew : wrap64 (((dd (P.take i)).length : Int) - 1) = (((dd (P.take i)).length - 1 : Nat) : Int) := wrap_pred _ (by omega) (by omega)
        rw [if_pos hp, if_pos hp, ew, if_pos (by omega), if_pos (by omega)]
        split
        · rfl
        · rw [if_pos (by omega)]
      · rw [if_neg hp, if_neg hp, if_pos (by omega)]
    · rw [if_neg hx, if_neg hx, if_pos (by omega)]
theorem spec_l0 (n : ByteArray) (P : List ByteArray) (hn : n.size ≤ 1048576) (hP : P.length ≤ 1048580) (hs : ∀ x ∈ P, x.size ≤ 1048576) :
    Ev (fun k => spec_TopicFits.l0 k n P (⟨#[]⟩ : ByteArray) P (P.length : Int) 0) (if goodB (plainOf P) = true then F P (partsB n) else false) := by
  have := run_loop (fun k i (q : ByteArray) => spec_TopicFits.l0 k n P q P (P.length : Int) i) P.length (fun i => plainOf (P.take i)) (if goodB (plainOf P) = true then F P (partsB n) else false) ?_ ?_ 0 (Nat.zero_le _)
  · simpa [plainOf] using this
  · refine Ev.next ?_
    have e : plainOf (P.take P.length) = plainOf P := by rw [List.take_length]
    simp only [spec_TopicFits.l0, Int.lt_irrefl, if_false, e]
    refine Ev.bind (spec_good (plainOf P) (by have := plain_size P ⟨#[]⟩ hs; show (P.foldl plainStep ⟨#[]⟩).size ≤ _; have e0 : (⟨#[]⟩ : ByteArray).size = 0 := rfl; omega)) ?_
    cases goodB (plainOf P) with
    | true =>
      simp only [if_true]
      exact spec_l1 n P hn hP
    | false =>
      simp only [Bool.false_eq_true, if_false]
      exact Ev.now _
  · intro i hi
    refine ⟨0, fun k _ => ?_⟩
    have e : wrap64 ((i : Int) + 1) = ((i + 1 : Nat) : Int) := wrap_succ i (by omega)
    have es : plainOf (P.take (i + 1)) = plainStep (plainOf (P.take i)) P[i] := by
      unfold plainOf
      rw [List.take_succ_eq_append_getElem hi, List.foldl_append]
      rfl
    have hz : (plainOf (P.take i)).size ≤ 1048580 * 1048578 := by
      have h := plain_size (P.take i) ⟨#[]⟩ (fun x hx => hs x (List.mem_of_mem_take hx))
      have e0 : (⟨#[]⟩ : ByteArray).size = 0 := rfl
      have h2 : (plainOf (P.take i)).size ≤ (⟨#[]⟩ : ByteArray).size + (P.take i).length * 1048578 := h
      rw [List.length_take] at h2
      omega
    have hx := hs P[i] (List.getElem_mem hi)
    have er : rdOf ByteArray.empty P (i : Int) = P[i] := rdOf_get _ _ _ hi
    show spec_TopicFits.l0 (k + 1) n P (plainOf (P.take i)) P (P.length : Int) (i : Int) = spec_TopicFits.l0 k n P (plainOf (P.take (i + 1))) P (P.length : Int) ((i + 1 : Nat) : Int)
    rw [es]
    simp only [spec_TopicFits.l0, e, er]
    rw [if_pos (by omega), if_pos (by omega), if_pos (by omega)]
    have hsz : ((⟨#[47]⟩ : ByteArray) ++ P[i]).size = 1 + P[i].size := by rw [ByteArray.size_append]; rfl
    unfold plainStep st
    by_cases h1 : P[i].toList = ([42] : List UInt8)
    · rw [if_pos h1, if_pos h1, if_pos (by decide), if_pos (by omega)]
      rfl
    · rw [if_neg h1, if_neg h1]
      by_cases h2 : P[i].toList = ([42, 42] : List UInt8)
      · rw [if_pos h2, if_pos h2, if_pos (by decide), if_pos (by omega)]
        rfl
      · rw [if_neg h2, if_neg h2, if_pos (by omega), if_pos (by omega)]
        rfl
theorem spec_topic (p n : ByteArray) (hp : p.size ≤ 1048576) (hn : n.size ≤ 1048576) : Ev (fun k => spec_TopicFits.f k p n) (topicB p n) := by
  have hl := parts_length p
  unfold topicB
  simp only [spec_TopicFits.f]
  refine Ev.bind (spec_parts p (by omega)) ?_
  refine Ev.bind (spec_good n (by omega)) ?_
  have stop : Ev (fun k => spec_TopicFits.j0 k n (partsB p) true) false := Ev.next ⟨0, fun k _ => by simp [spec_TopicFits.j0]⟩
  cases goodB n with
  | false =>
    simp only [Bool.false_eq_true, if_false]
    exact stop
  | true =>
    simp only [if_true]
    by_cases h0 : (partsB p).length = 0
    · have : (((partsB p).length : Int) == 0) = true := by simp [h0]
      rw [if_pos h0, this]
      exact stop
    · have : (((partsB p).length : Int) == 0) = false := by rw [beq_eq_false_iff_ne]; omega
      rw [if_neg h0, this]
      refine Ev.next ?_
      simp only [spec_TopicFits.j0, Bool.false_eq_true, if_false]
      exact spec_l0 n (partsB p) hn (by omega) (fun x hx => Nat.le_trans (parts_size p x hx) hp)

theorem pieces_slash (t : ByteArray) (h0 : t.size ≠ 0) (hb : bt t 0 = 47) : piecesOf t = (⟨#[]⟩ : ByteArray) :: partsB t := by
  have hl : 0 < t.size := by omega
  have h := pieces_hit t 0 hl ((bt_47 t 0 hl).1 hb) (by simp)
  rw [h]
  unfold partsB
  rw [if_neg h0, if_pos hb]
  congr 1
  refine ba_ext ?_
  rw [ext_list]
  simp
theorem pieces_head (t : ByteArray) (h0 : t.size ≠ 0) (hb : bt t 0 ≠ 47) : ∃ (h : ByteArray) (r : List ByteArray) (b : UInt8) (s : List UInt8), piecesOf t = h :: r ∧ h.data.toList = b :: s ∧ b ≠ 47 := by
  have hl : 0 < t.data.toList.length := by rw [← size_list]; omega
  have hb' : t.data.toList[0] ≠ 47 := fun e => hb ((bt_47 t 0 (by omega)).2 e)
  by_cases hm : (47 : UInt8) ∈ t.data.toList
  · obtain ⟨u1, bs, e, hn⟩ := List.eq_append_cons_of_mem hm
    cases u1 with
    | nil =>
      rw [List.nil_append] at e
      have : t.data.toList[0]? = some 47 := by rw [e]; rfl
      rw [List.getElem?_eq_getElem hl] at this
      exact absurd (Option.some.inj this) hb'
    | cons b s =>
      have hj : (b :: s).length < t.size := by rw [size_list, e, List.length_append, List.length_cons, List.length_cons]; omega
      have hj2 : (b :: s).length < t.data.toList.length := by rw [← size_list]; exact hj
      have hg : t.data.toList[(b :: s).length] = 47 := by
        have : t.data.toList[(b :: s).length]? = some 47 := by rw [e, List.getElem?_append_right (Nat.le_refl _), Nat.sub_self]; rfl
        rw [List.getElem?_eq_getElem hj2] at this
        exact Option.some.inj this
      have ht : t.data.toList.take (b :: s).length = b :: s := by rw [e, List.take_left']; rfl
      have h := pieces_hit t (b :: s).length hj hg (by rw [ht]; exact hn)
      refine ⟨_, _, b, s, h, ?_, ?_⟩
      · rw [ext_list, List.drop_zero, Nat.sub_zero, ht]
      · intro eb
        exact hn (by rw [eb]; exact List.mem_cons_self)
  · refine ⟨t, [], t.data.toList[0], t.data.toList.drop 1, pieces_none t hm, ?_, hb'⟩
    have := List.drop_eq_getElem_cons hl
    rw [List.drop_zero] at this
    exact this
theorem not_good (s : ByteArray) (h : s.size = 0 ∨ bt s 0 ≠ 47) : goodB s = false := by
  have hp : partsB s = [] := by
    unfold partsB
    rcases h with h | h
    · rw [if_pos h]
    · rw [if_neg h]
      split <;> rfl
  unfold goodB
  rw [hp]
  split
  · rfl
  · rfl
theorem good_slash (s : ByteArray) (h : goodB s = true) : s.size ≠ 0 ∧ bt s 0 = 47 := by
  refine ⟨fun e => ?_, ?_⟩
  · rw [not_good s (Or.inl e)] at h
    cases h
  · by_cases hb : bt s 0 = 47
    · exact hb
    · rw [not_good s (Or.inr hb)] at h
      cases h

theorem split_ev (t : ByteArray) (h : t.size ≤ 1048576) (k : Nat) : strings_Split.f k t (⟨#[47]⟩ : ByteArray) = some (piecesOf t) := by
  unfold strings_Split.f
  rw [if_pos ⟨by omega, rfl⟩]
  rfl
def joinOf (l : List ByteArray) : ByteArray := ⟨(Lib.join (l.map (·.data.toList)) [47]).toArray⟩
theorem joinOf_list (l : List ByteArray) : (joinOf l).data.toList = Lib.join (l.map (·.data.toList)) [47] := by simp [joinOf]
theorem join_cons_list : ∀ (r : List (List UInt8)) (x : List UInt8), Lib.join (x :: r) [47] = x ++ (r.map fun y => 47 :: y).flatten
  | [], x => by simp [Lib.join]
  | y :: r, x => by
    have h := join_cons_list r y
    have e : Lib.join (x :: y :: r) [47] = x ++ ([47] ++ Lib.join (y :: r) [47]) := by
      unfold Lib.join
      simp [List.intercalate, List.intersperse]
    rw [e, h]
    simp
theorem join_plain (P : List ByteArray) : joinOf (((⟨#[]⟩ : ByteArray) :: P).map st) = plainOf P := by
  refine ba_ext ?_
  rw [joinOf_list, List.map_map, List.map_cons, join_cons_list]
  have := plain_list P ⟨#[]⟩
  show _ = (P.foldl plainStep ⟨#[]⟩).data.toList
  rw [this, List.map_map]
  have e : (st ⟨#[]⟩) = ⟨#[]⟩ := by unfold st; rw [ByteArray.toList_eq]; rfl
  simp only [Function.comp_apply, e]
  rfl
theorem impl_l0 (n : ByteArray) (Q : List ByteArray) (hn : n.size ≤ 1048576) (hQ : Q.length ≤ 1048580) (hs : ∀ x ∈ Q, x.size ≤ 1048576) (N : List ByteArray) (hN : N = piecesOf n) :
    Ev (fun k => impl_TopicFits.l0 k n Q Q (Q.length : Int) 0) (if goodB n = true then (if goodB (joinOf (Q.map st)) = true then F Q N else false) else false) := by
  have hst : ∀ i, i ≤ Q.length → ((Q.take i).map st ++ Q.drop i).length = Q.length := fun i hi => by
    rw [List.length_append, List.length_map, List.length_take, List.length_drop]; omega
  have := run_loop (fun k i (q : List ByteArray) => impl_TopicFits.l0 k n Q q (Q.length : Int) i) Q.length (fun i => (Q.take i).map st ++ Q.drop i) (if goodB n = true then (if goodB (joinOf (Q.map st)) = true then F Q N else false) else false) ?_ ?_ 0 (Nat.zero_le _)
  · simpa using this
  · refine Ev.next ?_
    have e : (Q.take Q.length).map st ++ Q.drop Q.length = Q.map st := by rw [List.take_length, List.drop_length, List.append_nil]
    simp only [impl_TopicFits.l0, Int.lt_irrefl, if_false, e]
    refine Ev.bind (impl_good n (by omega)) ?_
    cases goodB n with
    | false =>
      simp only [Bool.false_eq_true, if_false]
      exact Ev.now _
    | true =>
      simp only [if_true]
      have hlen : (Lib.join ((Q.map st).map (·.data.toList)) [47]).length ≤ 1048580 * 1048578 := by
        cases hq : Q with
        | nil => simp [Lib.join]
        | cons x r =>
          rw [hq, List.length_cons] at hQ
          have hx := hs x (by rw [hq]; exact List.mem_cons_self)
          have h3 := st_size x
          rw [List.map_cons, List.map_cons, join_cons_list, List.length_append, List.map_map, List.map_map]
          have hr : ((List.map (((fun y => 47 :: y) ∘ fun x => x.data.toList) ∘ st) r).flatten).length ≤ r.length * 1048578 := by
            have h := plain_size r ⟨#[]⟩ (fun y hy => hs y (by rw [hq]; exact List.mem_cons_of_mem _ hy))
            rw [size_list, plain_list] at h
            have e0 : (⟨#[]⟩ : ByteArray).size = 0 := rfl
            have e1 : (⟨#[]⟩ : ByteArray).data.toList = [] := rfl
            rw [e0, e1, List.nil_append, Nat.zero_add] at h
            exact h
          have h4 := size_list (st x)
          omega
      have hj : ∀ k, strings_Join.f k (Q.map st) (⟨#[47]⟩ : ByteArray) = some (joinOf (Q.map st)) := fun k => by
        have e1 : (⟨#[47]⟩ : ByteArray).data.toList = [47] := rfl
        unfold strings_Join.f
        rw [e1, if_pos ⟨by omega, by rw [List.length_map]; omega⟩]
        rfl
      simp only [hj, Option.bind_some]
      refine Ev.bind (impl_good (joinOf (Q.map st)) (by rw [size_list, joinOf_list]; omega)) ?_
      cases goodB (joinOf (Q.map st)) with
      | false =>
        simp only [Bool.false_eq_true, if_false]
        exact Ev.now _
      | true =>
        simp only [if_true, split_ev n hn, Option.bind_some, ← hN]
        exact Ev.bind (impl_fits_ev (Q.length + N.length) Q N (Nat.le_refl _)) (Ev.now _)
  · intro i hi
    refine ⟨0, fun k _ => ?_⟩
    have e : wrap64 ((i : Int) + 1) = ((i + 1 : Nat) : Int) := wrap_succ i (by omega)
    have t0 : ((i : Int)).toNat = i := by omega
    have hlen := hst i (by omega)
    have hmap : ((Q.take i).map st).length = i := by rw [List.length_map, List.length_take]; omega
    have er : rdOf ByteArray.empty ((Q.take i).map st ++ Q.drop i) (i : Int) = Q[i] := by
      rw [rdOf_get _ _ _ (by rw [hlen]; exact hi), List.getElem_append_right (by rw [hmap]; exact Nat.le_refl _)]
      simp only [hmap, Nat.sub_self, List.getElem_drop, Nat.add_zero]
    have es : ((Q.take i).map st ++ Q.drop i).set i (st Q[i]) = (Q.take (i + 1)).map st ++ Q.drop (i + 1) := by
      rw [List.set_append, if_neg (by rw [hmap]; omega), hmap, Nat.sub_self, List.drop_eq_getElem_cons hi, List.set_cons_zero, List.take_succ_eq_append_getElem hi, List.map_append, List.append_assoc]
      rfl
    have es2 : st Q[i] = Q[i] → (Q.take i).map st ++ Q.drop i = (Q.take (i + 1)).map st ++ Q.drop (i + 1) := fun h => by
      rw [List.take_succ_eq_append_getElem hi, List.map_append, List.append_assoc, List.drop_eq_getElem_cons hi]
      simp [h]
    show impl_TopicFits.l0 (k + 1) n Q ((Q.take i).map st ++ Q.drop i) (Q.length : Int) (i : Int) = impl_TopicFits.l0 k n Q ((Q.take (i + 1)).map st ++ Q.drop (i + 1)) (Q.length : Int) ((i + 1 : Nat) : Int)
    simp only [impl_TopicFits.l0, e, er, t0, hlen]
    rw [if_pos (by omega), if_pos (by omega), if_pos (by omega)]
    by_cases h1 : Q[i].toList = ([42] : List UInt8)
    · have e1 : st Q[i] = ⟨#[97]⟩ := by unfold st; rw [if_pos h1]
      rw [if_pos h1, ← es, e1]
    · rw [if_neg h1]
      by_cases h2 : Q[i].toList = ([42, 42] : List UInt8)
      · have e1 : st Q[i] = ⟨#[97]⟩ := by unfold st; rw [if_neg h1, if_pos h2]
        rw [if_pos h2, ← es, e1]
      · have e1 : st Q[i] = Q[i] := by unfold st; rw [if_neg h1, if_neg h2]
        rw [if_neg h2, ← es2 e1]
theorem F_empty (P N : List ByteArray) : F ((⟨#[]⟩ : ByteArray) :: P) ((⟨#[]⟩ : ByteArray) :: N) = F P N := by
  have e : (⟨#[]⟩ : ByteArray).toList = [] := by rw [ByteArray.toList_eq]
  rw [F_one _ _ _ (by rw [e]; simp)]
  simp only [Fm, or_true, if_true]
theorem impl_topic (p n : ByteArray) (hp : p.size ≤ 1048576) (hn : n.size ≤ 1048576) : Ev (fun k => impl_TopicFits.f k p n) (topicB p n) := by
  have hpl := pieces_length p
  have h := impl_l0 n (piecesOf p) hn (by omega) (fun x hx => Nat.le_trans (pieces_size p x hx) hp) (piecesOf n) rfl
  have hv : (if goodB n = true then (if goodB (joinOf ((piecesOf p).map st)) = true then F (piecesOf p) (piecesOf n) else false) else false) = topicB p n := by
    unfold topicB
    cases hg : goodB n with
    | false => rfl
    | true =>
      simp only [if_true]
      obtain ⟨n0, nb⟩ := good_slash n hg
      rw [pieces_slash n n0 nb]
      by_cases h0 : p.size = 0
      · have e1 : partsB p = [] := by unfold partsB; rw [if_pos h0]
        have e2 : piecesOf p = [p] := pieces_none p (by
          have : p.data.toList = [] := List.length_eq_zero_iff.1 (by rw [← size_list]; exact h0)
          rw [this]; simp)
        have hl : p.data.toList = [] := List.length_eq_zero_iff.1 (by rw [← size_list]; exact h0)
        have e3 : st p = p := by unfold st; rw [ByteArray.toList_eq, hl]; rfl
        rw [e1, e2, List.map_cons, List.map_nil, e3]
        rw [not_good (joinOf [p]) (Or.inl (by rw [size_list, joinOf_list]; simp [Lib.join, hl]))]
        simp
      · by_cases hb : bt p 0 = 47
        · rw [pieces_slash p h0 hb, join_plain, F_empty]
          have : (partsB p).length ≠ 0 := by
            unfold partsB
            rw [if_neg h0, if_pos hb]
            have := pieces_pos (p.extract 1 p.size)
            omega
          rw [if_neg this]
        · have e1 : partsB p = [] := by unfold partsB; rw [if_neg h0, if_neg hb]
          obtain ⟨hd, r, b, s, e2, e3, hne⟩ := pieces_head p h0 hb
          rw [e1, e2, List.map_cons]
          have hstb : ∃ b' s', (st hd).data.toList = b' :: s' ∧ b' ≠ 47 := by
            unfold st
            split
            · exact ⟨97, [], rfl, by decide⟩
            · split
              · exact ⟨97, [], rfl, by decide⟩
              · exact ⟨b, s, e3, hne⟩
          obtain ⟨b', s', e4, hne'⟩ := hstb
          have hj : (joinOf (st hd :: r.map st)).data.toList = b' :: (s' ++ ((r.map st).map (·.data.toList) |>.map fun y => 47 :: y).flatten) := by
            rw [joinOf_list, List.map_cons, join_cons_list, e4]
            rfl
          have hsz : 0 < (joinOf (st hd :: r.map st)).size := by rw [size_list, hj]; simp
          rw [not_good (joinOf (st hd :: r.map st)) (Or.inr (fun e => by
            have := (bt_47 _ 0 hsz).1 e
            have h2 : (joinOf (st hd :: r.map st)).data.toList[0]? = some b' := by rw [hj]; rfl
            rw [List.getElem?_eq_getElem (by rw [← size_list]; exact hsz), this] at h2
            exact hne' (Option.some.inj h2).symm))]
          simp
  rw [hv] at h
  simp only [impl_TopicFits.f, split_ev p hp, Option.bind_some, slices_Clone_string_string.f, List.length_nil, List.nil_append]
  have c : 0 + (piecesOf p).length < 8796093022208 := by omega
  simp only [c, if_true, Option.bind_some]
  exact h
theorem FnExactTopicFits : laws_FnExactTopicFits.Pure := by
  intro p n _ _
  by_cases ha : (p.size : Int) > 1048576
  · exact ⟨0, by simp [laws_FnExactTopicFits.f, ha]⟩
  by_cases hn : (n.size : Int) > 1048576
  · exact ⟨0, by simp [laws_FnExactTopicFits.f, ha, hn]⟩
  obtain ⟨K1, h1⟩ := spec_topic p n (by omega) (by omega)
  obtain ⟨K2, h2⟩ := impl_topic p n (by omega) (by omega)
  refine ⟨K1 + K2, ?_⟩
  simp only [laws_FnExactTopicFits.f, ha, hn, if_false, h1 (K1 + K2) (by omega), h2 (K1 + K2) (by omega), Option.bind_some]
  simp

end Go.Proofs.YtmlejakajcmbdaaDoor.Pure
