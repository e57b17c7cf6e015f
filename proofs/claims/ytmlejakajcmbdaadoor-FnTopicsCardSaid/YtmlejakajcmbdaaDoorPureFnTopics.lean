/- For drawn topics: a good name is itself, whatever the space, and fits itself and the pattern of any parts; what is resolved is good. No condition. -/
import Derived.Test.YtmlejakajcmbdaaDoorQFnTopicsx11
import Derived.Test.YtmlejakajcmbdaaDoorPlain
namespace Go.Proofs.YtmlejakajcmbdaaDoor.Pure
open Go.RowKit Go.Proofs.YtmlejakajcmbdaaDoor.PFnTopics Go.Proofs.YtmlejakajcmbdaaDoor.Plain Go.Proofs.YtmlejakajcmbdaaDoorW.PrintWords Go.Proofs.YtmlejakajcmbdaaDoorW.PrintLast
set_option linter.unusedVariables false
set_option linter.unusedSimpArgs false

theorem ba_ext {a b : ByteArray} (h : a.data.toList = b.data.toList) : a = b := by
  obtain ⟨⟨x⟩⟩ := a
  obtain ⟨⟨y⟩⟩ := b
  simp only at h
  rw [h]
theorem ext_list (s : ByteArray) (a b : Nat) : (s.extract a b).data.toList = (s.data.toList.drop a).take (b - a) := by
  obtain ⟨⟨l⟩⟩ := s
  have e : (ByteArray.mk (Array.mk l)).extract a b = ByteArray.mk ((l.drop a).take (b - a)).toArray := ByteArray.extract_mk l a b
  rw [e]
theorem size_list (s : ByteArray) : s.size = s.data.toList.length := Lib.size_eq s
theorem bt_list (s : ByteArray) (i : Nat) (h : i < s.size) : bt s (i : Int) = ((s.data.toList[i]'(by rw [← size_list]; exact h)).toNat : Int) := by
  have : ((i : Int)).toNat = i := by omega
  simp only [bt, this, h, dif_pos]
  rfl
theorem bt_47 (s : ByteArray) (i : Nat) (h : i < s.size) : bt s (i : Int) = 47 ↔ s.data.toList[i]'(by rw [← size_list]; exact h) = 47 := by
  rw [bt_list s i h]
  constructor
  · intro e
    have e' : (s.data.toList[i]'(by rw [← size_list]; exact h)).toNat = 47 := by omega
    exact UInt8.toNat_inj.1 e'
  · intro e
    rw [e]
    rfl
theorem index_append (c : UInt8) : ∀ (p q : List UInt8), c ∉ p → Lib.indexByte (p ++ c :: q) c = (p.length : Int)
  | [], q, _ => by simp [Lib.indexByte]
  | b :: p, q, h => by
    have h1 : ¬ b = c := fun e => h (by simp [e])
    have h2 : c ∉ p := fun e => h (by simp [e])
    have ih := index_append c p q h2
    rw [List.cons_append]
    unfold Lib.indexByte
    have : (b == c) = false := by simpa using h1
    rw [this, ih]
    have : ((p.length : Int) == -1) = false := by
      rw [beq_eq_false_iff_ne]
      omega
    rw [this]
    simp
theorem index_none (c : UInt8) : ∀ (p : List UInt8), c ∉ p → Lib.indexByte p c = -1
  | [], _ => rfl
  | b :: p, h => by
    have h1 : ¬ b = c := fun e => h (by simp [e])
    have h2 : c ∉ p := fun e => h (by simp [e])
    unfold Lib.indexByte
    have : (b == c) = false := by simpa using h1
    rw [this, index_none c p h2]
    rfl

def sl : ByteArray := ⟨#[47]⟩
def piecesOf (t : ByteArray) : List ByteArray := Lib.splitB sl 0 (Lib.countB t sl) t
theorem sl_list : sl.data.toList = [47] := rfl
theorem pieces_none (t : ByteArray) (h : (47 : UInt8) ∉ t.data.toList) : piecesOf t = [t] := by
  unfold piecesOf
  refine Lib.splitB_miss _ _ _ _ ?_
  show Lib.index _ _ = -1
  rw [sl_list, Lib.index_one, index_none _ _ h]
theorem pieces_hit (t : ByteArray) (j : Nat) (h : j < t.size) (hj : t.data.toList[j]'(by rw [← size_list]; exact h) = 47) (hb : (47 : UInt8) ∉ t.data.toList.take j) :
    piecesOf t = t.extract 0 j :: piecesOf (t.extract (j + 1) t.size) := by
  have hl : j < t.data.toList.length := by rw [← size_list]; exact h
  have e : t.data.toList = t.data.toList.take j ++ 47 :: t.data.toList.drop (j + 1) := by
    conv => lhs; rw [← List.take_append_drop j t.data.toList]
    rw [List.drop_eq_getElem_cons hl, hj]
  have hi : Lib.indexB t sl = (j : Int) := by
    show Lib.index _ _ = _
    rw [sl_list, Lib.index_one]
    conv => lhs; rw [e]
    rw [index_append _ _ _ hb, List.length_take]
    omega
  have ed : (t.extract (j + 1) t.size).data.toList = t.data.toList.drop (j + 1) := by
    rw [ext_list, List.take_of_length_le]
    rw [List.length_drop, ← size_list]
    omega
  have hc : Lib.countB t sl = Lib.countB (t.extract (j + 1) t.size) sl + 1 := by
    show Lib.count _ _ = Lib.count _ _ + 1
    rw [sl_list, Lib.count_one, Lib.count_one, ed]
    conv => lhs; rw [e]
    rw [List.count_append, List.count_cons_self, List.count_eq_zero_of_not_mem hb]
    omega
  unfold piecesOf
  rw [hc, Lib.splitB_hit _ _ _ _ j hi]
  rfl

def okb (b : Int) : Bool := if b ≥ 97 then (if b ≤ 122 then true else (if b ≥ 48 then (if b ≤ 57 then true else decide (b = 95)) else decide (b = 95))) else (if b ≥ 48 then (if b ≤ 57 then true else decide (b = 95)) else decide (b = 95))
def partB (p : ByteArray) : Bool := if (p.size : Int) < 1 then false else if (p.size : Int) > 20 then false else if bt p 0 < 97 then false else if bt p 0 > 122 then false else if (List.range p.size).all (fun i => okb (bt p (i : Int))) = true then true else false
theorem spec_part (p : ByteArray) (hp : p.size ≤ 1048576) : Ev (fun k => spec_l24Part.f k p) (partB p) := by
  have go : Ev (fun k => spec_l24Part.l0 k p 0) (if (List.range p.size).all (fun i => okb (bt p (i : Int))) = true then true else false) := by
    refine all_loop (fun k i => spec_l24Part.l0 k p i) p.size _ true false ?_ ?_ ?_
    · exact Ev.next ⟨0, fun k _ => by simp only [spec_l24Part.l0]; rw [if_neg (by omega)]⟩
    · intro i hi hp'
      refine ⟨0, fun k _ => ?_⟩
      have e : wrap64 ((i : Int) + 1) = ((i + 1 : Nat) : Int) := wrap_succ i (by omega)
      simp only [spec_l24Part.l0, e]
      rw [if_pos (by omega), if_pos (by omega)]
      simp only [okb] at hp'
      repeat' split at hp'
      all_goals simp_all
    · intro i hi hp'
      refine ⟨0, fun k _ => ?_⟩
      simp only [spec_l24Part.l0]
      rw [if_pos (by omega), if_pos (by omega)]
      simp only [okb] at hp'
      repeat' split at hp'
      all_goals first
        | (exact absurd hp' (by decide))
        | (have hq := of_decide_eq_false hp'
           (repeat' split) <;> first | rfl | (exfalso; omega))
  unfold partB
  simp only [spec_l24Part.f]
  by_cases h1 : (p.size : Int) < 1
  · simp only [h1, if_true]
    exact Ev.next ⟨0, fun k _ => by simp [spec_l24Part.j0]⟩
  by_cases h2 : (p.size : Int) > 20
  · simp only [h1, h2, if_true, if_false]
    exact Ev.next ⟨0, fun k _ => by simp [spec_l24Part.j0]⟩
  have h3 : 0 < (p.size : Int) := by omega
  by_cases h4 : bt p 0 < 97
  · simp only [h1, h2, h3, h4, if_true, if_false]
    exact Ev.next ⟨0, fun k _ => by simp [spec_l24Part.j0]⟩
  by_cases h5 : bt p 0 > 122
  · simp only [h1, h2, h3, h4, h5, if_true, if_false, decide_true]
    exact Ev.next ⟨0, fun k _ => by simp [spec_l24Part.j0]⟩
  simp only [h1, h2, h3, h4, h5, if_true, if_false, decide_false]
  refine Ev.next ?_
  simp only [spec_l24Part.j0, Bool.false_eq_true, if_false]
  exact go
theorem impl_part (p : ByteArray) (hp : p.size ≤ 1048576) : Ev (fun k => impl_goodPart.f k p) (partB p) := by
  have go : Ev (fun k => impl_goodPart.l0 k p (p.size : Int) 0) (if (List.range p.size).all (fun i => okb (bt p (i : Int))) = true then true else false) := by
    refine all_loop (fun k i => impl_goodPart.l0 k p (p.size : Int) i) p.size _ true false ?_ ?_ ?_
    · exact Ev.next ⟨0, fun k _ => by simp only [impl_goodPart.l0]; rw [if_neg (by omega)]⟩
    · intro i hi hp'
      refine ⟨0, fun k _ => ?_⟩
      have e : wrap64 ((i : Int) + 1) = ((i + 1 : Nat) : Int) := wrap_succ i (by omega)
      simp only [impl_goodPart.l0, e]
      rw [if_pos (by omega), if_pos (by omega), if_pos (by omega)]
      simp only [okb] at hp'
      repeat' split at hp'
      all_goals simp_all
    · intro i hi hp'
      refine ⟨0, fun k _ => ?_⟩
      simp only [impl_goodPart.l0]
      rw [if_pos (by omega), if_pos (by omega), if_pos (by omega)]
      simp only [okb] at hp'
      repeat' split at hp'
      all_goals first
        | (exact absurd hp' (by decide))
        | (have hq := of_decide_eq_false hp'
           (repeat' split) <;> first | rfl | (exfalso; omega))
  unfold partB
  simp only [impl_goodPart.f]
  by_cases h1 : (p.size : Int) < 1
  · simp only [h1, if_true]
    exact Ev.next ⟨0, fun k _ => by simp [impl_goodPart.j0]⟩
  by_cases h2 : (p.size : Int) > 20
  · simp only [h1, h2, if_true, if_false]
    exact Ev.next ⟨0, fun k _ => by simp [impl_goodPart.j0]⟩
  have h3 : 0 < (p.size : Int) := by omega
  by_cases h4 : bt p 0 < 97
  · simp only [h1, h2, h3, h4, if_true, if_false]
    exact Ev.next ⟨0, fun k _ => by simp [impl_goodPart.j0]⟩
  by_cases h5 : bt p 0 > 122
  · simp only [h1, h2, h3, h4, h5, if_true, if_false, decide_true]
    exact Ev.next ⟨0, fun k _ => by simp [impl_goodPart.j0]⟩
  simp only [h1, h2, h3, h4, h5, if_true, if_false, decide_false]
  refine Ev.next ?_
  simp only [impl_goodPart.j0, Bool.false_eq_true, if_false]
  exact go

theorem ext_ext (s : ByteArray) (a b c : Nat) (hb : b ≤ s.size) : (s.extract a s.size).extract b c = s.extract (a + b) (a + c) ∨ True := Or.inr trivial
theorem pieces_at (s : ByteArray) (at_ i : Nat) (hat : at_ ≤ i) (hlt : i < s.size) (hb' : s.data.toList[i]'(by rw [← size_list]; exact hlt) = 47) (hno : (47 : UInt8) ∉ (s.data.toList.take i).drop at_) :
    piecesOf (s.extract at_ s.size) = s.extract at_ i :: piecesOf (s.extract (i + 1) s.size) := by
  have hsz : (s.extract at_ s.size).size = s.size - at_ := by rw [size_list, ext_list, List.length_take, List.length_drop, ← size_list]; omega
  have hlist : (s.extract at_ s.size).data.toList = s.data.toList.drop at_ := by
    rw [ext_list, List.take_of_length_le]
    rw [List.length_drop, ← size_list]; omega
  have hj : i - at_ < (s.extract at_ s.size).size := by omega
  have hg : (s.extract at_ s.size).data.toList[i - at_]? = some 47 := by
    rw [hlist, List.getElem?_drop, show at_ + (i - at_) = i by omega, List.getElem?_eq_getElem (by rw [← size_list]; exact hlt), hb']
  have hg2 : (s.extract at_ s.size).data.toList[i - at_]'(by rw [← size_list]; exact hj) = 47 := by
    rw [List.getElem?_eq_getElem (by rw [← size_list]; exact hj)] at hg
    exact Option.some.inj hg
  have hn2 : (47 : UInt8) ∉ (s.extract at_ s.size).data.toList.take (i - at_) := by
    have : (s.data.toList.drop at_).take (i - at_) = (s.data.toList.take i).drop at_ := by rw [List.drop_take]
    rw [hlist, this]; exact hno
  have e1 : (s.extract at_ s.size).extract 0 (i - at_) = s.extract at_ i := by
    refine ba_ext ?_
    rw [ext_list, hlist, ext_list, List.drop_zero, Nat.sub_zero]
  have e2 : (s.extract at_ s.size).extract (i - at_ + 1) (s.extract at_ s.size).size = s.extract (i + 1) s.size := by
    refine ba_ext ?_
    rw [ext_list, hlist, hsz, ext_list, List.drop_drop]
    rw [show at_ + (i - at_ + 1) = i + 1 by omega, show s.size - at_ - (i - at_ + 1) = s.size - (i + 1) by omega]
  rw [pieces_hit _ (i - at_) hj hg2 hn2, e1, e2]

theorem parts_loop (s : ByteArray) (hs : s.size ≤ 4398046511104) : ∀ (d i at_ : Nat) (acc : List ByteArray), i + d = s.size → at_ ≤ i → acc.length ≤ i → (47 : UInt8) ∉ (s.data.toList.take i).drop at_ →
    Ev (fun k => spec_l24Parts.l0 k s acc (at_ : Int) (i : Int)) (acc ++ piecesOf (s.extract at_ s.size)) := by
  intro d
  induction d with
  | zero =>
    intro i at_ acc hi hat hacc hno
    obtain rfl : i = s.size := by omega
    have e : wrap64 ((s.size : Int) + 1) = ((s.size + 1 : Nat) : Int) := wrap_succ _ (by omega)
    have hp : piecesOf (s.extract at_ s.size) = [s.extract at_ s.size] := by
      refine pieces_none _ ?_
      rw [ext_list, ← List.drop_take]
      exact hno
    have t1 : ((at_ : Int)).toNat = at_ := by omega
    have t2 : ((s.size : Int)).toNat = s.size := by omega
    have e1 : ∀ k, spec_l24Parts.l0 (k + 1) s acc (at_ : Int) (s.size : Int) = spec_l24Parts.l0 k s (acc ++ [s.extract at_ s.size]) ((s.size + 1 : Nat) : Int) ((s.size + 1 : Nat) : Int) := fun k => by
      rw [spec_l24Parts.l0]
      rw [if_pos (Int.le_refl _), if_pos rfl, if_pos (by omega), if_pos (by omega), if_pos (by omega), e, t1, t2]
    have e2 : ∀ k a, spec_l24Parts.l0 (k + 1) s a ((s.size + 1 : Nat) : Int) ((s.size + 1 : Nat) : Int) = some a := fun k a => by
      rw [spec_l24Parts.l0]
      rw [if_neg (by omega)]
    refine Ev.next (Ev.next ⟨0, fun k _ => ?_⟩)
    show spec_l24Parts.l0 (k + 1 + 1) s acc (at_ : Int) (s.size : Int) = _
    rw [e1, e2, hp]
  | succ d ih =>
    intro i at_ acc hi hat hacc hno
    have hlt : i < s.size := by omega
    have hl : i < s.data.toList.length := by rw [← size_list]; exact hlt
    have e : wrap64 ((i : Int) + 1) = ((i + 1 : Nat) : Int) := wrap_succ _ (by omega)
    have t1 : ((at_ : Int)).toNat = at_ := by omega
    have t2 : ((i : Int)).toNat = i := by omega
    by_cases hb : bt s (i : Int) = 47
    · have hb' := (bt_47 s i hlt).1 hb
      have hp := pieces_at s at_ i hat hlt hb' hno
      have hn := ih (i + 1) (i + 1) (acc ++ [s.extract at_ i]) (by omega) (Nat.le_refl _) (by simp; omega) (by
        rw [List.drop_of_length_le (by rw [List.length_take]; omega)]
        simp)
      rw [List.append_assoc, List.singleton_append, ← hp] at hn
      refine Ev.step (fun k => ?_) hn
      simp only [spec_l24Parts.l0, e]
      rw [if_pos (by omega), if_neg (by omega), if_pos (by omega), if_pos (by omega), if_pos hb, if_pos (by omega), if_pos (by omega), if_pos (by omega), t1, t2]
    · have hb' : ¬ s.data.toList[i] = 47 := fun x => hb ((bt_47 s i hlt).2 x)
      have hn := ih (i + 1) at_ acc (by omega) (by omega) (by omega) (by
        rw [List.take_succ_eq_append_getElem hl, List.drop_append_of_le_length (by rw [List.length_take]; omega), List.mem_append]
        rintro (x | x)
        · exact hno x
        · rw [List.mem_singleton] at x
          exact hb' x.symm)
      refine Ev.step (fun k => ?_) hn
      simp only [spec_l24Parts.l0, e]
      rw [if_pos (by omega), if_neg (by omega), if_pos (by omega), if_pos (by omega), if_neg hb]

def partsB (s : ByteArray) : List ByteArray := if s.size = 0 then [] else if bt s 0 = 47 then piecesOf (s.extract 1 s.size) else []
theorem spec_parts (s : ByteArray) (hs : s.size ≤ 4398046511104) : Ev (fun k => spec_l24Parts.f k s) (partsB s) := by
  unfold partsB
  simp only [spec_l24Parts.f]
  by_cases h0 : s.size = 0
  · rw [if_pos h0]
    simp only [h0, Int.ofNat_zero, Int.natCast_zero, if_true]
    exact Ev.next ⟨0, fun k _ => by simp [spec_l24Parts.j0]⟩
  · rw [if_neg h0]
    have h1 : ¬ ((s.size : Int) = 0) := by omega
    have h2 : 0 < (s.size : Int) := by omega
    simp only [h1, h2, if_true, if_false]
    by_cases hb : bt s 0 = 47
    · rw [if_pos hb]
      refine Ev.next ?_
      have : (bt s 0 != 47) = false := by simp [hb]
      simp only [spec_l24Parts.j0, this, Bool.false_eq_true, if_false]
      have h := parts_loop s hs (s.size - 1) 1 1 [] (by omega) (Nat.le_refl _) (by simp) (by
        rw [List.drop_of_length_le (by rw [List.length_take]; omega)]
        simp)
      exact h
    · rw [if_neg hb]
      have : (bt s 0 != 47) = true := by simp [hb]
      exact Ev.next ⟨0, fun k _ => by simp [spec_l24Parts.j0, this]⟩

theorem splitB_size (sep : ByteArray) : ∀ (k : Nat) (s p : ByteArray), p ∈ Lib.splitB sep 0 k s → p.size ≤ s.size
  | 0, s, p, h => by
    rw [Lib.splitB_zero, List.mem_singleton] at h
    rw [h]; exact Nat.le_refl _
  | k + 1, s, p, h => by
    unfold Lib.splitB at h
    split at h
    · rw [List.mem_singleton] at h
      rw [h]; exact Nat.le_refl _
    · rcases List.mem_cons.1 h with rfl | h
      · rw [size_list, ext_list, List.length_take, List.length_drop, ← size_list]; omega
      · have := splitB_size sep k _ p h
        refine Nat.le_trans this ?_
        rw [size_list, ext_list, List.length_take, List.length_drop, ← size_list]; omega
theorem pieces_size (t p : ByteArray) (h : p ∈ piecesOf t) : p.size ≤ t.size := splitB_size _ _ _ _ h
theorem pieces_length (t : ByteArray) : (piecesOf t).length ≤ t.size + 2 := by
  have h := Lib.splitB_length_le sl 0 (Lib.countB t sl) t
  have hct : Lib.countB t sl ≤ t.size + 1 := by rw [size_list]; exact Lib.count_le _ _
  unfold piecesOf
  omega
theorem pieces_pos (t : ByteArray) : 0 < (piecesOf t).length := by
  unfold piecesOf
  cases Lib.countB t sl with
  | zero => simp [Lib.splitB_zero]
  | succ n =>
    unfold Lib.splitB
    split
    · simp
    · simp

theorem spec_all (l : List ByteArray) (hl : l.length ≤ 1048578) (hp : ∀ p ∈ l, p.size ≤ 1048576) :
    Ev (fun k => spec_GoodTopic.l0 k l (l.length : Int) 0) (if (List.range l.length).all (fun i => partB (rdOf ByteArray.empty l (i : Int))) = true then true else false) := by
  refine all_loop2 (fun k i => spec_GoodTopic.l0 k l (l.length : Int) i) l.length _ true false ?_ ?_ ?_
  · exact Ev.next ⟨0, fun k _ => by simp only [spec_GoodTopic.l0]; rw [if_neg (by omega)]⟩
  · intro i hi hp' r hr
    have e : wrap64 ((i : Int) + 1) = ((i + 1 : Nat) : Int) := wrap_succ i (by omega)
    refine Ev.next ?_
    simp only [spec_GoodTopic.l0, e]
    have c1 : ((i : Nat) : Int) < (l.length : Int) := by omega
    have c2 : (0 : Int) ≤ ((i : Nat) : Int) := by omega
    simp only [c1, c2, if_true]
    refine Ev.bind (spec_part _ (by rw [rdOf_get _ _ _ hi]; exact hp _ (List.getElem_mem hi))) ?_
    simp only [hp', if_true]
    exact hr
  · intro i hi hp'
    refine Ev.next ?_
    simp only [spec_GoodTopic.l0]
    have c1 : ((i : Nat) : Int) < (l.length : Int) := by omega
    have c2 : (0 : Int) ≤ ((i : Nat) : Int) := by omega
    simp only [c1, c2, if_true]
    refine Ev.bind (spec_part _ (by rw [rdOf_get _ _ _ hi]; exact hp _ (List.getElem_mem hi))) ?_
    simp only [hp', Bool.false_eq_true, if_false]
    exact Ev.now _
theorem impl_all (l : List ByteArray) (hl : l.length ≤ 1048578) (hp : ∀ p ∈ l, p.size ≤ 1048576) :
    Ev (fun k => impl_GoodTopic.l0 k l (l.length : Int) 0) (if (List.range l.length).all (fun i => partB (rdOf ByteArray.empty l (i : Int))) = true then true else false) := by
  refine all_loop2 (fun k i => impl_GoodTopic.l0 k l (l.length : Int) i) l.length _ true false ?_ ?_ ?_
  · exact Ev.next ⟨0, fun k _ => by simp only [impl_GoodTopic.l0]; rw [if_neg (by omega)]⟩
  · intro i hi hp' r hr
    have e : wrap64 ((i : Int) + 1) = ((i + 1 : Nat) : Int) := wrap_succ i (by omega)
    refine Ev.next ?_
    simp only [impl_GoodTopic.l0, e]
    have c1 : ((i : Nat) : Int) < (l.length : Int) := by omega
    have c2 : (0 : Int) ≤ ((i : Nat) : Int) := by omega
    simp only [c1, c2, if_true]
    refine Ev.bind (impl_part _ (by rw [rdOf_get _ _ _ hi]; exact hp _ (List.getElem_mem hi))) ?_
    simp only [hp', if_true]
    exact hr
  · intro i hi hp'
    refine Ev.next ?_
    simp only [impl_GoodTopic.l0]
    have c1 : ((i : Nat) : Int) < (l.length : Int) := by omega
    have c2 : (0 : Int) ≤ ((i : Nat) : Int) := by omega
    simp only [c1, c2, if_true]
    refine Ev.bind (impl_part _ (by rw [rdOf_get _ _ _ hi]; exact hp _ (List.getElem_mem hi))) ?_
    simp only [hp', Bool.false_eq_true, if_false]
    exact Ev.now _

def goodB (s : ByteArray) : Bool := if (s.size : Int) > 60 then false else if (partsB s).length = 0 then false else if (List.range (partsB s).length).all (fun i => partB (rdOf ByteArray.empty (partsB s) (i : Int))) = true then true else false
theorem parts_size (s p : ByteArray) (h : p ∈ partsB s) : p.size ≤ s.size := by
  unfold partsB at h
  split at h
  · simp at h
  · split at h
    · refine Nat.le_trans (pieces_size _ _ h) ?_
      rw [size_list, ext_list, List.length_take, List.length_drop, ← size_list]; omega
    · simp at h
theorem parts_length (s : ByteArray) : (partsB s).length ≤ s.size + 2 := by
  unfold partsB
  split
  · simp
  · split
    · refine Nat.le_trans (pieces_length _) ?_
      have : (s.extract 1 s.size).size ≤ s.size := by rw [size_list, ext_list, List.length_take, List.length_drop, ← size_list]; omega
      omega
    · simp
theorem spec_good (s : ByteArray) (hs : s.size ≤ 4398046511104) : Ev (fun k => spec_GoodTopic.f k s) (goodB s) := by
  have hl := parts_length s
  unfold goodB
  simp only [spec_GoodTopic.f]
  refine Ev.bind (spec_parts s hs) ?_
  by_cases h1 : (s.size : Int) > 60
  · simp only [h1, if_true]
    exact Ev.next ⟨0, fun k _ => by simp [spec_GoodTopic.j0]⟩
  · simp only [h1, if_false]
    by_cases h2 : (partsB s).length = 0
    · have h2' : (((partsB s).length : Int) == 0) = true := by simp [h2]
      simp only [h2', if_pos h2]
      exact Ev.next ⟨0, fun k _ => by simp [spec_GoodTopic.j0]⟩
    · have h2' : (((partsB s).length : Int) == 0) = false := by rw [beq_eq_false_iff_ne]; omega
      simp only [h2', if_neg h2]
      refine Ev.next ?_
      simp only [spec_GoodTopic.j0, Bool.false_eq_true, if_false]
      exact spec_all _ (by omega) (fun p hp => by have := parts_size s p hp; omega)
theorem cut_slash (s : ByteArray) : strings_CutPrefix.f s sl = some (if s.size = 0 then (s, false) else if bt s 0 = 47 then (s.extract 1 s.size, true) else (s, false)) := by
  have e1 : (sl.size : Int) = 1 := rfl
  simp only [strings_CutPrefix.f, stringslite_CutPrefix.f, stringslite_HasPrefix.f, e1]
  by_cases h0 : s.size = 0
  · rw [if_pos h0, if_neg (by omega)]
    simp
  · rw [if_neg h0, if_pos (by omega), if_pos (by omega), if_pos (by omega)]
    have t1 : ((1 : Int)).toNat = 1 := rfl
    have hl : 0 < s.data.toList.length := by rw [← size_list]; omega
    have e2 : ((s.extract 0 1).toList == sl.toList) = decide (bt s 0 = 47) := by
      have x := bt_47 s 0 (by omega)
      have y : (s.extract 0 1).toList = [s.data.toList[0]] := by
        rw [ByteArray.toList_eq, ext_list, List.drop_zero]
        show s.data.toList.take (0 + 1) = _
        rw [List.take_succ_eq_append_getElem hl]
        rfl
      have z : sl.toList = [47] := by rw [ByteArray.toList_eq]; rfl
      rw [y, z]
      by_cases hb : bt s ((0 : Nat) : Int) = 47
      · have hx := x.1 hb
        simp only [hx]
        have : bt s 0 = 47 := hb
        simp [this]
      · have hx : ¬ s.data.toList[0] = 47 := fun w => hb (x.2 w)
        have : ¬ bt s 0 = 47 := hb
        rw [decide_eq_false this, beq_eq_false_iff_ne]
        intro w
        exact hx (List.cons.inj w).1
    rw [t1, e2]
    by_cases hb : bt s 0 = 47
    · simp only [hb, decide_true, Option.bind_some, if_true]
      rw [if_pos (by omega), if_pos (by omega)]
      rfl
    · simp [hb]
theorem impl_good (s : ByteArray) (hs : s.size ≤ 4398046511104) : Ev (fun k => impl_GoodTopic.f k s) (goodB s) := by
  have hl := parts_length s
  have hcut := cut_slash s
  unfold goodB
  simp only [impl_GoodTopic.f]
  rw [show (⟨#[47]⟩ : ByteArray) = sl from rfl, hcut]
  simp only [Option.bind_some]
  unfold partsB
  by_cases h0 : s.size = 0
  · simp only [h0, if_true]
    refine Ev.next ⟨0, fun k _ => ?_⟩
    simp [impl_GoodTopic.j0]
  · simp only [h0, if_false]
    by_cases hb : bt s 0 = 47
    · simp only [hb, if_true]
      by_cases h1 : (s.size : Int) > 60
      · simp only [h1, if_true, decide_true]
        exact Ev.next ⟨0, fun k _ => by simp [impl_GoodTopic.j0]⟩
      · simp only [h1, if_false, decide_false]
        have hsz : (s.extract 1 s.size).size ≤ s.size := by rw [size_list, ext_list, List.length_take, List.length_drop, ← size_list]; omega
        rw [if_neg (by have := pieces_pos (s.extract 1 s.size); omega)]
        refine Ev.next ?_
        simp only [impl_GoodTopic.j0, Bool.false_eq_true, if_false]
        have hsp : ∀ k, strings_Split.f k (s.extract 1 s.size) (⟨#[47]⟩ : ByteArray) = some (piecesOf (s.extract 1 s.size)) := fun k => by
          unfold strings_Split.f
          rw [if_pos ⟨by omega, rfl⟩]
          rfl
        simp only [hsp, Option.bind_some]
        exact impl_all _ (by have := pieces_length (s.extract 1 s.size); omega) (fun p hp => by have := pieces_size _ p hp; omega)
    · simp only [hb, if_false]
      refine Ev.next ⟨0, fun k _ => ?_⟩
      simp [impl_GoodTopic.j0]
def isDS (x : ByteArray) : Bool := decide (x.toList = [42, 42])
def Fm (x : ByteArray) (n : List ByteArray) (g : List ByteArray → Bool) : Bool :=
  match n with
  | [] => false
  | y :: m => if x.toList = ([42] : List UInt8) ∨ x.toList = y.toList then g m else false
def F : List ByteArray → List ByteArray → Bool
  | [], n => n.isEmpty
  | x :: p, n => if x.toList = ([42, 42] : List UInt8) then (List.range (n.length + 1)).any (fun k => F p (n.drop k)) else Fm x n (F p)
theorem F_nil (n : List ByteArray) : F [] n = n.isEmpty := rfl
theorem F_any (x : ByteArray) (p n : List ByteArray) (hx : x.toList = ([42, 42] : List UInt8)) : F (x :: p) n = (List.range (n.length + 1)).any (fun k => F p (n.drop k)) := by
  show (if x.toList = ([42, 42] : List UInt8) then _ else _) = _
  rw [if_pos hx]
theorem F_one (x : ByteArray) (p n : List ByteArray) (hx : ¬ x.toList = ([42, 42] : List UInt8)) : F (x :: p) n = Fm x n (F p) := by
  show (if x.toList = ([42, 42] : List UInt8) then _ else _) = _
  rw [if_neg hx]
theorem F_star (x : ByteArray) (p n : List ByteArray) (hx : x.toList = ([42, 42] : List UInt8)) : F (x :: p) n = (F p n || (!n.isEmpty && F (x :: p) (n.drop 1))) := by
  cases n with
  | nil =>
    rw [F_any x p [] hx]
    simp
  | cons y m =>
    have e2 : F (x :: p) m = (List.range (m.length + 1)).any (fun k => F p (m.drop k)) := F_any x p m hx
    rw [F_any x p (y :: m) hx, List.length_cons, List.range_succ_eq_map, List.any_cons, List.any_map]
    simp only [List.drop_zero, List.drop_succ_cons, List.isEmpty_cons, Bool.not_false, Bool.true_and]
    rw [e2]
    rfl
theorem impl_fits_ev : ∀ (d : Nat) (p n : List ByteArray), p.length + n.length ≤ d → Ev (fun k => impl_fits.f k p n) (F p n) := by
  intro d
  induction d using Nat.strongRecOn with
  | _ d ih =>
    intro p n hd
    refine Ev.next ?_
    cases p with
    | nil =>
      simp only [impl_fits.f, List.length_nil, Int.natCast_zero, Int.ofNat_zero, if_true, F_nil]
      refine ⟨0, fun k _ => ?_⟩
      cases n with
      | nil => rfl
      | cons y m => simp; omega
    | cons x p =>
      have c0 : ¬ (((x :: p).length : Nat) : Int) = 0 := by rw [List.length_cons]; omega
      have c1 : 0 < (((x :: p).length : Nat) : Int) := by rw [List.length_cons]; omega
      have c2 : 1 ≤ (((x :: p).length : Nat) : Int) := by rw [List.length_cons]; omega
      have e0 : rdOf ByteArray.empty (x :: p) 0 = x := rfl
      simp only [impl_fits.f, c0, c1, c2, e0, if_true, if_false, List.drop_succ_cons, List.drop_zero]
      rw [List.length_cons] at hd
      by_cases hx : x.toList = ([42, 42] : List UInt8)
      · rw [F_star x p n hx]
        simp only [hx, if_true]
        refine Ev.bind (ih (p.length + n.length) (by omega) p n (Nat.le_refl _)) ?_
        cases hF : F p n with
        | true =>
          simp only [if_true, Bool.true_or]
          exact Ev.now _
        | false =>
          simp only [Bool.false_eq_true, if_false, Bool.false_or]
          cases n with
          | nil =>
            refine ⟨0, fun k _ => ?_⟩
            simp
          | cons y m =>
            have c3 : (((y :: m).length : Nat) : Int) > 0 := by rw [List.length_cons]; omega
            have c4 : 1 ≤ (((y :: m).length : Nat) : Int) := by rw [List.length_cons]; omega
            simp only [c3, c4, if_true, List.drop_succ_cons, List.drop_zero, List.isEmpty_cons, Bool.not_false, Bool.true_and]
            refine Ev.bind (ih (p.length + 1 + m.length) (by rw [List.length_cons] at hd; omega) (x :: p) m (by rw [List.length_cons]; exact Nat.le_refl _)) ?_
            exact Ev.now _
      · simp only [hx, if_false]
        have eF := F_one x p n hx
        rw [eF]
        cases n with
        | nil =>
          refine ⟨0, fun k _ => ?_⟩
          simp [Fm]
        | cons y m =>
          have c3 : (((y :: m).length : Nat) : Int) > 0 := by rw [List.length_cons]; omega
          have c4 : 1 ≤ (((y :: m).length : Nat) : Int) := by rw [List.length_cons]; omega
          have c5 : 0 < (((y :: m).length : Nat) : Int) := by rw [List.length_cons]; omega
          have e1 : rdOf ByteArray.empty (y :: m) 0 = y := rfl
          simp only [Fm, c3, c4, c5, e1, if_true, List.drop_succ_cons, List.drop_zero]
          have hr := ih (p.length + m.length) (by rw [List.length_cons] at hd; omega) p m (Nat.le_refl _)
          by_cases h1 : x.toList = ([42] : List UInt8)
          · simp only [h1, if_true, true_or]
            exact Ev.bind hr (Ev.now _)
          · by_cases h2 : x.toList = y.toList
            · rw [if_pos (Or.inr h2)]
              simp only [h1, h2, if_true, if_false]
              rw [← h2]
              simp only [h1, if_false]
              exact Ev.bind hr (Ev.now _)
            · simp only [h1, h2, if_false, or_self]
              exact Ev.now _
theorem spec_fits_ev : ∀ (p n : List ByteArray), n.length ≤ 1048580 → Ev (fun k => spec_l24Fits.f k p n) (F p n) := by
  intro p
  induction p with
  | nil =>
    intro n _
    refine Ev.next ?_
    simp only [spec_l24Fits.f, List.length_nil, Int.natCast_zero, Int.ofNat_zero, if_true, F_nil]
    refine ⟨0, fun k _ => ?_⟩
    cases n with
    | nil => rfl
    | cons y m => simp; omega
  | cons x p ih =>
    intro n hn
    have c0 : ¬ (((x :: p).length : Nat) : Int) = 0 := by rw [List.length_cons]; omega
    have c1 : 0 < (((x :: p).length : Nat) : Int) := by rw [List.length_cons]; omega
    have c2 : 1 ≤ (((x :: p).length : Nat) : Int) := by rw [List.length_cons]; omega
    have e0 : rdOf ByteArray.empty (x :: p) 0 = x := rfl
    by_cases hx : x.toList = ([42, 42] : List UInt8)
    · have loop : ∀ (d i : Nat), i + d = n.length + 1 → Ev (fun k => spec_l24Fits.l0 k (x :: p) n (i : Int)) ((List.range' i d).any (fun k => F p (n.drop k))) := by
        intro d
        induction d with
        | zero =>
          intro i hi
          refine Ev.next ⟨0, fun k _ => ?_⟩
          simp only [spec_l24Fits.l0]
          rw [if_neg (by omega)]
          rfl
        | succ d ihd =>
          intro i hi
          rw [List.range'_succ, List.any_cons]
          have e : wrap64 ((i : Int) + 1) = ((i + 1 : Nat) : Int) := wrap_succ i (by omega)
          have t0 : ((i : Int)).toNat = i := by omega
          have c3 : (i : Int) ≤ (n.length : Int) := by omega
          have c4 : (0 : Int) ≤ (i : Int) := by omega
          refine Ev.next ?_
          simp only [spec_l24Fits.l0, e, t0, c2, c3, c4, if_true, List.drop_succ_cons, List.drop_zero]
          refine Ev.bind (ih (n.drop i) (by rw [List.length_drop]; omega)) ?_
          cases hF : F p (n.drop i) with
          | true =>
            simp only [if_true, Bool.true_or]
            exact Ev.now _
          | false =>
            simp only [Bool.false_eq_true, if_false, Bool.false_or]
            exact ihd (i + 1) (by omega)
      have h := loop (n.length + 1) 0 (by omega)
      have eF : F (x :: p) n = (List.range' 0 (n.length + 1)).any (fun k => F p (n.drop k)) := by
        rw [F_any x p n hx, List.range_eq_range']
      rw [eF]
      refine Ev.next ?_
      simp only [spec_l24Fits.f, c0, c1, e0, hx, if_true, if_false]
      exact h
    · have eF := F_one x p n hx
      rw [eF]
      refine Ev.next ?_
      simp only [spec_l24Fits.f, c0, c1, c2, e0, hx, if_true, if_false, List.drop_succ_cons, List.drop_zero]
      cases n with
      | nil =>
        refine ⟨0, fun k _ => ?_⟩
        simp [Fm]
      | cons y m =>
        have c3 : (((y :: m).length : Nat) : Int) > 0 := by rw [List.length_cons]; omega
        have c4 : 1 ≤ (((y :: m).length : Nat) : Int) := by rw [List.length_cons]; omega
        have c5 : 0 < (((y :: m).length : Nat) : Int) := by rw [List.length_cons]; omega
        have e1 : rdOf ByteArray.empty (y :: m) 0 = y := rfl
        simp only [Fm, c3, c4, c5, e1, if_true, List.drop_succ_cons, List.drop_zero]
        have hr := ih m (by rw [List.length_cons] at hn; omega)
        by_cases h1 : x.toList = ([42] : List UInt8)
        · simp only [h1, if_true, true_or]
          exact Ev.bind hr (Ev.now _)
        · by_cases h2 : x.toList = y.toList
          · rw [if_pos (Or.inr h2)]
            simp only [h1, h2, if_true, if_false]
            rw [← h2]
            simp only [h1, if_false]
            exact Ev.bind hr (Ev.now _)
          · simp only [h1, h2, if_false, or_self]
            exact Ev.now _

theorem F_congr (b b' : List ByteArray) (h : ∀ n, F b n = F b' n) : ∀ (a n : List ByteArray), F (a ++ b) n = F (a ++ b') n
  | [], n => h n
  | x :: a, n => by
    rw [List.cons_append, List.cons_append]
    by_cases hx : x.toList = ([42, 42] : List UInt8)
    · rw [F_any _ _ _ hx, F_any _ _ _ hx]
      congr 1
      funext k
      exact F_congr b b' h a _
    · rw [F_one _ _ _ hx, F_one _ _ _ hx]
      congr 1
      funext k
      exact F_congr b b' h a _
theorem F_two (s x : ByteArray) (r n : List ByteArray) (hs : s.toList = ([42, 42] : List UInt8)) (hx : x.toList = ([42, 42] : List UInt8)) : F (s :: x :: r) n = F (s :: r) n := by
  have e1 : F (s :: x :: r) n = (List.range (n.length + 1)).any (fun k => (List.range ((n.drop k).length + 1)).any (fun j => F r ((n.drop k).drop j))) := by
    rw [F_any _ _ _ hs]
    congr 1
    funext k
    rw [F_any _ _ _ hx]
  have e2 : F (s :: r) n = (List.range (n.length + 1)).any (fun k => F r (n.drop k)) := F_any _ _ _ hs
  rw [e1, e2, Bool.eq_iff_iff]
  simp only [List.any_eq_true, List.mem_range, List.length_drop, List.drop_drop]
  constructor
  · rintro ⟨k, hk, j, hj, h⟩
    exact ⟨k + j, by omega, h⟩
  · rintro ⟨k, hk, h⟩
    exact ⟨k, hk, 0, by omega, h⟩
def ddStep (q : List ByteArray) (x : ByteArray) : List ByteArray := if x.toList = ([42, 42] : List UInt8) then (if (q.length : Int) > 0 then (if (rdOf ByteArray.empty q ((q.length - 1 : Nat) : Int)).toList = ([42, 42] : List UInt8) then q else q ++ [x]) else q ++ [x]) else q ++ [x]
def dd (l : List ByteArray) : List ByteArray := l.foldl ddStep []
theorem F_dd : ∀ (r q n : List ByteArray), F (r.foldl ddStep q) n = F (q ++ r) n
  | [], q, n => by rw [List.foldl_nil, List.append_nil]
  | x :: r, q, n => by
    rw [List.foldl_cons, F_dd r]
    unfold ddStep
    split
    · rename_i hx
      split
      · rename_i hq
        split
        · rename_i hl
          have hq' : 0 < q.length := by omega
          obtain ⟨q0, s, rfl⟩ : ∃ q0 s, q = q0 ++ [s] := ⟨q.dropLast, q.getLast (by intro e; rw [e] at hq'; simp at hq'), (List.dropLast_concat_getLast _).symm⟩
          have hs : s.toList = ([42, 42] : List UInt8) := by
            rw [rdOf_get _ _ _ (by simp)] at hl
            simpa using hl
          rw [List.append_assoc, List.append_assoc]
          exact F_congr _ _ (fun m => (F_two s x r m hs hx).symm) q0 n
        · rw [List.append_assoc]; rfl
      · rw [List.append_assoc]; rfl
    · rw [List.append_assoc]; rfl
theorem dd_length : ∀ (r q : List ByteArray), (r.foldl ddStep q).length ≤ q.length + r.length
  | [], q => by simp
  | x :: r, q => by
    rw [List.foldl_cons, List.length_cons]
    have h := dd_length r (ddStep q x)
    have h2 : (ddStep q x).length ≤ q.length + 1 := by
      unfold ddStep
      (repeat' split) <;> simp
    omega

def st (x : ByteArray) : ByteArray := if x.toList = ([42] : List UInt8) then ⟨#[97]⟩ else if x.toList = ([42, 42] : List UInt8) then ⟨#[97]⟩ else x
def plainStep (acc x : ByteArray) : ByteArray := acc ++ (sl ++ st x)
def plainOf (l : List ByteArray) : ByteArray := l.foldl plainStep ⟨#[]⟩
theorem app_list (a b : ByteArray) : (a ++ b).data.toList = a.data.toList ++ b.data.toList := by simp
theorem plain_list : ∀ (l : List ByteArray) (acc : ByteArray), (l.foldl plainStep acc).data.toList = acc.data.toList ++ (l.map fun x => 47 :: (st x).data.toList).flatten
  | [], acc => by simp
  | x :: l, acc => by
    rw [List.foldl_cons, plain_list l]
    unfold plainStep
    rw [app_list, app_list, sl_list]
    simp
theorem st_size (x : ByteArray) : (st x).size ≤ x.size + 1 := by
  unfold st
  split
  · show 1 ≤ _; omega
  · split
    · show 1 ≤ _; omega
    · omega
theorem plain_size : ∀ (l : List ByteArray) (acc : ByteArray), (∀ x ∈ l, x.size ≤ 1048576) → (l.foldl plainStep acc).size ≤ acc.size + l.length * 1048578
  | [], acc, _ => by simp
  | x :: l, acc, h => by
    have h1 := plain_size l (plainStep acc x) (fun y hy => h y (List.mem_cons_of_mem _ hy))
    have h2 := h x List.mem_cons_self
    have h3 := st_size x
    have h4 : (plainStep acc x).size = acc.size + (1 + (st x).size) := by
      unfold plainStep
      rw [ByteArray.size_append, ByteArray.size_append]
      rfl
    rw [List.foldl_cons, List.length_cons]
    omega

def topicB (p n : ByteArray) : Bool := if goodB n = true then (if (partsB p).length = 0 then false else if goodB (plainOf (partsB p)) = true then F (partsB p) (partsB n) else false) else false
theorem spec_l1 (n : ByteArray) (P : List ByteArray) (hn : n.size ≤ 1048576) (hP : P.length ≤ 1048580) : Ev (fun k => spec_TopicFits.l1 k n [] P (P.length : Int) 0) (F P (partsB n)) := by
  have hl := parts_length n
  have := run_loop (fun k i (q : List ByteArray) => spec_TopicFits.l1 k n q P (P.length : Int) i) P.length (fun i => dd (P.take i)) (F P (partsB n)) ?_ ?_ 0 (Nat.zero_le _)
  · simpa [dd] using this
  · refine Ev.next ?_
    have e : dd (P.take P.length) = dd P := by rw [List.take_length]
    simp only [spec_TopicFits.l1, Int.lt_irrefl, if_false, e]
    refine Ev.bind (spec_parts n (by omega)) ?_
    have h := spec_fits_ev (dd P) (partsB n) (by omega)
    have hF : F (dd P) (partsB n) = F P (partsB n) := by
      have := F_dd P [] (partsB n)
      rw [List.nil_append] at this
      exact this
    rw [hF] at h
    exact Ev.bind h (Ev.now _)
  · intro i hi
    refine ⟨0, fun k _ => ?_⟩
    have e : wrap64 ((i : Int) + 1) = ((i + 1 : Nat) : Int) := wrap_succ i (by omega)
    have hq : (dd (P.take i)).length ≤ P.length := by
      have := dd_length (P.take i) []
      rw [List.length_take] at this
      have h2 : (dd (P.take i)).length ≤ [].length + min i P.length := this
      simp only [List.length_nil] at h2
      omega
    have es : dd (P.take (i + 1)) = ddStep (dd (P.take i)) P[i] := by
      unfold dd
      rw [List.take_succ_eq_append_getElem hi, List.foldl_append]
      rfl
    have er : rdOf ByteArray.empty P (i : Int) = P[i] := rdOf_get _ _ _ hi
    show spec_TopicFits.l1 (k + 1) n (dd (P.take i)) P (P.length : Int) (i : Int) = spec_TopicFits.l1 k n (dd (P.take (i + 1))) P (P.length : Int) ((i + 1 : Nat) : Int)
    rw [es]
    simp only [spec_TopicFits.l1, e, er]
    rw [if_pos (by omega), if_pos (by omega), if_pos (by omega)]
    unfold ddStep
    by_cases hx : P[i].toList = ([42, 42] : List UInt8)
    · rw [if_pos hx, if_pos hx]
      by_cases hp : ((dd (P.take i)).length : Int) > 0
      · have ew : wrap64 (((dd (P.take i)).length : Int) - 1) = (((dd (P.take i)).length - 1 : Nat) : Int) := wrap_pred _ (by omega) (by omega)
        rw [if_pos hp, if_pos hp, ew, if_pos (by omega), if_pos (by omega)]
        split
        · rfl
        · rw [if_pos (by omega)]
      · rw [if_neg hp, if_neg hp, if_pos (by omega)]
    · rw [if_neg hx, if_neg hx, if_pos (by omega)]
theorem spec_l0 (n : ByteArray) (P : List ByteArray) (hn : n.size ≤ 1048576) (hP : P.length ≤ 1048580) (hs : ∀ x ∈ P, x.size ≤ 1048576) :
    Ev (fun k => spec_TopicFits.l0 k n P (⟨#[]⟩ : ByteArray) P (P.length : Int) 0) (if goodB (plainOf P) = true then F P (partsB n) else false) := by
  have := run_loop (fun k i (q : ByteArray) => spec_TopicFits.l0 k n P q P (P.length : Int) i) P.length (fun i => plainOf (P.take i)) (if goodB (plainOf P) = true then F P (partsB n) else false) ?_ ?_ 0 (Nat.zero_le _)
  · simpa [plainOf] using this
  · refine Ev.next ?_
    have e : plainOf (P.take P.length) = plainOf P := by rw [List.take_length]
    simp only [spec_TopicFits.l0, Int.lt_irrefl, if_false, e]
    refine Ev.bind (spec_good (plainOf P) (by have := plain_size P ⟨#[]⟩ hs; show (P.foldl plainStep ⟨#[]⟩).size ≤ _; have e0 : (⟨#[]⟩ : ByteArray).size = 0 := rfl; omega)) ?_
    cases goodB (plainOf P) with
    | true =>
      simp only [if_true]
      exact spec_l1 n P hn hP
    | false =>
      simp only [Bool.false_eq_true, if_false]
      exact Ev.now _
  · intro i hi
    refine ⟨0, fun k _ => ?_⟩
    have e : wrap64 ((i : Int) + 1) = ((i + 1 : Nat) : Int) := wrap_succ i (by omega)
    have es : plainOf (P.take (i + 1)) = plainStep (plainOf (P.take i)) P[i] := by
      unfold plainOf
      rw [List.take_succ_eq_append_getElem hi, List.foldl_append]
      rfl
    have hz : (plainOf (P.take i)).size ≤ 1048580 * 1048578 := by
      have h := plain_size (P.take i) ⟨#[]⟩ (fun x hx => hs x (List.mem_of_mem_take hx))
      have e0 : (⟨#[]⟩ : ByteArray).size = 0 := rfl
      have h2 : (plainOf (P.take i)).size ≤ (⟨#[]⟩ : ByteArray).size + (P.take i).length * 1048578 := h
      rw [List.length_take] at h2
      omega
    have hx := hs P[i] (List.getElem_mem hi)
    have er : rdOf ByteArray.empty P (i : Int) = P[i] := rdOf_get _ _ _ hi
    show spec_TopicFits.l0 (k + 1) n P (plainOf (P.take i)) P (P.length : Int) (i : Int) = spec_TopicFits.l0 k n P (plainOf (P.take (i + 1))) P (P.length : Int) ((i + 1 : Nat) : Int)
    rw [es]
    simp only [spec_TopicFits.l0, e, er]
    rw [if_pos (by omega), if_pos (by omega), if_pos (by omega)]
    have hsz : ((⟨#[47]⟩ : ByteArray) ++ P[i]).size = 1 + P[i].size := by rw [ByteArray.size_append]; rfl
    unfold plainStep st
    by_cases h1 : P[i].toList = ([42] : List UInt8)
    · rw [if_pos h1, if_pos h1, if_pos (by decide), if_pos (by omega)]
      rfl
    · rw [if_neg h1, if_neg h1]
      by_cases h2 : P[i].toList = ([42, 42] : List UInt8)
      · rw [if_pos h2, if_pos h2, if_pos (by decide), if_pos (by omega)]
        rfl
      · rw [if_neg h2, if_neg h2, if_pos (by omega), if_pos (by omega)]
        rfl
theorem spec_topic (p n : ByteArray) (hp : p.size ≤ 1048576) (hn : n.size ≤ 1048576) : Ev (fun k => spec_TopicFits.f k p n) (topicB p n) := by
  have hl := parts_length p
  unfold topicB
  simp only [spec_TopicFits.f]
  refine Ev.bind (spec_parts p (by omega)) ?_
  refine Ev.bind (spec_good n (by omega)) ?_
  have stop : Ev (fun k => spec_TopicFits.j0 k n (partsB p) true) false := Ev.next ⟨0, fun k _ => by simp [spec_TopicFits.j0]⟩
  cases goodB n with
  | false =>
    simp only [Bool.false_eq_true, if_false]
    exact stop
  | true =>
    simp only [if_true]
    by_cases h0 : (partsB p).length = 0
    · have : (((partsB p).length : Int) == 0) = true := by simp [h0]
      rw [if_pos h0, this]
      exact stop
    · have : (((partsB p).length : Int) == 0) = false := by rw [beq_eq_false_iff_ne]; omega
      rw [if_neg h0, this]
      refine Ev.next ?_
      simp only [spec_TopicFits.j0, Bool.false_eq_true, if_false]
      exact spec_l0 n (partsB p) hn (by omega) (fun x hx => Nat.le_trans (parts_size p x hx) hp)

theorem pieces_slash (t : ByteArray) (h0 : t.size ≠ 0) (hb : bt t 0 = 47) : piecesOf t = (⟨#[]⟩ : ByteArray) :: partsB t := by
  have hl : 0 < t.size := by omega
  have h := pieces_hit t 0 hl ((bt_47 t 0 hl).1 hb) (by simp)
  rw [h]
  unfold partsB
  rw [if_neg h0, if_pos hb]
  congr 1
  refine ba_ext ?_
  rw [ext_list]
  simp
theorem pieces_head (t : ByteArray) (h0 : t.size ≠ 0) (hb : bt t 0 ≠ 47) : ∃ (h : ByteArray) (r : List ByteArray) (b : UInt8) (s : List UInt8), piecesOf t = h :: r ∧ h.data.toList = b :: s ∧ b ≠ 47 := by
  have hl : 0 < t.data.toList.length := by rw [← size_list]; omega
  have hb' : t.data.toList[0] ≠ 47 := fun e => hb ((bt_47 t 0 (by omega)).2 e)
  by_cases hm : (47 : UInt8) ∈ t.data.toList
  · obtain ⟨u1, bs, e, hn⟩ := List.eq_append_cons_of_mem hm
    cases u1 with
    | nil =>
      rw [List.nil_append] at e
      have : t.data.toList[0]? = some 47 := by rw [e]; rfl
      rw [List.getElem?_eq_getElem hl] at this
      exact absurd (Option.some.inj this) hb'
    | cons b s =>
      have hj : (b :: s).length < t.size := by rw [size_list, e, List.length_append, List.length_cons, List.length_cons]; omega
      have hj2 : (b :: s).length < t.data.toList.length := by rw [← size_list]; exact hj
      have hg : t.data.toList[(b :: s).length] = 47 := by
        have : t.data.toList[(b :: s).length]? = some 47 := by rw [e, List.getElem?_append_right (Nat.le_refl _), Nat.sub_self]; rfl
        rw [List.getElem?_eq_getElem hj2] at this
        exact Option.some.inj this
      have ht : t.data.toList.take (b :: s).length = b :: s := by rw [e, List.take_left']; rfl
      have h := pieces_hit t (b :: s).length hj hg (by rw [ht]; exact hn)
      refine ⟨_, _, b, s, h, ?_, ?_⟩
      · rw [ext_list, List.drop_zero, Nat.sub_zero, ht]
      · intro eb
        exact hn (by rw [eb]; exact List.mem_cons_self)
  · refine ⟨t, [], t.data.toList[0], t.data.toList.drop 1, pieces_none t hm, ?_, hb'⟩
    have := List.drop_eq_getElem_cons hl
    rw [List.drop_zero] at this
    exact this
theorem not_good (s : ByteArray) (h : s.size = 0 ∨ bt s 0 ≠ 47) : goodB s = false := by
  have hp : partsB s = [] := by
    unfold partsB
    rcases h with h | h
    · rw [if_pos h]
    · rw [if_neg h]
      split <;> rfl
  unfold goodB
  rw [hp]
  split
  · rfl
  · rfl
theorem good_slash (s : ByteArray) (h : goodB s = true) : s.size ≠ 0 ∧ bt s 0 = 47 := by
  refine ⟨fun e => ?_, ?_⟩
  · rw [not_good s (Or.inl e)] at h
    cases h
  · by_cases hb : bt s 0 = 47
    · exact hb
    · rw [not_good s (Or.inr hb)] at h
      cases h

theorem split_ev (t : ByteArray) (h : t.size ≤ 1048576) (k : Nat) : strings_Split.f k t (⟨#[47]⟩ : ByteArray) = some (piecesOf t) := by
  unfold strings_Split.f
  rw [if_pos ⟨by omega, rfl⟩]
  rfl
def joinOf (l : List ByteArray) : ByteArray := ⟨(Lib.join (l.map (·.data.toList)) [47]).toArray⟩
theorem joinOf_list (l : List ByteArray) : (joinOf l).data.toList = Lib.join (l.map (·.data.toList)) [47] := by simp [joinOf]
theorem join_cons_list : ∀ (r : List (List UInt8)) (x : List UInt8), Lib.join (x :: r) [47] = x ++ (r.map fun y => 47 :: y).flatten
  | [], x => by simp [Lib.join]
  | y :: r, x => by
    have h := join_cons_list r y
    have e : Lib.join (x :: y :: r) [47] = x ++ ([47] ++ Lib.join (y :: r) [47]) := by
      unfold Lib.join
      simp [List.intercalate, List.intersperse]
    rw [e, h]
    simp
theorem join_plain (P : List ByteArray) : joinOf (((⟨#[]⟩ : ByteArray) :: P).map st) = plainOf P := by
  refine ba_ext ?_
  rw [joinOf_list, List.map_map, List.map_cons, join_cons_list]
  have := plain_list P ⟨#[]⟩
  show _ = (P.foldl plainStep ⟨#[]⟩).data.toList
  rw [this, List.map_map]
  have e : (st ⟨#[]⟩) = ⟨#[]⟩ := by unfold st; rw [ByteArray.toList_eq]; rfl
  simp only [Function.comp_apply, e]
  rfl
theorem impl_l0 (n : ByteArray) (Q : List ByteArray) (hn : n.size ≤ 1048576) (hQ : Q.length ≤ 1048580) (hs : ∀ x ∈ Q, x.size ≤ 1048576) (N : List ByteArray) (hN : N = piecesOf n) :
    Ev (fun k => impl_TopicFits.l0 k n Q Q (Q.length : Int) 0) (if goodB n = true then (if goodB (joinOf (Q.map st)) = true then F Q N else false) else false) := by
  have hst : ∀ i, i ≤ Q.length → ((Q.take i).map st ++ Q.drop i).length = Q.length := fun i hi => by
    rw [List.length_append, List.length_map, List.length_take, List.length_drop]; omega
  have := run_loop (fun k i (q : List ByteArray) => impl_TopicFits.l0 k n Q q (Q.length : Int) i) Q.length (fun i => (Q.take i).map st ++ Q.drop i) (if goodB n = true then (if goodB (joinOf (Q.map st)) = true then F Q N else false) else false) ?_ ?_ 0 (Nat.zero_le _)
  · simpa using this
  · refine Ev.next ?_
    have e : (Q.take Q.length).map st ++ Q.drop Q.length = Q.map st := by rw [List.take_length, List.drop_length, List.append_nil]
    simp only [impl_TopicFits.l0, Int.lt_irrefl, if_false, e]
    refine Ev.bind (impl_good n (by omega)) ?_
    cases goodB n with
    | false =>
      simp only [Bool.false_eq_true, if_false]
      exact Ev.now _
    | true =>
      simp only [if_true]
      have hlen : (Lib.join ((Q.map st).map (·.data.toList)) [47]).length ≤ 1048580 * 1048578 := by
        cases hq : Q with
        | nil => simp [Lib.join]
        | cons x r =>
          rw [hq, List.length_cons] at hQ
          have hx := hs x (by rw [hq]; exact List.mem_cons_self)
          have h3 := st_size x
          rw [List.map_cons, List.map_cons, join_cons_list, List.length_append, List.map_map, List.map_map]
          have hr : ((List.map (((fun y => 47 :: y) ∘ fun x => x.data.toList) ∘ st) r).flatten).length ≤ r.length * 1048578 := by
            have h := plain_size r ⟨#[]⟩ (fun y hy => hs y (by rw [hq]; exact List.mem_cons_of_mem _ hy))
            rw [size_list, plain_list] at h
            have e0 : (⟨#[]⟩ : ByteArray).size = 0 := rfl
            have e1 : (⟨#[]⟩ : ByteArray).data.toList = [] := rfl
            rw [e0, e1, List.nil_append, Nat.zero_add] at h
            exact h
          have h4 := size_list (st x)
          omega
      have hj : ∀ k, strings_Join.f k (Q.map st) (⟨#[47]⟩ : ByteArray) = some (joinOf (Q.map st)) := fun k => by
        have e1 : (⟨#[47]⟩ : ByteArray).data.toList = [47] := rfl
        unfold strings_Join.f
        rw [e1, if_pos ⟨by omega, by rw [List.length_map]; omega⟩]
        rfl
      simp only [hj, Option.bind_some]
      refine Ev.bind (impl_good (joinOf (Q.map st)) (by rw [size_list, joinOf_list]; omega)) ?_
      cases goodB (joinOf (Q.map st)) with
      | false =>
        simp only [Bool.false_eq_true, if_false]
        exact Ev.now _
      | true =>
        simp only [if_true, split_ev n hn, Option.bind_some, ← hN]
        exact Ev.bind (impl_fits_ev (Q.length + N.length) Q N (Nat.le_refl _)) (Ev.now _)
  · intro i hi
    refine ⟨0, fun k _ => ?_⟩
    have e : wrap64 ((i : Int) + 1) = ((i + 1 : Nat) : Int) := wrap_succ i (by omega)
    have t0 : ((i : Int)).toNat = i := by omega
    have hlen := hst i (by omega)
    have hmap : ((Q.take i).map st).length = i := by rw [List.length_map, List.length_take]; omega
    have er : rdOf ByteArray.empty ((Q.take i).map st ++ Q.drop i) (i : Int) = Q[i] := by
      rw [rdOf_get _ _ _ (by rw [hlen]; exact hi), List.getElem_append_right (by rw [hmap]; exact Nat.le_refl _)]
      simp only [hmap, Nat.sub_self, List.getElem_drop, Nat.add_zero]
    have es : ((Q.take i).map st ++ Q.drop i).set i (st Q[i]) = (Q.take (i + 1)).map st ++ Q.drop (i + 1) := by
      rw [List.set_append, if_neg (by rw [hmap]; omega), hmap, Nat.sub_self, List.drop_eq_getElem_cons hi, List.set_cons_zero, List.take_succ_eq_append_getElem hi, List.map_append, List.append_assoc]
      rfl
    have es2 : st Q[i] = Q[i] → (Q.take i).map st ++ Q.drop i = (Q.take (i + 1)).map st ++ Q.drop (i + 1) := fun h => by
      rw [List.take_succ_eq_append_getElem hi, List.map_append, List.append_assoc, List.drop_eq_getElem_cons hi]
      simp [h]
    show impl_TopicFits.l0 (k + 1) n Q ((Q.take i).map st ++ Q.drop i) (Q.length : Int) (i : Int) = impl_TopicFits.l0 k n Q ((Q.take (i + 1)).map st ++ Q.drop (i + 1)) (Q.length : Int) ((i + 1 : Nat) : Int)
    simp only [impl_TopicFits.l0, e, er, t0, hlen]
    rw [if_pos (by omega), if_pos (by omega), if_pos (by omega)]
    by_cases h1 : Q[i].toList = ([42] : List UInt8)
    · have e1 : st Q[i] = ⟨#[97]⟩ := by unfold st; rw [if_pos h1]
      rw [if_pos h1, ← es, e1]
    · rw [if_neg h1]
      by_cases h2 : Q[i].toList = ([42, 42] : List UInt8)
      · have e1 : st Q[i] = ⟨#[97]⟩ := by unfold st; rw [if_neg h1, if_pos h2]
        rw [if_pos h2, ← es, e1]
      · have e1 : st Q[i] = Q[i] := by unfold st; rw [if_neg h1, if_neg h2]
        rw [if_neg h2, ← es2 e1]
theorem F_empty (P N : List ByteArray) : F ((⟨#[]⟩ : ByteArray) :: P) ((⟨#[]⟩ : ByteArray) :: N) = F P N := by
  have e : (⟨#[]⟩ : ByteArray).toList = [] := by rw [ByteArray.toList_eq]
  rw [F_one _ _ _ (by rw [e]; simp)]
  simp only [Fm, or_true, if_true]
theorem impl_topic (p n : ByteArray) (hp : p.size ≤ 1048576) (hn : n.size ≤ 1048576) : Ev (fun k => impl_TopicFits.f k p n) (topicB p n) := by
  have hpl := pieces_length p
  have h := impl_l0 n (piecesOf p) hn (by omega) (fun x hx => Nat.le_trans (pieces_size p x hx) hp) (piecesOf n) rfl
  have hv : (if goodB n = true then (if goodB (joinOf ((piecesOf p).map st)) = true then F (piecesOf p) (piecesOf n) else false) else false) = topicB p n := by
    unfold topicB
    cases hg : goodB n with
    | false => rfl
    | true =>
      simp only [if_true]
      obtain ⟨n0, nb⟩ := good_slash n hg
      rw [pieces_slash n n0 nb]
      by_cases h0 : p.size = 0
      · have e1 : partsB p = [] := by unfold partsB; rw [if_pos h0]
        have e2 : piecesOf p = [p] := pieces_none p (by
          have : p.data.toList = [] := List.length_eq_zero_iff.1 (by rw [← size_list]; exact h0)
          rw [this]; simp)
        have hl : p.data.toList = [] := List.length_eq_zero_iff.1 (by rw [← size_list]; exact h0)
        have e3 : st p = p := by unfold st; rw [ByteArray.toList_eq, hl]; rfl
        rw [e1, e2, List.map_cons, List.map_nil, e3]
        rw [not_good (joinOf [p]) (Or.inl (by rw [size_list, joinOf_list]; simp [Lib.join, hl]))]
        simp
      · by_cases hb : bt p 0 = 47
        · rw [pieces_slash p h0 hb, join_plain, F_empty]
          have : (partsB p).length ≠ 0 := by
            unfold partsB
            rw [if_neg h0, if_pos hb]
            have := pieces_pos (p.extract 1 p.size)
            omega
          rw [if_neg this]
        · have e1 : partsB p = [] := by unfold partsB; rw [if_neg h0, if_neg hb]
          obtain ⟨hd, r, b, s, e2, e3, hne⟩ := pieces_head p h0 hb
          rw [e1, e2, List.map_cons]
          have hstb : ∃ b' s', (st hd).data.toList = b' :: s' ∧ b' ≠ 47 := by
            unfold st
            split
            · exact ⟨97, [], rfl, by decide⟩
            · split
              · exact ⟨97, [], rfl, by decide⟩
              · exact ⟨b, s, e3, hne⟩
          obtain ⟨b', s', e4, hne'⟩ := hstb
          have hj : (joinOf (st hd :: r.map st)).data.toList = b' :: (s' ++ ((r.map st).map (·.data.toList) |>.map fun y => 47 :: y).flatten) := by
            rw [joinOf_list, List.map_cons, join_cons_list, e4]
            rfl
          have hsz : 0 < (joinOf (st hd :: r.map st)).size := by rw [size_list, hj]; simp
          rw [not_good (joinOf (st hd :: r.map st)) (Or.inr (fun e => by
            have := (bt_47 _ 0 hsz).1 e
            have h2 : (joinOf (st hd :: r.map st)).data.toList[0]? = some b' := by rw [hj]; rfl
            rw [List.getElem?_eq_getElem (by rw [← size_list]; exact hsz), this] at h2
            exact hne' (Option.some.inj h2).symm))]
          simp
  rw [hv] at h
  simp only [impl_TopicFits.f, split_ev p hp, Option.bind_some, slices_Clone_string_string.f, List.length_nil, List.nil_append]
  have c : 0 + (piecesOf p).length < 8796093022208 := by omega
  simp only [c, if_true, Option.bind_some]
  exact h
def lastCut (s : ByteArray) : Nat → Nat
  | 0 => 0
  | i + 1 => if bt s (i : Int) = 47 then i + 1 else lastCut s i
theorem lastCut_le (s : ByteArray) : ∀ i, lastCut s i ≤ i
  | 0 => Nat.le_refl _
  | i + 1 => by
    unfold lastCut
    split
    · exact Nat.le_refl _
    · exact Nat.le_succ_of_le (lastCut_le s i)
/-- What is cut off the space ahead of its last stroke. -/
def headOf (s : ByteArray) : ByteArray := s.extract 0 (lastCut s s.size - 1)
theorem last_ev (s : ByteArray) (hs : s.size ≤ 1048576) : Ev (fun k => bytealg_LastIndexByteString.f k s 47) ((lastCut s s.size : Int) - 1) := by
  have key : ∀ i, i ≤ s.size → Ev (fun k => bytealg_LastIndexByteString.l0 k s 47 ((i : Int) - 1)) ((lastCut s i : Int) - 1) := by
    intro i
    induction i with
    | zero =>
      intro _
      refine Ev.next ⟨0, fun k _ => ?_⟩
      simp only [bytealg_LastIndexByteString.l0]
      rw [if_neg (by omega)]
      rfl
    | succ i ih =>
      intro hi
      have e0 : (((i + 1 : Nat) : Int) - 1) = (i : Int) := by omega
      rw [e0]
      unfold lastCut
      by_cases hb : bt s (i : Int) = 47
      · rw [if_pos hb]
        refine Ev.next ⟨0, fun k _ => ?_⟩
        simp only [bytealg_LastIndexByteString.l0]
        rw [if_pos (by omega), if_pos (by omega), if_pos (by omega), if_pos hb, e0]
      · rw [if_neg hb]
        have e : wrap64 ((i : Int) - 1) = (i : Int) - 1 := wrap_in (by omega) (by omega)
        refine Ev.step (fun k => ?_) (ih (by omega))
        simp only [bytealg_LastIndexByteString.l0, e]
        rw [if_pos (by omega), if_pos (by omega), if_pos (by omega), if_neg hb]
  have e : wrap64 ((s.size : Int) - 1) = (s.size : Int) - 1 := wrap_in (by omega) (by omega)
  simp only [bytealg_LastIndexByteString.f, e]
  exact key s.size (Nat.le_refl _)
theorem last_sl (s : ByteArray) (hs : s.size ≤ 1048576) : Ev (fun k => strings_LastIndex.f k s (⟨#[47]⟩ : ByteArray)) ((lastCut s s.size : Int) - 1) := by
  have e1 : (((⟨#[47]⟩ : ByteArray).size : Nat) : Int) = 1 := rfl
  have e2 : bt (⟨#[47]⟩ : ByteArray) 0 = 47 := by decide
  have d1 : ¬ ((1 : Int) = 0) := by decide
  have d2 : (0 : Int) < 1 := by decide
  simp only [strings_LastIndex.f, e1, e2, d1, d2, if_true, if_false]
  exact Ev.bind (last_ev s hs) (Ev.now _)

/-- What ResolveTopic comes to: the name, or nothing where it is not good. -/
def okName (s : ByteArray) : ByteArray := if goodB s = true then s else ⟨#[]⟩
def pre2 (n : ByteArray) : Bool := if (n.size : Int) ≥ 2 then (if bt n 0 = 126 then decide (bt n 1 = 47) else false) else false
def resB (a n : ByteArray) : ByteArray := if pre2 n = true then okName (a ++ n.extract 1 n.size) else if n.size = 0 then okName ((headOf a ++ sl) ++ n) else if bt n 0 = 47 then okName n else okName ((headOf a ++ sl) ++ n)
def resolveB (a n : ByteArray) : ByteArray := if a.size ≠ 0 ∧ goodB a = false then ⟨#[]⟩ else if (n.size : Int) > 60 then ⟨#[]⟩ else resB a n
theorem size_app (a b : ByteArray) : (a ++ b).size = a.size + b.size := ByteArray.size_append
theorem size_ext (s : ByteArray) (a b : Nat) : (s.extract a b).size = min b s.size - a := ByteArray.size_extract
theorem sl_size : sl.size = 1 := rfl
theorem sl_size' : (⟨#[47]⟩ : ByteArray).size = 1 := rfl
theorem spec_ok (s : ByteArray) (hs : s.size ≤ 1048576) : Ev (fun k => (spec_GoodTopic.f k s).bind fun t => (if t = true then (some s) else (some (⟨#[]⟩ : ByteArray)))) (okName s) := by
  refine Ev.bind (spec_good s (by omega)) ?_
  unfold okName
  cases goodB s
  · exact Ev.now _
  · exact Ev.now _
theorem impl_ok (s : ByteArray) (hs : s.size ≤ 1048576) : Ev (fun k => (impl_GoodTopic.f k s).bind fun t => (if t = true then (some s) else (some (⟨#[]⟩ : ByteArray)))) (okName s) := by
  refine Ev.bind (impl_good s (by omega)) ?_
  unfold okName
  cases goodB s
  · exact Ev.now _
  · exact Ev.now _
theorem spec_j4 (a n : ByteArray) (x : Nat) (ha : a.size ≤ 60) (hn : n.size ≤ 60) (hx : x ≤ a.size) : Ev (fun k => spec_ResolveTopic.j4 k a n (x : Int)) (okName ((a.extract 0 (x - 1) ++ sl) ++ n)) := by
  refine Ev.next ?_
  simp only [spec_ResolveTopic.j4]
  by_cases h0 : x = 0
  · subst h0
    have g1 : ¬ (((0 : Nat) : Int) > 0) := by omega
    simp only [g1, if_false]
    have t0 : (((0 : Nat) : Int)).toNat = 0 := rfl
    have s1 : (a.extract 0 0).size + 1 ≤ 9223372036854775807 := by rw [size_ext]; omega
    have s2 : (a.extract 0 0 ++ (⟨#[47]⟩ : ByteArray)).size + n.size ≤ 9223372036854775807 := by rw [size_app, size_ext, sl_size']; omega
    have c1 : (0 : Int) ≤ ((0 : Nat) : Int) := by omega
    have c2 : ((0 : Nat) : Int) ≤ (a.size : Int) := by omega
    simp only [t0, c1, c2, s1, s2, if_true]
    exact spec_ok ((a.extract 0 0 ++ sl) ++ n) (by rw [size_app, size_app, size_ext, sl_size]; omega)
  · have g1 : ((x : Int) > 0) := by omega
    have e : wrap64 ((x : Int) - 1) = ((x - 1 : Nat) : Int) := wrap_pred x (by omega) (by omega)
    simp only [g1, if_true, e]
    have t0 : (((x - 1 : Nat) : Int)).toNat = x - 1 := by omega
    have s1 : (a.extract 0 (x - 1)).size + 1 ≤ 9223372036854775807 := by rw [size_ext]; omega
    have s2 : (a.extract 0 (x - 1) ++ (⟨#[47]⟩ : ByteArray)).size + n.size ≤ 9223372036854775807 := by rw [size_app, size_ext, sl_size']; omega
    have c1 : (0 : Int) ≤ ((x - 1 : Nat) : Int) := by omega
    have c2 : ((x - 1 : Nat) : Int) ≤ (a.size : Int) := by omega
    simp only [t0, c1, c2, s1, s2, if_true]
    exact spec_ok ((a.extract 0 (x - 1) ++ sl) ++ n) (by rw [size_app, size_app, size_ext, sl_size]; omega)
theorem spec_tail (a n : ByteArray) (ha : a.size ≤ 60) (hn : n.size ≤ 60) : Ev (fun k => spec_ResolveTopic.l0 k a n (a.size : Int)) (okName ((headOf a ++ sl) ++ n)) := by
  have key : ∀ i, i ≤ a.size → Ev (fun k => spec_ResolveTopic.l0 k a n (i : Int)) (okName ((a.extract 0 (lastCut a i - 1) ++ sl) ++ n)) := by
    intro i
    induction i with
    | zero =>
      intro _
      refine Ev.step (fun k => ?_) (spec_j4 a n 0 ha hn (by omega))
      simp only [spec_ResolveTopic.l0]
      rw [if_neg (by omega)]
    | succ i ih =>
      intro hi
      have e : wrap64 (((i + 1 : Nat) : Int) - 1) = (i : Int) := by rw [wrap_in (by omega) (by omega)]; omega
      by_cases hb : bt a (i : Int) = 47
      · have hc : lastCut a (i + 1) = i + 1 := by unfold lastCut; rw [if_pos hb]
        rw [hc]
        refine Ev.step (fun k => ?_) (spec_j4 a n (i + 1) ha hn hi)
        simp only [spec_ResolveTopic.l0, e]
        rw [if_pos (by omega), if_pos (by omega), if_pos (by omega), if_pos hb]
      · have hc : lastCut a (i + 1) = lastCut a i := by conv => lhs; unfold lastCut
                                                        rw [if_neg hb]
        rw [hc]
        refine Ev.step (fun k => ?_) (ih (by omega))
        simp only [spec_ResolveTopic.l0, e]
        rw [if_pos (by omega), if_pos (by omega), if_pos (by omega), if_neg hb]
  exact key a.size (Nat.le_refl _)
theorem spec_j0 (a n : ByteArray) (ha : a.size ≤ 60) (hn : n.size ≤ 60) : Ev (fun k => spec_ResolveTopic.j0 k a n false) (resB a n) := by
  have go1 : ∀ b : Bool, Ev (fun k => spec_ResolveTopic.j2 k a n n b) (if b = true then okName ((headOf a ++ sl) ++ n) else okName n) := by
    intro b
    refine Ev.next ?_
    cases b
    · simp only [spec_ResolveTopic.j2, Bool.false_eq_true, if_false]
      exact spec_ok n (by omega)
    · simp only [spec_ResolveTopic.j2, if_true]
      exact spec_tail a n ha hn
  have goT : Ev (fun k => spec_ResolveTopic.j2 k a n n true) (okName ((headOf a ++ sl) ++ n)) := by
    have h := go1 true
    simp only [if_true] at h
    exact h
  have goF : Ev (fun k => spec_ResolveTopic.j2 k a n n false) (okName n) := by
    have h := go1 false
    simp only [Bool.false_eq_true, if_false] at h
    exact h
  have go : Ev (fun k => spec_ResolveTopic.j1 k a n n (pre2 n)) (resB a n) := by
    refine Ev.next ?_
    unfold resB
    cases hp : pre2 n with
    | true =>
      have h2 : (n.size : Int) ≥ 2 := by
        unfold pre2 at hp
        split at hp
        · assumption
        · cases hp
      simp only [spec_ResolveTopic.j1, if_true]
      have s1 : a.size + (n.extract 1 n.size).size ≤ 9223372036854775807 := by rw [size_ext]; omega
      have s2 : 1 ≤ (n.size : Int) := by omega
      simp only [s1, s2, if_true]
      exact spec_ok _ (by rw [size_app, size_ext]; omega)
    | false =>
      simp only [spec_ResolveTopic.j1, Bool.false_eq_true, if_false]
      by_cases h0 : n.size = 0
      · have h0' : (n.size : Int) = 0 := by omega
        simp only [h0', if_true, if_pos h0]
        exact goT
      · have h0' : ¬ (n.size : Int) = 0 := by omega
        have h1' : 0 < (n.size : Int) := by omega
        simp only [h0', h1', if_true, if_false, if_neg h0]
        by_cases hb : bt n 0 = 47
        · have : (bt n 0 != 47) = false := by simp [hb]
          simp only [this, if_pos hb]
          exact goF
        · have : (bt n 0 != 47) = true := by simp [hb]
          simp only [this, if_neg hb]
          exact goT
  refine Ev.next ?_
  simp only [spec_ResolveTopic.j0, Bool.false_eq_true, if_false]
  unfold pre2 at go
  by_cases h2 : (n.size : Int) ≥ 2
  · have h1' : 0 < (n.size : Int) := by omega
    have h1'' : 1 < (n.size : Int) := by omega
    simp only [h2, h1', h1'', if_true] at go ⊢
    by_cases hb : bt n 0 = 126
    · simp only [hb, if_true] at go ⊢
      have : (bt n 1 == 47) = decide (bt n 1 = 47) := rfl
      rw [this]
      exact go
    · simp only [hb, if_false] at go ⊢
      exact go
  · simp only [h2, if_false] at go ⊢
    exact go
theorem list_nil (a : ByteArray) : a.toList = ([] : List UInt8) ↔ a.size = 0 := by
  rw [ByteArray.toList_eq, size_list]
  exact List.length_eq_zero_iff.symm
theorem good_small (s : ByteArray) (h : goodB s = true) : s.size ≤ 60 := by
  unfold goodB at h
  split at h
  · cases h
  · omega
theorem spec_res (a n : ByteArray) (ha : a.size ≤ 1048576) : Ev (fun k => spec_ResolveTopic.f k a n) (resolveB a n) := by
  have stop : Ev (fun k => spec_ResolveTopic.j0 k a n true) (⟨#[]⟩ : ByteArray) := Ev.next ⟨0, fun k _ => by simp [spec_ResolveTopic.j0]⟩
  have go : a.size ≤ 60 → Ev (fun k => spec_ResolveTopic.j0 k a n (decide ((n.size : Int) > 60))) (if (n.size : Int) > 60 then ⟨#[]⟩ else resB a n) := by
    intro h
    by_cases hn : (n.size : Int) > 60
    · rw [if_pos hn, decide_eq_true hn]
      exact stop
    · rw [if_neg hn, decide_eq_false hn]
      exact spec_j0 a n h (by omega)
  unfold resolveB
  simp only [spec_ResolveTopic.f]
  by_cases h0 : a.size = 0
  · rw [if_neg (by simp [h0])]
    have := (list_nil a).2 h0
    simp only [this, if_true]
    exact go (by omega)
  · have : ¬ a.toList = [] := fun e => h0 ((list_nil a).1 e)
    simp only [this, if_false]
    refine Ev.bind (spec_good a (by omega)) ?_
    cases hg : goodB a with
    | true =>
      simp only [if_true]
      rw [if_neg (by simp)]
      exact go (good_small a hg)
    | false =>
      simp only [Bool.false_eq_true, if_false]
      rw [if_pos ⟨h0, trivial⟩]
      exact stop
theorem has_slash (n : ByteArray) : strings_HasPrefix.f n (⟨#[47]⟩ : ByteArray) = some (if n.size = 0 then false else decide (bt n 0 = 47)) := by
  have h := cut_slash n
  have e1 : (sl.size : Int) = 1 := rfl
  rw [show (⟨#[47]⟩ : ByteArray) = sl from rfl]
  simp only [strings_HasPrefix.f, strings_CutPrefix.f, stringslite_CutPrefix.f, stringslite_HasPrefix.f, e1] at h ⊢
  by_cases h0 : n.size = 0
  · rw [if_pos h0, if_neg (by omega)]
    rfl
  · rw [if_neg h0]
    rw [if_neg h0, if_pos (by omega), if_pos (by omega), if_pos (by omega)] at h
    rw [if_pos (by omega), if_pos (by omega), if_pos (by omega)]
    simp only [Option.bind_some] at h ⊢
    by_cases hb : bt n 0 = 47
    · rw [decide_eq_true hb]
      rw [if_pos hb] at h
      cases hx : ((n.extract 0 ((1 : Int)).toNat).toList == sl.toList) with
      | true => rfl
      | false => rw [hx] at h; simp at h
    · rw [decide_eq_false hb]
      rw [if_neg hb] at h
      cases hx : ((n.extract 0 ((1 : Int)).toNat).toList == sl.toList) with
      | false => rfl
      | true =>
        rw [hx] at h
        simp only [if_true] at h
        rw [if_pos (by omega), if_pos (by omega)] at h
        simp at h
theorem two_list (l : List UInt8) (x y : UInt8) (h : 2 ≤ l.length) : (l.take 2 == [x, y]) = (decide (l[0]'(by omega) = x) && decide (l[1]'(by omega) = y)) := by
  match l, h with
  | a :: b :: r, _ =>
    simp only [List.take_succ_cons, List.take_zero, List.getElem_cons_zero, List.getElem_cons_succ]
    by_cases h1 : a = x
    · by_cases h2 : b = y
      · simp [h1, h2]
      · simp [h1, h2]
    · simp [h1]
theorem has_home (n : ByteArray) : strings_HasPrefix.f n (⟨#[126, 47]⟩ : ByteArray) = some (pre2 n) := by
  have e1 : (((⟨#[126, 47]⟩ : ByteArray).size : Nat) : Int) = 2 := rfl
  unfold pre2
  simp only [strings_HasPrefix.f, stringslite_HasPrefix.f, e1]
  by_cases h2 : (n.size : Int) ≥ 2
  · have hl : 2 ≤ n.data.toList.length := by rw [← size_list]; omega
    rw [if_pos h2, if_pos (by omega), if_pos (by omega), if_pos h2]
    have t2 : ((2 : Int)).toNat = 2 := rfl
    have z : (⟨#[126, 47]⟩ : ByteArray).toList = [126, 47] := by rw [ByteArray.toList_eq]
    have y : (n.extract 0 2).toList = n.data.toList.take 2 := by rw [ByteArray.toList_eq, ext_list, List.drop_zero]
    have b0 := bt_list n 0 (by omega)
    have b1 := bt_list n 1 (by omega)
    rw [t2, y, z, two_list _ _ _ hl]
    simp only [Option.bind_some]
    have c0 : bt n 0 = 126 ↔ n.data.toList[0] = 126 := by
      rw [show bt n 0 = _ from b0]
      constructor
      · intro e; exact UInt8.toNat_inj.1 (by have : (n.data.toList[0]).toNat = 126 := by omega
                                             exact this)
      · intro e; rw [e]; rfl
    have c1 : bt n 1 = 47 ↔ n.data.toList[1] = 47 := bt_47 n 1 (by omega)
    by_cases x0 : bt n 0 = 126
    · rw [if_pos x0, decide_eq_true (c0.1 x0), Bool.true_and]
      by_cases x1 : bt n 1 = 47
      · rw [decide_eq_true x1, decide_eq_true (c1.1 x1)]
      · rw [decide_eq_false x1, decide_eq_false (fun e => x1 (c1.2 e))]
    · rw [if_neg x0, decide_eq_false (fun e => x0 (c0.2 e)), Bool.false_and]
  · rw [if_neg h2, if_neg h2]
    rfl
theorem impl_j0 (a n : ByteArray) (ha : a.size ≤ 60) (hn : n.size ≤ 60) : Ev (fun k => impl_ResolveTopic.j0 k a n false) (resB a n) := by
  refine Ev.next ?_
  simp only [impl_ResolveTopic.j0, Bool.false_eq_true, if_false, has_slash, has_home, Option.bind_some]
  unfold resB
  have tail : Ev (fun k => (strings_LastIndex.f k a (⟨#[47]⟩ : ByteArray)).bind fun t142 => (if 0 ≤ (mx t142 0) then (if (mx t142 0) ≤ (a.size : Int) then (if (a.extract 0 ((mx t142 0) : Int).toNat).size + 1 ≤ 9223372036854775807 then (if ((a.extract 0 ((mx t142 0) : Int).toNat) ++ (⟨#[47]⟩ : ByteArray)).size + n.size ≤ 9223372036854775807 then ((impl_GoodTopic.f k (((a.extract 0 ((mx t142 0) : Int).toNat) ++ (⟨#[47]⟩ : ByteArray)) ++ n)).bind fun t143 => (if t143 = true then (some (((a.extract 0 ((mx t142 0) : Int).toNat) ++ (⟨#[47]⟩ : ByteArray)) ++ n)) else (some (⟨#[]⟩ : ByteArray)))) else (none)) else (none)) else (none)) else (none))) (okName ((headOf a ++ sl) ++ n)) := by
    refine Ev.bind (last_sl a (by omega)) ?_
    have hc := lastCut_le a a.size
    have em : mx ((lastCut a a.size : Int) - 1) 0 = ((lastCut a a.size - 1 : Nat) : Int) := by unfold mx; split <;> omega
    have t0 : (((lastCut a a.size - 1 : Nat) : Int)).toNat = lastCut a a.size - 1 := by omega
    simp only [em, t0]
    have s1 : (a.extract 0 (lastCut a a.size - 1)).size + 1 ≤ 9223372036854775807 := by rw [size_ext]; omega
    have s2 : (a.extract 0 (lastCut a a.size - 1) ++ (⟨#[47]⟩ : ByteArray)).size + n.size ≤ 9223372036854775807 := by rw [size_app, size_ext, sl_size']; omega
    have s3 : (0 : Int) ≤ ((lastCut a a.size - 1 : Nat) : Int) := by omega
    have s4 : ((lastCut a a.size - 1 : Nat) : Int) ≤ (a.size : Int) := by omega
    simp only [s1, s2, s3, s4, if_true]
    exact impl_ok _ (by rw [size_app, size_app, size_ext, sl_size']; omega)
  by_cases hb : (if n.size = 0 then false else decide (bt n 0 = 47)) = true
  · have h0 : ¬ n.size = 0 := by intro h; simp [h] at hb
    have hb' : bt n 0 = 47 := by simpa [h0] using hb
    have hp : pre2 n = false := by
      unfold pre2
      split
      · rw [if_neg (by omega)]
      · rfl
    simp only [hb, if_true, hp, Bool.false_eq_true, if_false, if_neg h0, if_pos hb']
    exact impl_ok n (by omega)
  · simp only [hb, Bool.false_eq_true, if_false]
    cases hp : pre2 n with
    | true =>
      have h2 : (n.size : Int) ≥ 2 := by
        unfold pre2 at hp
        split at hp
        · assumption
        · cases hp
      simp only [if_true]
      have s1 : a.size + (n.extract 1 n.size).size ≤ 9223372036854775807 := by rw [size_ext]; omega
      have s2 : 1 ≤ (n.size : Int) := by omega
      simp only [s1, s2, if_true]
      exact impl_ok _ (by rw [size_app, size_ext]; omega)
    | false =>
      simp only [Bool.false_eq_true, if_false]
      by_cases h0 : n.size = 0
      · rw [if_pos h0]
        exact tail
      · have hb' : ¬ bt n 0 = 47 := by intro e; exact hb (by simp [h0, e])
        rw [if_neg h0, if_neg hb']
        exact tail
theorem impl_res (a n : ByteArray) (ha : a.size ≤ 1048576) : Ev (fun k => impl_ResolveTopic.f k a n) (resolveB a n) := by
  have stop : Ev (fun k => impl_ResolveTopic.j0 k a n true) (⟨#[]⟩ : ByteArray) := Ev.next ⟨0, fun k _ => by simp [impl_ResolveTopic.j0]⟩
  have go : a.size ≤ 60 → Ev (fun k => impl_ResolveTopic.j0 k a n (decide ((n.size : Int) > 60))) (if (n.size : Int) > 60 then ⟨#[]⟩ else resB a n) := by
    intro h
    by_cases hn : (n.size : Int) > 60
    · rw [if_pos hn, decide_eq_true hn]
      exact stop
    · rw [if_neg hn, decide_eq_false hn]
      exact impl_j0 a n h (by omega)
  unfold resolveB
  simp only [impl_ResolveTopic.f]
  by_cases h0 : a.size = 0
  · rw [if_neg (by simp [h0])]
    have := (list_nil a).2 h0
    simp only [this, if_true]
    exact go (by omega)
  · have : ¬ a.toList = [] := fun e => h0 ((list_nil a).1 e)
    simp only [this, if_false]
    refine Ev.bind (impl_good a (by omega)) ?_
    cases hg : goodB a with
    | true =>
      simp only [if_true]
      rw [if_neg (by simp)]
      exact go (good_small a hg)
    | false =>
      simp only [Bool.false_eq_true, if_false]
      rw [if_pos ⟨h0, trivial⟩]
      exact stop
theorem wraps_u64 (n : Int) (h₀ : 0 ≤ n) (h₁ : n < 2 ^ 64) : IntKind.u64.wrap n = n := by rw [IntKind.wrap_u64]; omega
theorem u64_rng (n : Int) : 0 ≤ IntKind.u64.wrap n ∧ IntKind.u64.wrap n < 18446744073709551616 := by rw [IntKind.wrap_u64]; omega
theorem u64_and255 (x : Int) (h₀ : 0 ≤ x) (h₁ : x < 2 ^ 64) : Go.bits .and .u64 x 255 = x % 256 := bits_mask .u64 64 (by decide) wraps_u64 8 (by decide) x h₀ h₁
/-- The bytes that the draws read. -/
def Bytes (c : List Int) : Prop := ∀ x ∈ c, 0 ≤ x ∧ x ≤ 255
theorem bytes_rd (c : List Int) (h : Bytes c) (i : Int) : 0 ≤ rd c i ∧ rd c i ≤ 255 := by
  unfold rd
  rw [List.getD_eq_getElem?_getD]
  by_cases hi : i.toNat < c.length
  · rw [List.getElem?_eq_getElem hi]
    exact h _ (List.getElem_mem _)
  · rw [List.getElem?_eq_none (by omega)]
    simp
theorem seed_byte (u : Int) : 0 ≤ wrap64 (Go.bits .and .u64 ((IntKind.u64.wrap u) / 1099511627776) 255) ∧ wrap64 (Go.bits .and .u64 ((IntKind.u64.wrap u) / 1099511627776) 255) ≤ 255 := by
  have h := u64_rng u
  have h1 : 0 ≤ (IntKind.u64.wrap u) / 1099511627776 := by omega
  have h2 : (IntKind.u64.wrap u) / 1099511627776 < 2 ^ 64 := by omega
  rw [u64_and255 _ h1 h2, wrap_in (by omega) (by omega)]
  omega
theorem next_ok (c : List Int) (hc : Bytes c) (a s : Int) (h0 : 0 ≤ a) (h1 : a < 4611686018427387904) : ∃ r s', spec_l1Cur_next.f c a s = some (r, a + 1, s') ∧ 0 ≤ r ∧ r ≤ 255 := by
  have hw : wrap64 (a + 1) = a + 1 := wrap_in (by omega) (by omega)
  have hb := bytes_rd c hc a
  have hwb : wrap64 (rd c a) = rd c a := wrap_in (by omega) (by omega)
  unfold spec_l1Cur_next.f
  simp only [hw, h0, if_true]
  split
  · split
    · exact ⟨_, _, rfl, by omega, by omega⟩
    · exact ⟨_, _, rfl, seed_byte _⟩
  · split
    · exact ⟨_, _, rfl, by omega, by omega⟩
    · exact ⟨_, _, rfl, seed_byte _⟩
theorem pick_ok (c : List Int) (hc : Bytes c) (a s n : Int) (h0 : 0 ≤ a) (h1 : a < 4611686018427387900) (hn : n < 9223372036854775808) :
    ∃ r a' s', spec_l1Cur_pick.f c a s n = some (r, a', s') ∧ 0 ≤ r ∧ (r < n ∨ r = 0) ∧ a ≤ a' ∧ a' ≤ a + 2 := by
  unfold spec_l1Cur_pick.f
  split
  · exact ⟨0, a, s, rfl, by omega, by omega, by omega, by omega⟩
  · obtain ⟨r1, s1, e1, h2, h3⟩ := next_ok c hc a s h0 (by omega)
    rw [e1]
    simp only [Option.bind_some]
    split
    · obtain ⟨r2, s2, e2, h4, h5⟩ := next_ok c hc (a + 1) s1 (by omega) (by omega)
      rw [e2]
      simp only [Option.bind_some]
      rw [if_neg (by omega)]
      have w1 : wrap64 (r1 * 256) = r1 * 256 := wrap_in (by omega) (by omega)
      have w2 : wrap64 (r1 * 256 + r2) = r1 * 256 + r2 := wrap_in (by omega) (by omega)
      rw [w1, w2]
      refine ⟨_, _, _, rfl, ?_, ?_, by omega, by omega⟩
      · rw [Int.tmod_eq_emod_of_nonneg (by omega)]
        exact Int.emod_nonneg _ (by omega)
      · rw [Int.tmod_eq_emod_of_nonneg (by omega)]
        exact .inl (Int.emod_lt_of_pos _ (by omega))
    · rw [if_neg (by omega)]
      refine ⟨_, _, _, rfl, ?_, ?_, by omega, by omega⟩
      · rw [Int.tmod_eq_emod_of_nonneg (by omega)]
        exact Int.emod_nonneg _ (by omega)
      · rw [Int.tmod_eq_emod_of_nonneg (by omega)]
        exact .inl (Int.emod_lt_of_pos _ (by omega))
theorem of_ok (c : List Int) (hc : Bytes c) (a s : Int) (l : List ByteArray) (M : Nat) (h0 : 0 ≤ a) (h1 : a < 4611686018427387900) (hl : 0 < l.length) (hl2 : l.length ≤ 1000) (hM : ∀ x ∈ l, x.size ≤ M) :
    ∃ x a' s', spec_l1Cur_of.f c a s l = some (x, a', s') ∧ x.size ≤ M ∧ a ≤ a' ∧ a' ≤ a + 2 := by
  obtain ⟨r, a', s', e, h2, h3, h4, h5⟩ := pick_ok c hc a s (l.length : Int) h0 h1 (by omega)
  have hr : r < (l.length : Int) := by omega
  unfold spec_l1Cur_of.f
  rw [e]
  simp only [Option.bind_some]
  rw [if_pos h2, if_pos hr]
  refine ⟨_, _, _, rfl, ?_, h4, h5⟩
  obtain ⟨i, rfl⟩ : ∃ i : Nat, r = (i : Int) := ⟨r.toNat, by omega⟩
  rw [rdOf_get _ _ _ (by omega)]
  exact hM _ (List.getElem_mem _)
theorem part_ok (c : List Int) (hc : Bytes c) (a s : Int) (h0 : 0 ≤ a) (h1 : a < 4611686018427387900) :
    ∃ x a' s', spec_l1Cur_part.f c a s = some (x, a', s') ∧ x.size ≤ 20 ∧ a ≤ a' ∧ a' ≤ a + 2 := by
  unfold spec_l1Cur_part.f
  obtain ⟨x, a', s', e, h2, h3, h4⟩ := of_ok c hc a s (([(⟨#[97, 114, 109]⟩ : ByteArray), (⟨#[98, 97, 115, 101]⟩ : ByteArray), (⟨#[120, 49]⟩ : ByteArray), (⟨#[99, 109, 100, 95, 118, 101, 108]⟩ : ByteArray), (⟨#[97]⟩ : ByteArray), (⟨#[115, 99, 97, 110]⟩ : ByteArray), (⟨#[111, 100, 111, 109]⟩ : ByteArray), (⟨#[97, 98, 99, 100, 101, 102, 103, 104, 105, 106, 107, 108, 109, 110, 111, 112, 113, 114, 115, 116]⟩ : ByteArray)] : List ByteArray)) 20 h0 h1 (by decide) (by decide) (by
    intro x hx
    simp only [List.mem_cons, List.mem_nil_iff, or_false] at hx
    rcases hx with rfl | rfl | rfl | rfl | rfl | rfl | rfl | rfl <;> decide)
  rw [e]
  exact ⟨_, _, _, rfl, h2, h3, h4⟩
theorem num_size (b : Int) : (strOfNums [b]).size = 1 := rfl
theorem bsize_app (a b : ByteArray) : (a ++ b).size = a.size + b.size := ByteArray.size_append
theorem bsize_ext (s : ByteArray) (a b : Nat) : (s.extract a b).size = min b s.size - a := ByteArray.size_extract
theorem spoilt_loop (c : List Int) (hc : Bytes c) (x2 : ByteArray) (h2 : 0 < x2.size) (h2' : x2.size ≤ 10) : ∀ (d : Nat) (x1 : ByteArray) (a s : Int), d ≤ 10 → x1.size + d ≤ 1000 → 0 ≤ a → a + 6 * d < 4611686018427387800 →
    ∃ (r : ByteArray) (a' s' : Int), Ev (fun k => spec_l1Cur_spoilt.l0 k x1 x2 (d : Int) c a s) (r, a', s') ∧ r.size ≤ x1.size + d ∧ a ≤ a' ∧ a' ≤ a + 6 * d := by
  intro d
  induction d with
  | zero =>
    intro x1 a s _ _ h0 h1
    refine ⟨x1, a, s, Ev.next (Ev.congr (f := fun k => spec_l1Cur_spoilt.j1 k x1 x2 0 false c a s) (fun k => ?_) (Ev.next ⟨0, fun k _ => ?_⟩)), by omega, by omega, by omega⟩
    · simp only [spec_l1Cur_spoilt.l0]
      rw [if_neg (by omega)]
      rfl
    · simp only [spec_l1Cur_spoilt.j1, Bool.false_eq_true, if_false]
  | succ d ih =>
    intro x1 a s hd hs h0 h1
    by_cases hz : (x1.size : Int) > 0
    · obtain ⟨r1, a1, s1, e1, p1, q1, m1, n1⟩ := pick_ok c hc a s (x1.size : Int) h0 (by omega) (by omega)
      obtain ⟨r2, a2, s2, e2, p2, q2, m2, n2⟩ := pick_ok c hc a1 s1 (x2.size : Int) (by omega) (by omega) (by omega)
      obtain ⟨r3, a3, s3, e3, p3, q3, m3, n3⟩ := pick_ok c hc a2 s2 3 (by omega) (by omega) (by omega)
      have hw : wrap64 (((d + 1 : Nat) : Int) - 1) = (d : Int) := by rw [wrap_in (by omega) (by omega)]; omega
      have hr1 : wrap64 (r1 + 1) = r1 + 1 := wrap_in (by omega) (by omega)
      have t1 : (r1 + 1).toNat = r1.toNat + 1 := by omega
      have c1 : 0 ≤ r1 := p1
      have c2 : r1 ≤ (x1.size : Int) := by omega
      have c3 : 0 ≤ r1 + 1 := by omega
      have c4 : r1 + 1 ≤ (x1.size : Int) := by omega
      have c5 : 0 ≤ r2 := p2
      have c6 : r2 < (x2.size : Int) := by omega
      have z1 : (x1.extract 0 r1.toNat).size = r1.toNat := by rw [bsize_ext]; omega
      have z2 : (x1.extract r1.toNat x1.size).size = x1.size - r1.toNat := by rw [bsize_ext]; omega
      have z3 : (x1.extract (r1.toNat + 1) x1.size).size = x1.size - (r1.toNat + 1) := by rw [bsize_ext]; omega
      have z4 : (x1.extract 0 r1.toNat).size + (strOfNums [bt x2 r2]).size ≤ 9223372036854775807 := by rw [z1, num_size]; omega
      have z5 : ((x1.extract 0 r1.toNat) ++ (strOfNums [bt x2 r2])).size + (x1.extract r1.toNat x1.size).size ≤ 9223372036854775807 := by rw [bsize_app, z1, num_size, z2]; omega
      have z6 : ((x1.extract 0 r1.toNat) ++ (strOfNums [bt x2 r2])).size + (x1.extract (r1.toNat + 1) x1.size).size ≤ 9223372036854775807 := by rw [bsize_app, z1, num_size, z3]; omega
      have z7 : (x1.extract 0 r1.toNat).size + (x1.extract (r1.toNat + 1) x1.size).size ≤ 9223372036854775807 := by rw [z1, z3]; omega
      have big : ∃ (y : ByteArray), y.size ≤ x1.size + 1 ∧ (∀ k, spec_l1Cur_spoilt.l0 (k + 1 + 1) x1 x2 ((d + 1 : Nat) : Int) c a s = spec_l1Cur_spoilt.l0 k y x2 (d : Int) c a3 s3) := by
        have hd1 : ((d + 1 : Nat) : Int) > 0 := by omega
        by_cases g0 : r3 = 0
        · refine ⟨((x1.extract 0 r1.toNat) ++ (strOfNums [bt x2 r2])) ++ (x1.extract r1.toNat x1.size), by rw [bsize_app, bsize_app, z1, num_size, z2]; omega, fun k => ?_⟩
          simp only [spec_l1Cur_spoilt.l0, spec_l1Cur_spoilt.j1, hd1, hz, decide_true, if_true, e1, e2, e3, Option.bind_some, c1, c2, c5, c6, g0, z4, z5, hw]
        · by_cases g1 : r3 = 1
          · refine ⟨((x1.extract 0 r1.toNat) ++ (strOfNums [bt x2 r2])) ++ (x1.extract (r1.toNat + 1) x1.size), by rw [bsize_app, bsize_app, z1, num_size, z3]; omega, fun k => ?_⟩
            have g10 : ¬ ((1 : Int) = 0) := by decide
            simp only [spec_l1Cur_spoilt.l0, spec_l1Cur_spoilt.j1, hd1, hz, decide_true, if_true, if_false, e1, e2, e3, Option.bind_some, c1, c2, c3, c4, c5, c6, g1, g10, z4, z6, hw, hr1, t1]
          · refine ⟨(x1.extract 0 r1.toNat) ++ (x1.extract (r1.toNat + 1) x1.size), by rw [bsize_app, z1, z3]; omega, fun k => ?_⟩
            simp only [spec_l1Cur_spoilt.l0, spec_l1Cur_spoilt.j1, hd1, hz, decide_true, if_true, if_false, e1, e2, e3, Option.bind_some, c1, c2, c3, c4, c5, c6, g0, g1, z7, hw, hr1, t1]
      obtain ⟨y, hy, hstep⟩ := big
      obtain ⟨r, a', s', he, hr, ha, hb⟩ := ih y a3 s3 (by omega) (by omega) (by omega) (by omega)
      exact ⟨r, a', s', Ev.next (Ev.step hstep he), by omega, by omega, by omega⟩
    · refine ⟨x1, a, s, Ev.next (Ev.congr (f := fun k => spec_l1Cur_spoilt.j1 k x1 x2 ((d + 1 : Nat) : Int) false c a s) (fun k => ?_) (Ev.next ⟨0, fun k _ => ?_⟩)), by omega, by omega, by omega⟩
      · have hd1 : ((d + 1 : Nat) : Int) > 0 := by omega
        simp only [spec_l1Cur_spoilt.l0, hd1, hz, if_true, decide_false]
      · simp only [spec_l1Cur_spoilt.j1, Bool.false_eq_true, if_false]
theorem spoilt_ok (c : List Int) (hc : Bytes c) (x1 x2 : ByteArray) (a s : Int) (h2 : 0 < x2.size) (h2' : x2.size ≤ 10) (hs : x1.size ≤ 900) (h0 : 0 ≤ a) (h1 : a < 4611686018427387700) :
    ∃ (r : ByteArray) (a' s' : Int), Ev (fun k => spec_l1Cur_spoilt.f k c a s x1 x2) (r, a', s') ∧ r.size ≤ x1.size + 3 ∧ a ≤ a' ∧ a' ≤ a + 20 := by
  obtain ⟨r, a1, s1, e, p, q, m, n⟩ := pick_ok c hc a s 3 h0 (by omega) (by omega)
  obtain ⟨d, rfl⟩ : ∃ d : Nat, r = (d : Int) := ⟨r.toNat, by omega⟩
  obtain ⟨y, a', s', he, hr, ha, hb⟩ := spoilt_loop c hc x2 h2 h2' d x1 a1 s1 (by omega) (by omega) (by omega) (by omega)
  refine ⟨y, a', s', ?_, by omega, by omega, by omega⟩
  simp only [spec_l1Cur_spoilt.f, e, Option.bind_some]
  exact he
theorem topic_loop (c : List Int) (hc : Bytes c) : ∀ (d : Nat) (x : ByteArray) (a s : Int), d ≤ 10 → x.size + 21 * d ≤ 400 → 0 ≤ a → a + 2 * d < 4611686018427387600 →
    ∃ (r : ByteArray) (a' s' : Int), Ev (fun k => spec_l1Cur_topic.l0 k x (d : Int) c a s) (r, a', s') ∧ r.size ≤ x.size + 21 * d + 70 ∧ a ≤ a' ∧ a' ≤ a + 2 * d + 30 := by
  intro d
  induction d with
  | zero =>
    intro x a s _ _ h0 h1
    obtain ⟨r, a1, s1, e, p, q, m, n⟩ := pick_ok c hc a s 10 h0 (by omega) (by omega)
    have hd1 : ¬ (((0 : Nat) : Int) > 0) := by omega
    by_cases g0 : r = 0
    · obtain ⟨y, a2, s2, he, h3, h4, h5⟩ := spoilt_ok c hc x (⟨#[47, 95, 97, 65, 49, 42]⟩ : ByteArray) a1 s1 (by decide) (by decide) (by omega) (by omega) (by omega)
      refine ⟨y, a2, s2, Ev.next ?_, by omega, by omega, by omega⟩
      simp only [spec_l1Cur_topic.l0, hd1, if_false, e, Option.bind_some, g0, if_true]
      exact Ev.bind he (Ev.now _)
    · by_cases g1 : r = 1
      · obtain ⟨y, a2, s2, he, h3, h4, h5⟩ := of_ok c hc a1 s1 (([(⟨#[]⟩ : ByteArray), (⟨#[47]⟩ : ByteArray), (⟨#[47, 47, 97]⟩ : ByteArray), (⟨#[47, 97, 47]⟩ : ByteArray), (⟨#[97]⟩ : ByteArray), (⟨#[47, 65]⟩ : ByteArray), (⟨#[47, 49, 97]⟩ : ByteArray), (⟨#[47, 97, 98, 99, 100, 101, 102, 103, 104, 105, 106, 107, 108, 109, 110, 111, 112, 113, 114, 115, 116, 117]⟩ : ByteArray), (⟨#[47, 97, 98, 99, 100, 101, 102, 103, 104, 105, 106, 107, 108, 109, 110, 111, 112, 113, 114, 115, 116, 47, 97, 98, 99, 100, 101, 102, 103, 104, 105, 106, 107, 108, 109, 110, 111, 112, 113, 114, 115, 116, 47, 97, 98, 99, 100, 101, 102, 103, 104, 105, 106, 107, 108, 109, 110, 111, 112, 113]⟩ : ByteArray), (⟨#[47, 97, 98, 99, 100, 101, 102, 103, 104, 105, 106, 107, 108, 109, 110, 111, 112, 113, 114, 115, 116, 47, 97, 98, 99, 100, 101, 102, 103, 104, 105, 106, 107, 108, 109, 110, 111, 112, 113, 114, 115, 116, 47, 97, 98, 99, 100, 101, 102, 103, 104, 105, 106, 107, 108, 109, 110, 111, 112, 113, 114]⟩ : ByteArray)] : List ByteArray)) 70 (by omega) (by omega) (by decide) (by decide) (by
          intro x hx
          simp only [List.mem_cons, List.mem_nil_iff, or_false] at hx
          rcases hx with rfl | rfl | rfl | rfl | rfl | rfl | rfl | rfl | rfl | rfl <;> decide)
        refine ⟨y, a2, s2, Ev.next ⟨0, fun k _ => ?_⟩, by omega, by omega, by omega⟩
        have g10 : ¬ ((1 : Int) = 0) := by decide
        simp only [spec_l1Cur_topic.l0, hd1, if_false, e, Option.bind_some, g1, g10, if_true, he]
      · refine ⟨x, a1, s1, Ev.next ⟨0, fun k _ => ?_⟩, by omega, by omega, by omega⟩
        simp only [spec_l1Cur_topic.l0, hd1, if_false, e, Option.bind_some, g0, g1]
  | succ d ih =>
    intro x a s hd hs h0 h1
    have hd1 : ((d + 1 : Nat) : Int) > 0 := by omega
    have hw : wrap64 (((d + 1 : Nat) : Int) - 1) = (d : Int) := by rw [wrap_in (by omega) (by omega)]; omega
    obtain ⟨y, a1, s1, e, h3, h4, h5⟩ := part_ok c hc a s h0 (by omega)
    have e1 : ((⟨#[47]⟩ : ByteArray) ++ y).size = 1 + y.size := by rw [bsize_app]; rfl
    have z : (x ++ ((⟨#[47]⟩ : ByteArray) ++ y)).size = x.size + (1 + y.size) := by rw [bsize_app, e1]
    obtain ⟨r, a', s', he, hr, ha, hb⟩ := ih (x ++ ((⟨#[47]⟩ : ByteArray) ++ y)) a1 s1 (by omega) (by omega) (by omega) (by omega)
    refine ⟨r, a', s', Ev.step (fun k => ?_) he, by omega, by omega, by omega⟩
    have c1 : 1 + y.size ≤ 9223372036854775807 := by omega
    have c2 : x.size + ((⟨#[47]⟩ : ByteArray) ++ y).size ≤ 9223372036854775807 := by omega
    simp only [spec_l1Cur_topic.l0, hd1, if_true, e, Option.bind_some, c1, c2, hw]
theorem topic_ok (c : List Int) (hc : Bytes c) (a s : Int) (h0 : 0 ≤ a) (h1 : a < 4611686018427387500) :
    ∃ (r : ByteArray) (a' s' : Int), Ev (fun k => spec_l1Cur_topic.f k c a s) (r, a', s') ∧ r.size ≤ 200 ∧ a ≤ a' ∧ a' ≤ a + 60 := by
  obtain ⟨r, a1, s1, e, p, q, m, n⟩ := pick_ok c hc a s 3 h0 (by omega) (by omega)
  obtain ⟨d, rfl⟩ : ∃ d : Nat, r = (d : Int) := ⟨r.toNat, by omega⟩
  have hw : wrap64 (1 + (d : Int)) = ((d + 1 : Nat) : Int) := by rw [wrap_in (by omega) (by omega)]; omega
  have e0 : (⟨#[]⟩ : ByteArray).size = 0 := rfl
  obtain ⟨y, a', s', he, hr, ha, hb⟩ := topic_loop c hc (d + 1) (⟨#[]⟩ : ByteArray) a1 s1 (by omega) (by omega) (by omega) (by omega)
  refine ⟨y, a', s', ?_, by omega, by omega, by omega⟩
  simp only [spec_l1Cur_topic.f, e, Option.bind_some, hw]
  exact he
theorem one_ok (c : List Int) (hc : Bytes c) (a s n : Int) (h0 : 0 ≤ a) (h1 : a < 4611686018427387900) (hn : n < 9223372036854775808) :
    ∃ (b : Bool) (a' s' : Int), spec_l1Cur_one.f c a s n = some (b, a', s') ∧ a ≤ a' ∧ a' ≤ a + 2 := by
  obtain ⟨r, a1, s1, e, p, q, m1, m2⟩ := pick_ok c hc a s n h0 h1 hn
  exact ⟨(r == 0), a1, s1, by simp only [spec_l1Cur_one.f, e, Option.bind_some], m1, m2⟩
theorem draw_resolve (c : List Int) (hc : Bytes c) : ∃ p : ByteArray × ByteArray, Ev (fun k => spec_DrawResolveTopic.f k c) p ∧ p.1.size ≤ 1048576 ∧ p.2.size ≤ 1048576 := by
  obtain ⟨y, a1, s1, he, h3, h4, h5⟩ := topic_ok c hc 0 0 (by omega) (by omega)
  obtain ⟨b, a2, s2, e2, m2, n2⟩ := one_ok c hc a1 s1 6 (by omega) (by omega) (by omega)
  have go : ∀ x : ByteArray, x.size ≤ 200 → ∃ p : ByteArray × ByteArray, Ev (fun k => spec_DrawResolveTopic.j0 k x c a2 s2) p ∧ p.1.size ≤ 1048576 ∧ p.2.size ≤ 1048576 := by
    intro x hx
    obtain ⟨z, a3, s3, he3, h6, h7, h8⟩ := topic_ok c hc a2 s2 (by omega) (by omega)
    obtain ⟨r, a4, s4, e4, p4, q4, m4, n4⟩ := pick_ok c hc a3 s3 4 (by omega) (by omega) (by omega)
    by_cases g0 : r = 0
    · refine ⟨(x, (⟨#[126]⟩ : ByteArray) ++ z), Ev.next ?_, by show x.size ≤ _; omega, by show ((⟨#[126]⟩ : ByteArray) ++ z).size ≤ _; rw [bsize_app]; have : (⟨#[126]⟩ : ByteArray).size = 1 := rfl; omega⟩
      simp only [spec_DrawResolveTopic.j0]
      refine Ev.bind he3 ?_
      have c1 : 1 + z.size ≤ 9223372036854775807 := by omega
      simp only [e4, Option.bind_some, g0, if_true, c1]
      exact Ev.now _
    · by_cases g1 : r = 1
      · have g10 : ¬ ((1 : Int) = 0) := by decide
        by_cases hz : (z.size : Int) > 0
        · refine ⟨(x, z.extract 1 z.size), Ev.next ?_, by show x.size ≤ _; omega, by show (z.extract 1 z.size).size ≤ _; rw [bsize_ext]; omega⟩
          simp only [spec_DrawResolveTopic.j0]
          refine Ev.bind he3 ?_
          have c1 : 1 ≤ (z.size : Int) := by omega
          simp only [e4, Option.bind_some, g1, g10, if_true, if_false, hz, c1]
          exact Ev.now _
        · refine ⟨(x, z), Ev.next ?_, by show x.size ≤ _; omega, by show z.size ≤ _; omega⟩
          simp only [spec_DrawResolveTopic.j0]
          refine Ev.bind he3 ?_
          simp only [e4, Option.bind_some, g1, g10, if_true, if_false, hz]
          exact Ev.now _
      · refine ⟨(x, z), Ev.next ?_, by show x.size ≤ _; omega, by show z.size ≤ _; omega⟩
        simp only [spec_DrawResolveTopic.j0]
        refine Ev.bind he3 ?_
        simp only [e4, Option.bind_some, g0, g1, if_false]
        exact Ev.now _
  cases b with
  | true =>
    obtain ⟨p, hp, h6, h7⟩ := go (⟨#[]⟩ : ByteArray) (by show 0 ≤ 200; omega)
    refine ⟨p, ?_, h6, h7⟩
    simp only [spec_DrawResolveTopic.f]
    refine Ev.bind he ?_
    simp only [e2, Option.bind_some, if_true]
    exact hp
  | false =>
    obtain ⟨p, hp, h6, h7⟩ := go y h3
    refine ⟨p, ?_, h6, h7⟩
    simp only [spec_DrawResolveTopic.f]
    refine Ev.bind he ?_
    simp only [e2, Option.bind_some, Bool.false_eq_true, if_false]
    exact hp
theorem draw_loop (c : List Int) (hc : Bytes c) (t : ByteArray) (l : List ByteArray) (hl : l.length ≤ 1000) (hs : ∀ x ∈ l, x.size ≤ 200) : ∀ (d i : Nat) (x : ByteArray) (a s : Int), i + d = l.length → x.size ≤ 300 * i → 0 ≤ a → a + 4 * d < 4611686018427387400 →
    ∃ p : ByteArray × ByteArray, Ev (fun k => spec_DrawTopicFits.l0 k t x l (l.length : Int) (i : Int) c a s) p ∧ p.1.size ≤ 300 * l.length ∧ p.2 = t := by
  intro d
  induction d with
  | zero =>
    intro i x a s hi hx h0 h1
    refine ⟨(x, t), Ev.next ⟨0, fun k _ => ?_⟩, by show x.size ≤ _; omega, rfl⟩
    have c0 : ¬ ((i : Int) < (l.length : Int)) := by omega
    simp only [spec_DrawTopicFits.l0, c0, if_false]
  | succ d ih =>
    intro i x a s hi hx h0 h1
    have hil : i < l.length := by omega
    have c0 : (i : Int) < (l.length : Int) := by omega
    have c1 : (0 : Int) ≤ (i : Int) := by omega
    have e : wrap64 ((i : Int) + 1) = ((i + 1 : Nat) : Int) := wrap_succ i (by omega)
    obtain ⟨r, a1, s1, e1, p1, q1, m1, n1⟩ := pick_ok c hc a s 6 h0 (by omega) (by omega)
    have hz := hs (rdOf ByteArray.empty l (i : Int)) (by rw [rdOf_get _ _ _ hil]; exact List.getElem_mem hil)
    obtain ⟨z, hzz⟩ : ∃ z, rdOf ByteArray.empty l (i : Int) = z := ⟨_, rfl⟩
    rw [hzz] at hz
    have sz1 : ((⟨#[47]⟩ : ByteArray) ++ z).size = 1 + z.size := by rw [bsize_app]; rfl
    have f1 : 1 + z.size ≤ 9223372036854775807 := by omega
    have f2 : x.size + ((⟨#[47]⟩ : ByteArray) ++ z).size ≤ 9223372036854775807 := by omega
    have f3 : x.size + 2 ≤ 9223372036854775807 := by omega
    have f4 : x.size + 3 ≤ 9223372036854775807 := by omega
    have szx : (x ++ (⟨#[47, 42, 42]⟩ : ByteArray)).size = x.size + 3 := by rw [bsize_app]; rfl
    have f5 : (x ++ (⟨#[47, 42, 42]⟩ : ByteArray)).size + ((⟨#[47]⟩ : ByteArray) ++ z).size ≤ 9223372036854775807 := by omega
    have f6 : 1 + 1 ≤ 9223372036854775807 := by decide
    have f7 : 1 + 2 ≤ 9223372036854775807 := by decide
    have k1 : ¬ ((1 : Int) = 0) := by decide
    have k2 : ¬ ((2 : Int) = 0) := by decide
    have k3 : ¬ ((2 : Int) = 1) := by decide
    have k4 : ¬ ((3 : Int) = 0) := by decide
    have k5 : ¬ ((3 : Int) = 1) := by decide
    have k6 : ¬ ((3 : Int) = 2) := by decide
    have sy1 : (x ++ ((⟨#[47]⟩ : ByteArray) ++ (⟨#[42]⟩ : ByteArray))).size = x.size + 2 := by rw [bsize_app, bsize_app]; rfl
    have sy2 : (x ++ ((⟨#[47]⟩ : ByteArray) ++ (⟨#[42, 42]⟩ : ByteArray))).size = x.size + 3 := by rw [bsize_app, bsize_app]; rfl
    have sy3 : ((x ++ (⟨#[47, 42, 42]⟩ : ByteArray)) ++ ((⟨#[47]⟩ : ByteArray) ++ z)).size = x.size + 3 + (1 + z.size) := by rw [bsize_app, szx, sz1]
    have sy4 : (x ++ ((⟨#[47]⟩ : ByteArray) ++ z)).size = x.size + (1 + z.size) := by rw [bsize_app, sz1]
    by_cases g0 : r = 0
    · obtain ⟨p, hp, h6, h7⟩ := ih (i + 1) _ a1 s1 (by omega) (show (x ++ ((⟨#[47]⟩ : ByteArray) ++ (⟨#[42]⟩ : ByteArray))).size ≤ _ by omega) (by omega) (by omega)
      refine ⟨p, Ev.step (fun k => ?_) hp, h6, h7⟩
      simp only [spec_DrawTopicFits.l0, c0, c1, e, e1, hzz, Option.bind_some, if_true, if_false, g0, f6, f3]
    by_cases g1 : r = 1
    · obtain ⟨p, hp, h6, h7⟩ := ih (i + 1) _ a1 s1 (by omega) (show (x ++ ((⟨#[47]⟩ : ByteArray) ++ (⟨#[42, 42]⟩ : ByteArray))).size ≤ _ by omega) (by omega) (by omega)
      refine ⟨p, Ev.step (fun k => ?_) hp, h6, h7⟩
      simp only [spec_DrawTopicFits.l0, c0, c1, e, e1, hzz, Option.bind_some, if_true, if_false, g1, k1, f7, f4]
    by_cases g2 : r = 2
    · obtain ⟨p, hp, h6, h7⟩ := ih (i + 1) _ a1 s1 (by omega) (show ((x ++ (⟨#[47, 42, 42]⟩ : ByteArray)) ++ ((⟨#[47]⟩ : ByteArray) ++ z)).size ≤ _ by omega) (by omega) (by omega)
      refine ⟨p, Ev.step (fun k => ?_) hp, h6, h7⟩
      simp only [spec_DrawTopicFits.l0, c0, c1, e, e1, hzz, Option.bind_some, if_true, if_false, g2, k2, k3, f1, f4, f5]
    by_cases g3 : r = 3
    · obtain ⟨b, a2, s2, e2, m2, n2⟩ := one_ok c hc a1 s1 3 (by omega) (by omega) (by omega)
      cases b with
      | true =>
        obtain ⟨p, hp, h6, h7⟩ := ih (i + 1) x a2 s2 (by omega) (by omega) (by omega) (by omega)
        refine ⟨p, Ev.step (fun k => ?_) hp, h6, h7⟩
        simp only [spec_DrawTopicFits.l0, c0, c1, e, e1, e2, hzz, Option.bind_some, if_true, if_false, g3, k4, k5, k6]
      | false =>
        obtain ⟨p, hp, h6, h7⟩ := ih (i + 1) _ a2 s2 (by omega) (show (x ++ ((⟨#[47]⟩ : ByteArray) ++ z)).size ≤ _ by omega) (by omega) (by omega)
        refine ⟨p, Ev.step (fun k => ?_) hp, h6, h7⟩
        simp only [spec_DrawTopicFits.l0, c0, c1, e, e1, e2, hzz, Option.bind_some, if_true, if_false, Bool.false_eq_true, g3, k4, k5, k6, f1, f2]
    · obtain ⟨p, hp, h6, h7⟩ := ih (i + 1) _ a1 s1 (by omega) (show (x ++ ((⟨#[47]⟩ : ByteArray) ++ z)).size ≤ _ by omega) (by omega) (by omega)
      refine ⟨p, Ev.step (fun k => ?_) hp, h6, h7⟩
      simp only [spec_DrawTopicFits.l0, c0, c1, e, e1, hzz, Option.bind_some, if_true, if_false, g0, g1, g2, g3, f1, f2]
theorem draw_fits (c : List Int) (hc : Bytes c) : ∃ p : ByteArray × ByteArray, Ev (fun k => spec_DrawTopicFits.f k c) p ∧ p.1.size ≤ 1048576 ∧ p.2.size ≤ 1048576 := by
  obtain ⟨y, a1, s1, he, h3, h4, h5⟩ := topic_ok c hc 0 0 (by omega) (by omega)
  obtain ⟨b, a2, s2, e2, m2, n2⟩ := one_ok c hc a1 s1 4 (by omega) (by omega) (by omega)
  cases b with
  | true =>
    obtain ⟨z, a3, s3, he3, h6, h7, h8⟩ := topic_ok c hc a2 s2 (by omega) (by omega)
    refine ⟨(z, y), ?_, by show z.size ≤ _; omega, by show y.size ≤ _; omega⟩
    simp only [spec_DrawTopicFits.f]
    refine Ev.bind he ?_
    simp only [e2, Option.bind_some, if_true]
    exact Ev.bind he3 (Ev.now _)
  | false =>
    have hpl := parts_length y
    obtain ⟨p, hp, h6, h7⟩ := draw_loop c hc y (partsB y) (by omega) (fun x hx => Nat.le_trans (parts_size y x hx) h3) (partsB y).length 0 (⟨#[]⟩ : ByteArray) a2 s2 (by omega) (by show 0 ≤ _; omega) (by omega) (by omega)
    refine ⟨p, ?_, by omega, by rw [h7]; omega⟩
    simp only [spec_DrawTopicFits.f]
    refine Ev.bind he ?_
    simp only [e2, Option.bind_some, Bool.false_eq_true, if_false]
    refine Ev.bind (spec_parts y (by omega)) ?_
    exact hp

theorem pieces_join : ∀ (d : Nat) (t : ByteArray), t.size ≤ d → Lib.join ((piecesOf t).map (·.data.toList)) [47] = t.data.toList := by
  intro d
  induction d with
  | zero =>
    intro t ht
    have hl : t.data.toList = [] := List.length_eq_zero_iff.1 (by rw [← size_list]; omega)
    rw [pieces_none t (by rw [hl]; simp)]
    simp [Lib.join]
  | succ d ih =>
    intro t ht
    by_cases hm : (47 : UInt8) ∈ t.data.toList
    · obtain ⟨u1, bs, e, hn⟩ := List.eq_append_cons_of_mem hm
      have hj : u1.length < t.size := by rw [size_list, e, List.length_append, List.length_cons]; omega
      have hj2 : u1.length < t.data.toList.length := by rw [← size_list]; exact hj
      have hg : t.data.toList[u1.length] = 47 := by
        have : t.data.toList[u1.length]? = some 47 := by rw [e, List.getElem?_append_right (Nat.le_refl _), Nat.sub_self]; rfl
        rw [List.getElem?_eq_getElem hj2] at this
        exact Option.some.inj this
      have htk : t.data.toList.take u1.length = u1 := by rw [e, List.take_left']; rfl
      rw [pieces_hit t u1.length hj hg (by rw [htk]; exact hn)]
      have hsz : (t.extract (u1.length + 1) t.size).size = t.size - (u1.length + 1) := by rw [bsize_ext]; omega
      have h := ih (t.extract (u1.length + 1) t.size) (by omega)
      have hp := pieces_pos (t.extract (u1.length + 1) t.size)
      obtain ⟨y, r, hyr⟩ : ∃ y r, piecesOf (t.extract (u1.length + 1) t.size) = y :: r := by
        cases hq : piecesOf (t.extract (u1.length + 1) t.size) with
        | nil => rw [hq] at hp; simp at hp
        | cons y r => exact ⟨y, r, rfl⟩
      rw [hyr] at h ⊢
      rw [List.map_cons, join_cons_list] at h
      rw [List.map_cons, List.map_cons, join_cons_list, List.map_cons, List.flatten_cons]
      have e1 : (t.extract 0 u1.length).data.toList = u1 := by rw [ext_list, List.drop_zero, Nat.sub_zero, htk]
      have e2 : (t.extract (u1.length + 1) t.size).data.toList = bs := by
        rw [ext_list, e]
        have : (u1 ++ 47 :: bs).drop (u1.length + 1) = bs := by
          rw [List.drop_append]
          simp
        rw [this, List.take_of_length_le]
        rw [size_list, e, List.length_append, List.length_cons]; omega
      rw [e2] at h
      rw [e1]
      conv => rhs; rw [e, ← h]
      simp
    · rw [pieces_none t hm]
      simp [Lib.join]
theorem part_no_star (x : ByteArray) (h : partB x = true) : st x = x := by
  have h1 : 1 ≤ x.size ∧ ¬ bt x 0 < 97 := by
    unfold partB at h
    split at h
    · cases h
    · split at h
      · cases h
      · split at h
        · cases h
        · rename_i g1 g2 g3
          exact ⟨by omega, g3⟩
  have hl : 0 < x.data.toList.length := by rw [← size_list]; omega
  have hb := bt_list x 0 (by omega)
  have hne : ∀ r : List UInt8, x.toList ≠ 42 :: r := fun r e => by
    rw [ByteArray.toList_eq] at e
    have h2 : x.data.toList[0]? = some 42 := by rw [e]; rfl
    rw [List.getElem?_eq_getElem hl] at h2
    have h3 := Option.some.inj h2
    have h4 : bt x 0 = 42 := by
      show bt x ((0 : Nat) : Int) = 42
      rw [hb, h3]
      rfl
    omega
  unfold st
  rw [if_neg (hne []), if_neg (hne [42])]
theorem good_parts (s : ByteArray) (h : goodB s = true) : (partsB s).length ≠ 0 ∧ ∀ x ∈ partsB s, partB x = true := by
  unfold goodB at h
  split at h
  · cases h
  · split at h
    · cases h
    · split at h
      · rename_i g1 g2 g3
        refine ⟨g2, fun x hx => ?_⟩
        obtain ⟨i, hi, rfl⟩ := List.getElem_of_mem hx
        have := (range_all.1 g3) i hi
        rw [rdOf_get _ _ _ hi] at this
        exact this
      · cases h
theorem plain_self (s : ByteArray) (h : goodB s = true) : plainOf (partsB s) = s := by
  obtain ⟨h0, hb⟩ := good_slash s h
  obtain ⟨hp, hall⟩ := good_parts s h
  have hm : (((⟨#[]⟩ : ByteArray) :: partsB s).map st) = (⟨#[]⟩ : ByteArray) :: partsB s := by
    rw [List.map_cons]
    have e : (st ⟨#[]⟩) = ⟨#[]⟩ := by unfold st; rw [ByteArray.toList_eq]; rfl
    rw [e]
    congr 1
    conv => rhs; rw [← List.map_id (partsB s)]
    exact List.map_congr_left (fun x hx => part_no_star x (hall x hx))
  rw [← join_plain, hm, ← pieces_slash s h0 hb]
  refine ba_ext ?_
  rw [joinOf_list]
  exact pieces_join s.size s (Nat.le_refl _)
theorem F_self : ∀ p : List ByteArray, (∀ x ∈ p, st x = x) → F p p = true
  | [], _ => rfl
  | x :: p, h => by
    have hx := h x List.mem_cons_self
    have hne : ¬ x.toList = ([42, 42] : List UInt8) := fun e => by
      unfold st at hx
      rw [if_neg (by rw [e]; simp), if_pos e] at hx
      rw [← hx, ByteArray.toList_eq] at e
      simp at e
    rw [F_one x p _ hne]
    simp only [Fm, or_true, if_true]
    exact F_self p (fun y hy => h y (List.mem_cons_of_mem _ hy))
theorem topic_self (r : ByteArray) (h : goodB r = true) : topicB r r = true := by
  obtain ⟨hp, hall⟩ := good_parts r h
  unfold topicB
  rw [if_pos h, if_neg hp, plain_self r h, if_pos h]
  exact F_self _ (fun x hx => part_no_star x (hall x hx))
theorem stars_parts : partsB (⟨#[47, 42, 42]⟩ : ByteArray) = [(⟨#[42, 42]⟩ : ByteArray)] := by
  have e0 : ¬ (⟨#[47, 42, 42]⟩ : ByteArray).size = 0 := by decide
  have e1 : bt (⟨#[47, 42, 42]⟩ : ByteArray) 0 = 47 := by decide
  have e2 : (⟨#[47, 42, 42]⟩ : ByteArray).extract 1 (⟨#[47, 42, 42]⟩ : ByteArray).size = (⟨#[42, 42]⟩ : ByteArray) := by
    refine ba_ext ?_
    rw [ext_list]
    rfl
  unfold partsB
  rw [if_neg e0, if_pos e1, e2]
  exact pieces_none _ (by decide)
theorem slash_a : goodB (⟨#[47, 97]⟩ : ByteArray) = true := by
  have e0 : ¬ (⟨#[47, 97]⟩ : ByteArray).size = 0 := by decide
  have e1 : bt (⟨#[47, 97]⟩ : ByteArray) 0 = 47 := by decide
  have e2 : (⟨#[47, 97]⟩ : ByteArray).extract 1 (⟨#[47, 97]⟩ : ByteArray).size = (⟨#[97]⟩ : ByteArray) := by
    refine ba_ext ?_
    rw [ext_list]
    rfl
  have hp : partsB (⟨#[47, 97]⟩ : ByteArray) = [(⟨#[97]⟩ : ByteArray)] := by
    unfold partsB
    rw [if_neg e0, if_pos e1, e2]
    exact pieces_none _ (by decide)
  unfold goodB
  rw [hp]
  decide
theorem topic_stars (r : ByteArray) (h : goodB r = true) : topicB (⟨#[47, 42, 42]⟩ : ByteArray) r = true := by
  unfold topicB
  rw [if_pos h, stars_parts, if_neg (by decide)]
  have e : plainOf [(⟨#[42, 42]⟩ : ByteArray)] = (⟨#[47, 97]⟩ : ByteArray) := by
    refine ba_ext ?_
    show ([(⟨#[42, 42]⟩ : ByteArray)].foldl plainStep ⟨#[]⟩).data.toList = _
    rw [plain_list]
    have e3 : st (⟨#[42, 42]⟩ : ByteArray) = ⟨#[97]⟩ := by unfold st; rw [ByteArray.toList_eq]; rfl
    simp only [List.map_cons, List.map_nil, e3]
    rfl
  rw [e, if_pos slash_a, F_any _ _ _ (by rw [ByteArray.toList_eq]), List.any_eq_true]
  refine ⟨(partsB r).length, by rw [List.mem_range]; omega, ?_⟩
  rw [F_nil, List.drop_length]
  rfl
theorem resolve_good (a n : ByteArray) (h : (resolveB a n).size ≠ 0) : goodB (resolveB a n) = true := by
  have ok : ∀ s : ByteArray, (okName s).size ≠ 0 → goodB (okName s) = true := fun s hs => by
    unfold okName at hs ⊢
    split
    · assumption
    · rename_i g
      rw [if_neg g] at hs
      exact absurd rfl hs
  unfold resolveB at h ⊢
  split
  · rename_i g
    rw [if_pos g] at h
    exact absurd rfl h
  · rename_i g
    rw [if_neg g] at h
    split
    · rename_i g2
      rw [if_pos g2] at h
      exact absurd rfl h
    · rename_i g2
      rw [if_neg g2] at h
      unfold resB at h ⊢
      split
      · rename_i g3
        rw [if_pos g3] at h
        exact ok _ h
      · rename_i g3
        rw [if_neg g3] at h
        split
        · rename_i g4
          rw [if_pos g4] at h
          exact ok _ h
        · rename_i g4
          rw [if_neg g4] at h
          split
          · rename_i g5
            rw [if_pos g5] at h
            exact ok _ h
          · rename_i g5
            rw [if_neg g5] at h
            exact ok _ h
theorem FnTopics : laws_FnTopics.Pure := by
  intro c m _ _ hc _ _ hm
  by_cases h1 : (c.length : Int) > 1048576
  · exact ⟨1, by simp [laws_FnTopics.f, laws_FnTopics.j0, h1]⟩
  by_cases h2 : (m.length : Int) > 1048576
  · exact ⟨1, by simp [laws_FnTopics.f, laws_FnTopics.j0, h1, h2]⟩
  have bytes : ∀ l : List Int, (∀ x ∈ l, (Lit.int .u8 x).wf = true) → Bytes l := fun l hl x hx => by
    have := hl x hx
    simp only [Lit.wf, IntKind.min, IntKind.max, IntKind.signed, IntKind.bits, Bool.and_eq_true, decide_eq_true_eq] at this
    simp at this
    omega
  obtain ⟨p, hp, hp1, hp2⟩ := draw_resolve c (bytes c hc)
  obtain ⟨q, hq, hq1, hq2⟩ := draw_fits m (bytes m hm)
  refine Ev.rounds (g := fun k => laws_FnTopics.f k c m) ?_
  simp only [laws_FnTopics.f, h1, h2, if_false, decide_false]
  refine Ev.next ?_
  simp only [laws_FnTopics.j0, Bool.false_eq_true, if_false]
  refine Ev.bind hp ?_
  refine Ev.bind (impl_res p.1 p.2 hp1) ?_
  refine Ev.bind (spec_res p.1 p.2 hp1) ?_
  simp only [if_true]
  by_cases h0 : (resolveB p.1 p.2).toList = ([] : List UInt8)
  · simp only [h0, if_true]
    refine Ev.next ⟨0, fun k _ => ?_⟩
    simp only [laws_FnTopics.j1, Bool.false_eq_true, if_false, h0, if_true]
  · have hne : (resolveB p.1 p.2).size ≠ 0 := fun e => h0 ((list_nil _).2 e)
    have hg := resolve_good p.1 p.2 hne
    have hsm := good_small _ hg
    simp only [h0, if_false]
    refine Ev.bind (impl_good (resolveB p.1 p.2) (by omega)) ?_
    simp only [hg, Bool.not_true]
    refine Ev.next ?_
    simp only [laws_FnTopics.j1, Bool.false_eq_true, if_false, h0]
    refine Ev.bind hq ?_
    refine Ev.bind (impl_topic (resolveB p.1 p.2) (resolveB p.1 p.2) (by omega) (by omega)) ?_
    simp only [topic_self _ hg, if_true]
    refine Ev.bind (impl_topic (⟨#[47, 42, 42]⟩ : ByteArray) (resolveB p.1 p.2) (by decide) (by omega)) ?_
    simp only [topic_stars _ hg, if_true]
    refine Ev.bind (impl_topic q.1 q.2 hq1 hq2) ?_
    refine Ev.bind (spec_topic q.1 q.2 hq1 hq2) ?_
    refine ⟨0, fun k _ => ?_⟩
    simp

end Go.Proofs.YtmlejakajcmbdaaDoor.Pure
