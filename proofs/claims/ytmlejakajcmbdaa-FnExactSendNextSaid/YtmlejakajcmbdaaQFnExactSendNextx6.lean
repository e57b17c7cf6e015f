-- Written by this session's own program for the law FnExactSendNext; it began as the print's text.
import Derived.Test.YtmlejakajcmbdaaQFnExactSendNextx0
import Derived.Test.YtmlejakajcmbdaaQFnExactSendNextx1
import Derived.Test.YtmlejakajcmbdaaQFnExactSendNextx2
import Derived.Test.YtmlejakajcmbdaaQFnExactSendNextx3
import Derived.Test.YtmlejakajcmbdaaQFnExactSendNextx4
import Derived.Test.YtmlejakajcmbdaaQFnExactSendNextx5
namespace Go.Proofs.Ytmlejakajcmbdaa.PFnExactSendNext
open Go.RowKit Go.Proofs.YtmlejakajcmbdaaW.PrintWords Go.Proofs.YtmlejakajcmbdaaW.PrintLast Go.Proofs.YtmlejakajcmbdaaW.PrintMore
attribute [local go_sem] max2_int min2_int max_two min_two max_three min_three max_four min_four   -- for this text's walks alone
set_option linter.unusedVariables false
set_option linter.unusedSimpArgs false

/-! ### laws_FnExactSendNext: function 7 -/
mutual
def laws_FnExactSendNext.j0 : Nat → Int → Bool → Bool → Bool → List Int → Int → Int → Int → Int → List Int → Int → Int → List Int → Int → Int → Int → Int → List Int → Int → Int → Option (Bool)
  | 0, _, _, _, _, _, _, _, _, _, _, _, _, _, _, _, _, _, _, _, _ => none
  | k + 1, x1, x8, x12, x55, x185000, x185001, x185002, x200000, x200001, x201000, x201001, x201002, x207000, x207001, x207002, x216000, x216001, x217000, x217001, x217002 => if x55 = true then (some false) else ((laws_toSender.f k x185000 x185001 x185002).bind fun bt219 => ((laws_eqSender.f k x207000 x207001 x207002 bt219.1 bt219.2.1 bt219.2.2).bind fun t224 => (if t224 = true then ((laws_markSender.f k x207000 x207001 x207002 1).bind fun bt225 => (if bt225.1 < 0 then (laws_FnExactSendNext.j1 k x1 x8 true x185000 x185001 x185002 x200000 x200001 x201000 x201001 x201002 x217000 x217001 x217002) else ((laws_eqParcel.f x216000 x216001 x200000 x200001).bind fun t227 => (if t227 = true then ((laws_eqSender.f k x217000 x217001 x217002 x201000 x201001 x201002).bind fun t228 => (if t228 = true then (laws_FnExactSendNext.j1 k x1 x8 (x12 != x8) x185000 x185001 x185002 x200000 x200001 x201000 x201001 x201002 x217000 x217001 x217002) else (laws_FnExactSendNext.j1 k x1 x8 true x185000 x185001 x185002 x200000 x200001 x201000 x201001 x201002 x217000 x217001 x217002))) else (laws_FnExactSendNext.j1 k x1 x8 true x185000 x185001 x185002 x200000 x200001 x201000 x201001 x201002 x217000 x217001 x217002))))) else (some false))))
def laws_FnExactSendNext.j1 : Nat → Int → Bool → Bool → List Int → Int → Int → Int → Int → List Int → Int → Int → List Int → Int → Int → Option (Bool)
  | 0, _, _, _, _, _, _, _, _, _, _, _, _, _, _ => none
  | k + 1, x1, x8, x82, x185000, x185001, x185002, x200000, x200001, x201000, x201001, x201002, x217000, x217001, x217002 => if x82 = true then (some false) else ((laws_markSender.f k x217000 x217001 x217002 1).bind fun bt229 => ((laws_heldSender.f k bt229.2 x217001 x217002 1).bind fun t231 => (if t231 < 0 then (some false) else (if t231 = bt229.1 then ((laws_toSender.f k x185000 x185001 x185002).bind fun bt232 => ((impl_SendNext.f k bt232.1 bt232.2.1 bt232.2.2 x1).bind fun bt237 => ((laws_eqParcel.f bt237.1 bt237.2.1 x200000 x200001).bind fun t247 => (if t247 = true then ((laws_eqSender.f k bt237.2.2.1 bt237.2.2.2.1 bt237.2.2.2.2.1 x201000 x201001 x201002).bind fun t248 => (if t248 = true then (laws_FnExactSendNext.j2 k bt229.1 (bt237.2.2.2.2.2 != x8) bt229.2 x217001 x217002) else (laws_FnExactSendNext.j2 k bt229.1 true bt229.2 x217001 x217002))) else (laws_FnExactSendNext.j2 k bt229.1 true bt229.2 x217001 x217002))))) else (some false)))))
def laws_FnExactSendNext.j2 : Nat → Int → Bool → List Int → Int → Int → Option (Bool)
  | 0, _, _, _, _, _ => none
  | k + 1, x14, x116, x217000, x217001, x217002 => if x116 = true then (some false) else ((laws_heldSender.f k x217000 x217001 x217002 1).bind fun t249 => (if t249 < 0 then (some false) else (if t249 = x14 then (some true) else (some false))))
end
def laws_FnExactSendNext.f (k : Nat) (l0_0 : List Int) (a0_1 : Int) (a0_2 : Int) (a1 : Int) : Option (Bool) := (laws_szSender.f l0_0 a0_1 a0_2 1048576).bind fun t185 => (if t185 < 0 then (some true) else ((laws_toSender.f k l0_0 a0_1 a0_2).bind fun bt186 => ((spec_SendNext.f k bt186.1 bt186.2.1 bt186.2.2 a1).bind fun bt191 => ((laws_toSender.f k l0_0 a0_1 a0_2).bind fun bt201 => ((impl_SendNext.f k bt201.1 bt201.2.1 bt201.2.2 a1).bind fun bt207 => ((laws_eqParcel.f bt207.1 bt207.2.1 bt191.1 bt191.2.1).bind fun t217 => (if t217 = true then ((laws_eqSender.f k bt207.2.2.1 bt207.2.2.2.1 bt207.2.2.2.2.1 bt191.2.2.1 bt191.2.2.2.1 bt191.2.2.2.2.1).bind fun t218 => (if t218 = true then (laws_FnExactSendNext.j0 k a1 bt191.2.2.2.2.2 bt207.2.2.2.2.2 (bt207.2.2.2.2.2 != bt191.2.2.2.2.2) l0_0 a0_1 a0_2 bt191.1 bt191.2.1 bt191.2.2.1 bt191.2.2.2.1 bt191.2.2.2.2.1 bt201.1 bt201.2.1 bt201.2.2 bt207.1 bt207.2.1 bt207.2.2.1 bt207.2.2.2.1 bt207.2.2.2.2.1) else (laws_FnExactSendNext.j0 k a1 bt191.2.2.2.2.2 bt207.2.2.2.2.2 true l0_0 a0_1 a0_2 bt191.1 bt191.2.1 bt191.2.2.1 bt191.2.2.2.1 bt191.2.2.2.2.1 bt201.1 bt201.2.1 bt201.2.2 bt207.1 bt207.2.1 bt207.2.2.1 bt207.2.2.2.1 bt207.2.2.2.2.1))) else (laws_FnExactSendNext.j0 k a1 bt191.2.2.2.2.2 bt207.2.2.2.2.2 true l0_0 a0_1 a0_2 bt191.1 bt191.2.1 bt191.2.2.1 bt191.2.2.2.1 bt191.2.2.2.2.1 bt201.1 bt201.2.1 bt201.2.2 bt207.1 bt207.2.1 bt207.2.2.1 bt207.2.2.2.1 bt207.2.2.2.2.1))))))))
theorem laws_FnExactSendNext.mono_l : ∀ k, (∀ y0 y1 y2 y3 y4 y5 y6 y7 y8 y9 y10 y11 y12 y13 y14 y15 y16 y17 y18 y19, LeO (laws_FnExactSendNext.j0 k y0 y1 y2 y3 y4 y5 y6 y7 y8 y9 y10 y11 y12 y13 y14 y15 y16 y17 y18 y19) (laws_FnExactSendNext.j0 (k + 1) y0 y1 y2 y3 y4 y5 y6 y7 y8 y9 y10 y11 y12 y13 y14 y15 y16 y17 y18 y19)) ∧ (∀ y0 y1 y2 y3 y4 y5 y6 y7 y8 y9 y10 y11 y12 y13, LeO (laws_FnExactSendNext.j1 k y0 y1 y2 y3 y4 y5 y6 y7 y8 y9 y10 y11 y12 y13) (laws_FnExactSendNext.j1 (k + 1) y0 y1 y2 y3 y4 y5 y6 y7 y8 y9 y10 y11 y12 y13)) ∧ (∀ y0 y1 y2 y3 y4, LeO (laws_FnExactSendNext.j2 k y0 y1 y2 y3 y4) (laws_FnExactSendNext.j2 (k + 1) y0 y1 y2 y3 y4))
  | 0 => ⟨fun _ _ _ _ _ _ _ _ _ _ _ _ _ _ _ _ _ _ _ _ r h => by simp [laws_FnExactSendNext.j0] at h, fun _ _ _ _ _ _ _ _ _ _ _ _ _ _ r h => by simp [laws_FnExactSendNext.j1] at h, fun _ _ _ _ _ r h => by simp [laws_FnExactSendNext.j2] at h⟩
  | k + 1 => by
    obtain ⟨ih0, ih1, ih2⟩ := laws_FnExactSendNext.mono_l k
    refine ⟨?_, ?_, ?_⟩
    · intro y0 y1 y2 y3 y4 y5 y6 y7 y8 y9 y10 y11 y12 y13 y14 y15 y16 y17 y18 y19
      unfold laws_FnExactSendNext.j0
      repeat' first
      | (with_reducible exact ih0 _ _ _ _ _ _ _ _ _ _ _ _ _ _ _ _ _ _ _ _)
      | (with_reducible exact ih1 _ _ _ _ _ _ _ _ _ _ _ _ _ _)
      | (with_reducible exact ih2 _ _ _ _ _)
      | (with_reducible exact impl_SendNext.mono _ _ _ _ _)
      | (with_reducible exact laws_eqSender.mono _ _ _ _ _ _ _)
      | (with_reducible exact laws_heldSender.mono _ _ _ _ _)
      | (with_reducible exact laws_markSender.mono _ _ _ _ _)
      | (with_reducible exact laws_toSender.mono _ _ _ _)
      | (with_reducible exact spec_SendNext.mono _ _ _ _ _)
      | (with_reducible exact LeO.refl _)
      | (with_reducible exact LeO.none _)
      | (with_reducible refine LeO.ite ?_ ?_)
      | (with_reducible refine LeO.bind ?_ (fun _ => ?_))
      | exact ih0 _ _ _ _ _ _ _ _ _ _ _ _ _ _ _ _ _ _ _ _
      | exact ih1 _ _ _ _ _ _ _ _ _ _ _ _ _ _
      | exact ih2 _ _ _ _ _
      | exact impl_SendNext.mono _ _ _ _ _
      | exact laws_eqSender.mono _ _ _ _ _ _ _
      | exact laws_heldSender.mono _ _ _ _ _
      | exact laws_markSender.mono _ _ _ _ _
      | exact laws_toSender.mono _ _ _ _
      | exact spec_SendNext.mono _ _ _ _ _
      | exact LeO.none _
      | refine LeO.ite ?_ ?_
      | refine LeO.bind ?_ (fun _ => ?_)
    · intro y0 y1 y2 y3 y4 y5 y6 y7 y8 y9 y10 y11 y12 y13
      unfold laws_FnExactSendNext.j1
      repeat' first
      | (with_reducible exact ih0 _ _ _ _ _ _ _ _ _ _ _ _ _ _ _ _ _ _ _ _)
      | (with_reducible exact ih1 _ _ _ _ _ _ _ _ _ _ _ _ _ _)
      | (with_reducible exact ih2 _ _ _ _ _)
      | (with_reducible exact impl_SendNext.mono _ _ _ _ _)
      | (with_reducible exact laws_eqSender.mono _ _ _ _ _ _ _)
      | (with_reducible exact laws_heldSender.mono _ _ _ _ _)
      | (with_reducible exact laws_markSender.mono _ _ _ _ _)
      | (with_reducible exact laws_toSender.mono _ _ _ _)
      | (with_reducible exact spec_SendNext.mono _ _ _ _ _)
      | (with_reducible exact LeO.refl _)
      | (with_reducible exact LeO.none _)
      | (with_reducible refine LeO.ite ?_ ?_)
      | (with_reducible refine LeO.bind ?_ (fun _ => ?_))
      | exact ih0 _ _ _ _ _ _ _ _ _ _ _ _ _ _ _ _ _ _ _ _
      | exact ih1 _ _ _ _ _ _ _ _ _ _ _ _ _ _
      | exact ih2 _ _ _ _ _
      | exact impl_SendNext.mono _ _ _ _ _
      | exact laws_eqSender.mono _ _ _ _ _ _ _
      | exact laws_heldSender.mono _ _ _ _ _
      | exact laws_markSender.mono _ _ _ _ _
      | exact laws_toSender.mono _ _ _ _
      | exact spec_SendNext.mono _ _ _ _ _
      | exact LeO.none _
      | refine LeO.ite ?_ ?_
      | refine LeO.bind ?_ (fun _ => ?_)
    · intro y0 y1 y2 y3 y4
      unfold laws_FnExactSendNext.j2
      repeat' first
      | (with_reducible exact ih0 _ _ _ _ _ _ _ _ _ _ _ _ _ _ _ _ _ _ _ _)
      | (with_reducible exact ih1 _ _ _ _ _ _ _ _ _ _ _ _ _ _)
      | (with_reducible exact ih2 _ _ _ _ _)
      | (with_reducible exact impl_SendNext.mono _ _ _ _ _)
      | (with_reducible exact laws_eqSender.mono _ _ _ _ _ _ _)
      | (with_reducible exact laws_heldSender.mono _ _ _ _ _)
      | (with_reducible exact laws_markSender.mono _ _ _ _ _)
      | (with_reducible exact laws_toSender.mono _ _ _ _)
      | (with_reducible exact spec_SendNext.mono _ _ _ _ _)
      | (with_reducible exact LeO.refl _)
      | (with_reducible exact LeO.none _)
      | (with_reducible refine LeO.ite ?_ ?_)
      | (with_reducible refine LeO.bind ?_ (fun _ => ?_))
      | exact ih0 _ _ _ _ _ _ _ _ _ _ _ _ _ _ _ _ _ _ _ _
      | exact ih1 _ _ _ _ _ _ _ _ _ _ _ _ _ _
      | exact ih2 _ _ _ _ _
      | exact impl_SendNext.mono _ _ _ _ _
      | exact laws_eqSender.mono _ _ _ _ _ _ _
      | exact laws_heldSender.mono _ _ _ _ _
      | exact laws_markSender.mono _ _ _ _ _
      | exact laws_toSender.mono _ _ _ _
      | exact spec_SendNext.mono _ _ _ _ _
      | exact LeO.none _
      | refine LeO.ite ?_ ?_
      | refine LeO.bind ?_ (fun _ => ?_)
theorem laws_FnExactSendNext.mono : ∀ a0 a1 a2 a3 k, LeO (laws_FnExactSendNext.f k a0 a1 a2 a3) (laws_FnExactSendNext.f (k + 1) a0 a1 a2 a3) := by
  intro a0 a1 a2 a3 k
  obtain ⟨ih0, ih1, ih2⟩ := laws_FnExactSendNext.mono_l k
  unfold laws_FnExactSendNext.f
  repeat' first
      | (with_reducible exact ih0 _ _ _ _ _ _ _ _ _ _ _ _ _ _ _ _ _ _ _ _)
      | (with_reducible exact ih1 _ _ _ _ _ _ _ _ _ _ _ _ _ _)
      | (with_reducible exact ih2 _ _ _ _ _)
      | (with_reducible exact impl_SendNext.mono _ _ _ _ _)
      | (with_reducible exact laws_eqSender.mono _ _ _ _ _ _ _)
      | (with_reducible exact laws_heldSender.mono _ _ _ _ _)
      | (with_reducible exact laws_markSender.mono _ _ _ _ _)
      | (with_reducible exact laws_toSender.mono _ _ _ _)
      | (with_reducible exact spec_SendNext.mono _ _ _ _ _)
      | (with_reducible exact LeO.refl _)
      | (with_reducible exact LeO.none _)
      | (with_reducible refine LeO.ite ?_ ?_)
      | (with_reducible refine LeO.bind ?_ (fun _ => ?_))
      | exact ih0 _ _ _ _ _ _ _ _ _ _ _ _ _ _ _ _ _ _ _ _
      | exact ih1 _ _ _ _ _ _ _ _ _ _ _ _ _ _
      | exact ih2 _ _ _ _ _
      | exact impl_SendNext.mono _ _ _ _ _
      | exact laws_eqSender.mono _ _ _ _ _ _ _
      | exact laws_heldSender.mono _ _ _ _ _
      | exact laws_markSender.mono _ _ _ _ _
      | exact laws_toSender.mono _ _ _ _
      | exact spec_SendNext.mono _ _ _ _ _
      | exact LeO.none _
      | refine LeO.ite ?_ ?_
      | refine LeO.bind ?_ (fun _ => ?_)

end Go.Proofs.Ytmlejakajcmbdaa.PFnExactSendNext
