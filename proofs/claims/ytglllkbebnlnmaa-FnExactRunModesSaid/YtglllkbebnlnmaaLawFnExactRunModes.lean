/- The law 'FnExactRunModes' holds for every input: the printed walk joined with its plain statement. No condition. -/
import Derived.Test.YtglllkbebnlnmaaRows
import Derived.Test.YtglllkbebnlnmaaQFnExactRunModesx10
import Derived.Test.YtglllkbebnlnmaaPureFnExactRunModes
import Derived.Test.YtglllkbebnlnmaaOpens
import Derived.WalkKit
import Derived.ProofKit
import Derived.OpenShut
import Derived.ShutString
import Derived.ChangeOld
import Derived.Below
import Derived.SizedLaws
namespace Go.Proofs.Ytglllkbebnlnmaa.fnExactRunModes
open Go.ChangeShapes Go.WideShapes Go.ChangeAt Go.RowKit Go.Proofs.Ytglllkbebnlnmaa.PFnExactRunModes Go.Proofs.Ytglllkbebnlnmaa.Opens Go.Proofs.YtglllkbebnlnmaaW.PrintWords
open Go.ChangeMaps (open_string shut_string)
set_option linter.unusedVariables false
set_option linter.unusedSimpArgs false
theorem own : ownKnob Try.prog.godebug = none := by kernel_rfl
theorem laidOut : laidOutB Try.prog = true := by kernel_rfl
theorem opens0 {H : Type} {enc : TypeId × Value → H} {W : World} : Opens enc Try.prog W 36 (Kd.slice 64 k64) (fun (y : List (S64)) => ((∀ (zy : S64), zy ∈ y → (zy.f0.size ≤ 140737488351232 ∧ zy.f1.size ≤ 140737488351232)) ∧ y.length * 32 ≤ 140737488351232)) :=
  (o_slice (B := 32) Try.underlying36 (by kernel_rfl) (by kernel_rfl) (o_struct (ts := [9, 9]) (fun x : S64 => (x.f0, x.f1)) (fun p => ⟨p.1, p.2⟩) (fun _ => rfl) Try.underlying64 (by kernel_rfl) (by kernel_rfl) (by kernel_rfl) (f_cons (o_string Try.underlying9 (by kernel_rfl)) (f_one (o_string Try.underlying9 (by kernel_rfl))))))
theorem opens1 {H : Type} {enc : TypeId × Value → H} {W : World} : Opens enc Try.prog W 24 (Kd.slice 9 Kd.string) (fun (y : List ByteArray) => ((∀ (zy : ByteArray), zy ∈ y → zy.size ≤ 140737488351232) ∧ y.length * 16 ≤ 140737488351232)) :=
  (o_slice (B := 16) Try.underlying24 (by kernel_rfl) (by kernel_rfl) (o_string Try.underlying9 (by kernel_rfl)))
set_option maxRecDepth 100000 in
theorem lifted (os : Os) (started : os.Started) (H : Type) (enc : TypeId × Value → H) :
    ReturnsInHanded {} Try.checked os 4 .any (Rows.fnExactRunModesSpec.pre6 enc Try.prog Try.f4 Rows.fnExactRunModesRow.domain false) (Rows.fnExactRunModesSpec.post enc Try.prog Try.f4 false true false false) := by
  refine returnsInHanded_of_change_sized (C := Try.checked) own started (by kernel_rfl) Try.func4
    (ChangeSpec.witness6 (enc := enc) (C := Try.checked) false ⟨#[], #[.slice none 0 0, .slice none 0 0], []⟩ 8 (by kernel_rfl) (by kernel_rfl) (by kernel_rfl) (by kernel_rfl)) ?_
  intro W base args ds gs before hval0 hW hcnd hsz0 _
  have hsz : (DataW.weightsEach Try.prog (Try.f4.params.toList ++ Rows.fnExactRunModesSpec.plain.varTypes Try.prog) (ds ++ gs)).all (· ≤ reachBytes) = true := hsz0
  have hval : ∀ (j : Nat) t v, Try.f4.params[j]? = some t → args[j]? = some v → Value.okWide Try.prog W .any base t v := hval0
  have hW' := hW
  obtain ⟨p, q, hA0, hV, rfl, hfz, hnd⟩ := hW
  have hA : DataW.TrodAll enc Try.prog W 0 (fun _ => true) true Try.f4.params.toList args.toList ds p := hA0
  rw [Try.params4] at hA hval hsz
  obtain ⟨v0, vs0, d0, ds0, p0, q0, hargs, rfl, rfl, h0, r0⟩ := trodAll_cons hA
  obtain ⟨v1, vs1, d1, ds1, p1, q1, rfl, rfl, rfl, h1, r1⟩ := trodAll_cons r0
  obtain ⟨rfl, rfl, rfl⟩ := trodAll_nil r1
  obtain rfl : args = #[v0, v1] := by cases args; simp_all
  obtain ⟨rfl, rfl⟩ := trodVars_none hV
  have k0 := h0
  have lt0 : ∀ x ∈ p0, x.block < W.heap.size := by obtain ⟨m, hm⟩ := k0; exact DataW.trod_lt m _ _ _ hm
  obtain ⟨y0, hK0, wf0⟩ := arg_opens (opens0 (enc := enc) (W := W)) hsz (j := 0) (t := 36) rfl rfl h0
  obtain ⟨A0, len0, cap0, rfl⟩ := okWide_slice Try.underlying36 (hval 0 36 v0 rfl rfl)
  obtain ⟨B0, c0, he0, hc0, hr0⟩ := hK0
  simp only [Value.cells, List.cons.injEq, Value.slice.injEq, and_true] at he0
  obtain ⟨rfl, rfl, rfl⟩ := he0
  have k1 := h1
  have lt1 : ∀ x ∈ p1, x.block < W.heap.size := by obtain ⟨m, hm⟩ := k1; exact DataW.trod_lt m _ _ _ hm
  obtain ⟨y1, hK1, wf1⟩ := arg_opens (opens1 (enc := enc) (W := W)) hsz (j := 1) (t := 24) rfl rfl h1
  obtain ⟨A1, len1, cap1, rfl⟩ := okWide_slice Try.underlying24 (hval 1 24 v1 rfl rfl)
  obtain ⟨B1, c1, he1, hc1, hr1⟩ := hK1
  simp only [Value.cells, List.cons.injEq, Value.slice.injEq, and_true] at he1
  obtain ⟨rfl, rfl, rfl⟩ := he1
  clear hA0 hval0 hsz0 hsz
  obtain ⟨k, hp⟩ := Pure.FnExactRunModes y0 y1 wf0 wf1
  refine (laws_FnExactRunModes.calls k A0 cap0 y0 A1 cap1 y1 true W hr0 hc0 hr1 hc1 hp).mono fun e W' ⟨he, bel⟩ => ?_
  subst he
  exact ⟨_, rfl, _, _, _, [], _, [], hW', trodAll_mk1 (shut_bool Try.underlying4 _), (trodAll_cons_mk (Below.trod laidOut (by kernel_rfl) (of_decide_eq_true (by kernel_rfl)) k0 bel lt0) (trodAll_cons_mk (Below.trod laidOut (by kernel_rfl) (of_decide_eq_true (by kernel_rfl)) k1 bel lt1) trodAll_mk0)), rfl, bel.frame _, fun h => by cases h⟩
theorem over : Rows.fnExactRunModesRow.holds Try.pinned (OpenSpec.ofChange Rows.fnExactRunModesSpec) :=
  OpenClaim.holds_of_wide 4 Try.f4 rfl rfl rfl rfl rfl rfl rfl ⟨rfl, rfl, rfl, rfl, rfl⟩ rfl rfl rfl rfl rfl (by kernel_rfl) Try.func4 (by kernel_rfl)
    (of_decide_eq_true (by kernel_rfl)) (by unfold Func.isWrapper; first | (rw [if_pos (by decide +kernel)]; kernel_rfl) | (rw [if_neg (by decide +kernel)]; exact ⟨rfl, rfl⟩))
    (fun os started H enc _ => lifted os started H enc)
theorem proved : Rows.FnExactRunModesSaid := over
#print axioms proved
end Go.Proofs.Ytglllkbebnlnmaa.fnExactRunModes
namespace Go.Proofs.Ytglllkbebnlnmaa
/-- The row, under a short name, for the claim. -/
theorem fnExactRunModes_holds : Rows.FnExactRunModesSaid := fnExactRunModes.proved
end Go.Proofs.Ytglllkbebnlnmaa
