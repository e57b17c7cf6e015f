/- The law 'FnExactBestAssign' holds for every input: the printed walk joined with its plain statement. No condition. -/
import Derived.Test.YtllcdmjleohikaaRows
import Derived.Test.YtllcdmjleohikaaQFnExactBestAssignx6
import Derived.Test.YtllcdmjleohikaaPureFnExactBestAssign
import Derived.Test.YtllcdmjleohikaaOpens
import Derived.WalkKit
import Derived.ProofKit
import Derived.OpenShut
import Derived.ShutString
import Derived.ChangeOld
import Derived.Below
import Derived.SizedLaws
namespace Go.Proofs.Ytllcdmjleohikaa.fnExactBestAssign
open Go.ChangeShapes Go.WideShapes Go.ChangeAt Go.RowKit Go.Proofs.Ytllcdmjleohikaa.PFnExactBestAssign Go.Proofs.Ytllcdmjleohikaa.Opens Go.Proofs.YtllcdmjleohikaaW.PrintWords
open Go.ChangeMaps (open_string shut_string)
set_option linter.unusedVariables false
set_option linter.unusedSimpArgs false
theorem own : ownKnob Try.prog.godebug = none := by kernel_rfl
theorem laidOut : laidOutB Try.prog = true := by kernel_rfl
theorem opens0 {H : Type} {enc : TypeId × Value → H} {W : World} : Opens enc Try.prog W 22 (Kd.slice 24 (Kd.slice 3 (Kd.int .i64))) (fun (y : List (List Int)) => ((∀ (zy : List Int), zy ∈ y → ((∀ (zzy : Int), zzy ∈ zy → (Lit.int .i64 zzy).wf = true) ∧ zy.length * 8 ≤ 140737488351232)) ∧ y.length * 24 ≤ 140737488351232)) :=
  (o_slice (B := 24) Try.underlying22 (by kernel_rfl) (by kernel_rfl) (o_slice (B := 8) Try.underlying24 (by kernel_rfl) (by kernel_rfl) (o_int (k := .i64) Try.underlying3 (by kernel_rfl))))
set_option maxRecDepth 100000 in
theorem lifted (os : Os) (started : os.Started) (H : Type) (enc : TypeId × Value → H) :
    ReturnsInHanded {} Try.checked os 3 .any (Rows.fnExactBestAssignSpec.pre6 enc Try.prog Try.f3 Rows.fnExactBestAssignRow.domain false) (Rows.fnExactBestAssignSpec.post enc Try.prog Try.f3 false true false false) := by
  refine returnsInHanded_of_change_sized (C := Try.checked) own started (by kernel_rfl) Try.func3
    (ChangeSpec.witness6 (enc := enc) (C := Try.checked) false ⟨#[], #[.slice none 0 0], []⟩ 8 (by kernel_rfl) (by kernel_rfl) (by kernel_rfl) (by kernel_rfl)) ?_
  intro W base args ds gs before hval0 hW hcnd hsz0 _
  have hsz : (DataW.weightsEach Try.prog (Try.f3.params.toList ++ Rows.fnExactBestAssignSpec.plain.varTypes Try.prog) (ds ++ gs)).all (· ≤ reachBytes) = true := hsz0
  have hval : ∀ (j : Nat) t v, Try.f3.params[j]? = some t → args[j]? = some v → Value.okWide Try.prog W .any base t v := hval0
  have hW' := hW
  obtain ⟨p, q, hA0, hV, rfl, hfz, hnd⟩ := hW
  have hA : DataW.TrodAll enc Try.prog W 0 (fun _ => true) true Try.f3.params.toList args.toList ds p := hA0
  rw [Try.params3] at hA hval hsz
  obtain ⟨v0, vs0, d0, ds0, p0, q0, hargs, rfl, rfl, h0, r0⟩ := trodAll_cons hA
  obtain ⟨rfl, rfl, rfl⟩ := trodAll_nil r0
  obtain rfl : args = #[v0] := by cases args; simp_all
  obtain ⟨rfl, rfl⟩ := trodVars_none hV
  have k0 := h0
  have lt0 : ∀ x ∈ p0, x.block < W.heap.size := by obtain ⟨m, hm⟩ := k0; exact DataW.trod_lt m _ _ _ hm
  obtain ⟨y0, hK0, wf0⟩ := arg_opens (opens0 (enc := enc) (W := W)) hsz (j := 0) (t := 22) rfl rfl h0
  obtain ⟨A0, len0, cap0, rfl⟩ := okWide_slice Try.underlying22 (hval 0 22 v0 rfl rfl)
  obtain ⟨B0, c0, he0, hc0, hr0⟩ := hK0
  simp only [Value.cells, List.cons.injEq, Value.slice.injEq, and_true] at he0
  obtain ⟨rfl, rfl, rfl⟩ := he0
  clear hA0 hval0 hsz0 hsz
  obtain ⟨k, hp⟩ := Pure.FnExactBestAssign y0 wf0
  refine (laws_FnExactBestAssign.calls k A0 cap0 y0 true W hr0 hc0 hp).mono fun e W' ⟨he, bel⟩ => ?_
  subst he
  exact ⟨_, rfl, _, _, _, [], _, [], hW', trodAll_mk1 (shut_bool Try.underlying4 _), (trodAll_cons_mk (Below.trod laidOut (by kernel_rfl) (of_decide_eq_true (by kernel_rfl)) k0 bel lt0) trodAll_mk0), rfl, bel.frame _, fun h => by cases h⟩
theorem over : Rows.fnExactBestAssignRow.holds Try.pinned (OpenSpec.ofChange Rows.fnExactBestAssignSpec) :=
  OpenClaim.holds_of_wide 3 Try.f3 rfl rfl rfl rfl rfl rfl rfl ⟨rfl, rfl, rfl, rfl, rfl⟩ rfl rfl rfl rfl rfl (by kernel_rfl) Try.func3 (by kernel_rfl)
    (of_decide_eq_true (by kernel_rfl)) (by unfold Func.isWrapper; first | (rw [if_pos (by decide +kernel)]; kernel_rfl) | (rw [if_neg (by decide +kernel)]; exact ⟨rfl, rfl⟩))
    (fun os started H enc _ => lifted os started H enc)
theorem proved : Rows.FnExactBestAssignSaid := over
#print axioms proved
end Go.Proofs.Ytllcdmjleohikaa.fnExactBestAssign
namespace Go.Proofs.Ytllcdmjleohikaa
/-- The row, under a short name, for the claim. -/
theorem fnExactBestAssign_holds : Rows.FnExactBestAssignSaid := fnExactBestAssign.proved
end Go.Proofs.Ytllcdmjleohikaa
