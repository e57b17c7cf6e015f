/- The law 'FnExactTalkAll' holds for every input: the printed walk joined with its plain statement. No condition. -/
import Derived.Test.YtmlejakajcmbdaaRows
import Derived.Test.YtmlejakajcmbdaaQFnExactTalkAllx10
import Derived.Test.YtmlejakajcmbdaaPureFnExactTalkAll
import Derived.Test.YtmlejakajcmbdaaOpens
import Derived.WalkKit
import Derived.ProofKit
import Derived.OpenShut
import Derived.ShutString
import Derived.ChangeOld
import Derived.Below
import Derived.SizedLaws
namespace Go.Proofs.Ytmlejakajcmbdaa.fnExactTalkAll
open Go.ChangeShapes Go.WideShapes Go.ChangeAt Go.RowKit Go.Proofs.Ytmlejakajcmbdaa.PFnExactTalkAll Go.Proofs.Ytmlejakajcmbdaa.Opens Go.Proofs.YtmlejakajcmbdaaW.PrintWords
open Go.ChangeMaps (open_string shut_string)
set_option linter.unusedVariables false
set_option linter.unusedSimpArgs false
theorem own : ownKnob Try.prog.godebug = none := by kernel_rfl
theorem laidOut : laidOutB Try.prog = true := by kernel_rfl
theorem opens0 {H : Type} {enc : TypeId × Value → H} {W : World} : Opens enc Try.prog W 22 (Kd.slice 3 (Kd.int .i64)) (fun (y : List Int) => ((∀ (zy : Int), zy ∈ y → (Lit.int .i64 zy).wf = true) ∧ y.length * 8 ≤ 140737488351232)) :=
  (o_slice (B := 8) Try.underlying22 (by kernel_rfl) (by kernel_rfl) (o_int (k := .i64) Try.underlying3 (by kernel_rfl)))
theorem opens2 {H : Type} {enc : TypeId × Value → H} {W : World} : Opens enc Try.prog W 22 (Kd.slice 3 (Kd.int .i64)) (fun (y : List Int) => ((∀ (zy : Int), zy ∈ y → (Lit.int .i64 zy).wf = true) ∧ y.length * 8 ≤ 140737488351232)) :=
  (o_slice (B := 8) Try.underlying22 (by kernel_rfl) (by kernel_rfl) (o_int (k := .i64) Try.underlying3 (by kernel_rfl)))
theorem opens3 {H : Type} {enc : TypeId × Value → H} {W : World} : Opens enc Try.prog W 22 (Kd.slice 3 (Kd.int .i64)) (fun (y : List Int) => ((∀ (zy : Int), zy ∈ y → (Lit.int .i64 zy).wf = true) ∧ y.length * 8 ≤ 140737488351232)) :=
  (o_slice (B := 8) Try.underlying22 (by kernel_rfl) (by kernel_rfl) (o_int (k := .i64) Try.underlying3 (by kernel_rfl)))
set_option maxRecDepth 100000 in
theorem lifted (os : Os) (started : os.Started) (H : Type) (enc : TypeId × Value → H) :
    ReturnsInHanded {} Try.checked os 9 .any (Rows.fnExactTalkAllSpec.pre6 enc Try.prog Try.f9 Rows.fnExactTalkAllRow.domain false) (Rows.fnExactTalkAllSpec.post enc Try.prog Try.f9 false true false false) := by
  refine returnsInHanded_of_change_sized (C := Try.checked) own started (by kernel_rfl) Try.func9
    (ChangeSpec.witness6 (enc := enc) (C := Try.checked) false ⟨#[], #[.slice none 0 0, .int .i64 0, .slice none 0 0, .slice none 0 0, .int .i64 0], []⟩ 8 (by kernel_rfl) (by kernel_rfl) (by kernel_rfl) (by kernel_rfl)) ?_
  intro W base args ds gs before hval0 hW hcnd hsz0 _
  have hsz : (DataW.weightsEach Try.prog (Try.f9.params.toList ++ Rows.fnExactTalkAllSpec.plain.varTypes Try.prog) (ds ++ gs)).all (· ≤ reachBytes) = true := hsz0
  have hval : ∀ (j : Nat) t v, Try.f9.params[j]? = some t → args[j]? = some v → Value.okWide Try.prog W .any base t v := hval0
  have hW' := hW
  obtain ⟨p, q, hA0, hV, rfl, hfz, hnd⟩ := hW
  have hA : DataW.TrodAll enc Try.prog W 0 (fun _ => true) true Try.f9.params.toList args.toList ds p := hA0
  rw [Try.params9] at hA hval hsz
  obtain ⟨v0, vs0, d0, ds0, p0, q0, hargs, rfl, rfl, h0, r0⟩ := trodAll_cons hA
  obtain ⟨v1, vs1, d1, ds1, p1, q1, rfl, rfl, rfl, h1, r1⟩ := trodAll_cons r0
  obtain ⟨v2, vs2, d2, ds2, p2, q2, rfl, rfl, rfl, h2, r2⟩ := trodAll_cons r1
  obtain ⟨v3, vs3, d3, ds3, p3, q3, rfl, rfl, rfl, h3, r3⟩ := trodAll_cons r2
  obtain ⟨v4, vs4, d4, ds4, p4, q4, rfl, rfl, rfl, h4, r4⟩ := trodAll_cons r3
  obtain ⟨rfl, rfl, rfl⟩ := trodAll_nil r4
  obtain rfl : args = #[v0, v1, v2, v3, v4] := by cases args; simp_all
  obtain ⟨rfl, rfl⟩ := trodVars_none hV
  have k0 := h0
  have lt0 : ∀ x ∈ p0, x.block < W.heap.size := by obtain ⟨m, hm⟩ := k0; exact DataW.trod_lt m _ _ _ hm
  obtain ⟨y0, hK0, wf0⟩ := arg_opens (opens0 (enc := enc) (W := W)) hsz (j := 0) (t := 22) rfl rfl h0
  obtain ⟨A0, len0, cap0, rfl⟩ := okWide_slice Try.underlying22 (hval 0 22 v0 rfl rfl)
  obtain ⟨B0, c0, he0, hc0, hr0⟩ := hK0
  simp only [Value.cells, List.cons.injEq, Value.slice.injEq, and_true] at he0
  obtain ⟨rfl, rfl, rfl⟩ := he0
  obtain ⟨a1, rfl, rfl, rfl, w1⟩ := open_int Try.underlying3 (hval 1 3 v1 rfl rfl) h1
  have k2 := h2
  have lt2 : ∀ x ∈ p2, x.block < W.heap.size := by obtain ⟨m, hm⟩ := k2; exact DataW.trod_lt m _ _ _ hm
  obtain ⟨y2, hK2, wf2⟩ := arg_opens (opens2 (enc := enc) (W := W)) hsz (j := 2) (t := 22) rfl rfl h2
  obtain ⟨A2, len2, cap2, rfl⟩ := okWide_slice Try.underlying22 (hval 2 22 v2 rfl rfl)
  obtain ⟨B2, c2, he2, hc2, hr2⟩ := hK2
  simp only [Value.cells, List.cons.injEq, Value.slice.injEq, and_true] at he2
  obtain ⟨rfl, rfl, rfl⟩ := he2
  have k3 := h3
  have lt3 : ∀ x ∈ p3, x.block < W.heap.size := by obtain ⟨m, hm⟩ := k3; exact DataW.trod_lt m _ _ _ hm
  obtain ⟨y3, hK3, wf3⟩ := arg_opens (opens3 (enc := enc) (W := W)) hsz (j := 3) (t := 22) rfl rfl h3
  obtain ⟨A3, len3, cap3, rfl⟩ := okWide_slice Try.underlying22 (hval 3 22 v3 rfl rfl)
  obtain ⟨B3, c3, he3, hc3, hr3⟩ := hK3
  simp only [Value.cells, List.cons.injEq, Value.slice.injEq, and_true] at he3
  obtain ⟨rfl, rfl, rfl⟩ := he3
  obtain ⟨a4, rfl, rfl, rfl, w4⟩ := open_int Try.underlying3 (hval 4 3 v4 rfl rfl) h4
  clear hA0 hval0 hsz0 hsz
  obtain ⟨k, hp⟩ := Pure.FnExactTalkAll y0 a1 y2 y3 a4 wf0 w1 wf2 wf3 w4
  refine (laws_FnExactTalkAll.calls k A0 cap0 y0 a1 A2 cap2 y2 A3 cap3 y3 a4 true W hr0 hc0 hr2 hc2 hr3 hc3 hp).mono fun e W' ⟨he, bel⟩ => ?_
  subst he
  exact ⟨_, rfl, _, _, _, [], _, [], hW', trodAll_mk1 (shut_bool Try.underlying4 _), (trodAll_cons_mk (Below.trod laidOut (by kernel_rfl) (of_decide_eq_true (by kernel_rfl)) k0 bel lt0) (trodAll_cons_mk (shut_int Try.underlying3 w1) (trodAll_cons_mk (Below.trod laidOut (by kernel_rfl) (of_decide_eq_true (by kernel_rfl)) k2 bel lt2) (trodAll_cons_mk (Below.trod laidOut (by kernel_rfl) (of_decide_eq_true (by kernel_rfl)) k3 bel lt3) (trodAll_cons_mk (shut_int Try.underlying3 w4) trodAll_mk0))))), rfl, bel.frame _, fun h => by cases h⟩
theorem over : Rows.fnExactTalkAllRow.holds Try.pinned (OpenSpec.ofChange Rows.fnExactTalkAllSpec) :=
  OpenClaim.holds_of_wide 9 Try.f9 rfl rfl rfl rfl rfl rfl rfl ⟨rfl, rfl, rfl, rfl, rfl⟩ rfl rfl rfl rfl rfl (by kernel_rfl) Try.func9 (by kernel_rfl)
    (of_decide_eq_true (by kernel_rfl)) (by unfold Func.isWrapper; first | (rw [if_pos (by decide +kernel)]; kernel_rfl) | (rw [if_neg (by decide +kernel)]; exact ⟨rfl, rfl⟩))
    (fun os started H enc _ => lifted os started H enc)
theorem proved : Rows.FnExactTalkAllSaid := over
#print axioms proved
end Go.Proofs.Ytmlejakajcmbdaa.fnExactTalkAll
namespace Go.Proofs.Ytmlejakajcmbdaa
/-- The row, under a short name, for the claim. -/
theorem fnExactTalkAll_holds : Rows.FnExactTalkAllSaid := fnExactTalkAll.proved
end Go.Proofs.Ytmlejakajcmbdaa
