/- The law 'FnExactRunBus' holds for every input: the printed walk joined with its plain statement. No condition. -/
import Derived.Test.YtdiibgbekjlmlaaRows
import Derived.Test.YtdiibgbekjlmlaaQFnExactRunBusx13
import Derived.Test.YtdiibgbekjlmlaaPureFnExactRunBus
import Derived.Test.YtdiibgbekjlmlaaOpens
import Derived.WalkKit
import Derived.ProofKit
import Derived.OpenShut
import Derived.ShutString
import Derived.ChangeOld
import Derived.Below
import Derived.SizedLaws
namespace Go.Proofs.Ytdiibgbekjlmlaa.fnExactRunBus
open Go.ChangeShapes Go.WideShapes Go.ChangeAt Go.RowKit Go.Proofs.Ytdiibgbekjlmlaa.PFnExactRunBus Go.Proofs.Ytdiibgbekjlmlaa.Opens Go.Proofs.YtdiibgbekjlmlaaW.PrintWords
open Go.ChangeMaps (open_string shut_string)
set_option linter.unusedVariables false
set_option linter.unusedSimpArgs false
theorem own : ownKnob Try.prog.godebug = none := by kernel_rfl
theorem laidOut : laidOutB Try.prog = true := by kernel_rfl
theorem opens0 {H : Type} {enc : TypeId × Value → H} {W : World} : Opens enc Try.prog W 22 (Kd.slice 41 k41) (fun (y : List (S41)) => ((∀ (zy : S41), zy ∈ y → (((∀ (zzyf0 : S69), zzyf0 ∈ zy.f0 → ((Lit.int .i64 zzyf0.f0).wf = true ∧ ((∀ (zzzyf0f1 : Int), zzzyf0f1 ∈ zzyf0.f1 → (Lit.int .u8 zzzyf0f1).wf = true) ∧ zzyf0.f1.length * 1 ≤ 140737488351232))) ∧ zy.f0.length * 32 ≤ 140737488351232) ∧ (Lit.int .i64 zy.f1).wf = true ∧ (Lit.int .i64 zy.f2).wf = true ∧ True)) ∧ y.length * 48 ≤ 140737488351232)) :=
  (o_slice (B := 48) Try.underlying22 (by kernel_rfl) (by kernel_rfl) (o_struct (ts := [39, 3, 3, 4]) (fun x : S41 => (x.f0, x.f1, x.f2, x.f3)) (fun p => ⟨p.1, p.2.1, p.2.2.1, p.2.2.2⟩) (fun _ => rfl) Try.underlying41 (by kernel_rfl) (by kernel_rfl) (by kernel_rfl) (f_cons (o_slice (B := 32) Try.underlying39 (by kernel_rfl) (by kernel_rfl) (o_struct (ts := [3, 47]) (fun x : S69 => (x.f0, x.f1)) (fun p => ⟨p.1, p.2⟩) (fun _ => rfl) Try.underlying69 (by kernel_rfl) (by kernel_rfl) (by kernel_rfl) (f_cons (o_int (k := .i64) Try.underlying3 (by kernel_rfl)) (f_one (o_slice (B := 1) Try.underlying47 (by kernel_rfl) (by kernel_rfl) (o_int (k := .u8) Try.underlying5 (by kernel_rfl))))))) (f_cons (o_int (k := .i64) Try.underlying3 (by kernel_rfl)) (f_cons (o_int (k := .i64) Try.underlying3 (by kernel_rfl)) (f_one (o_bool Try.underlying4 (by kernel_rfl))))))))
theorem opens3 {H : Type} {enc : TypeId × Value → H} {W : World} : Opens enc Try.prog W 23 (Kd.slice 3 (Kd.int .i64)) (fun (y : List Int) => ((∀ (zy : Int), zy ∈ y → (Lit.int .i64 zy).wf = true) ∧ y.length * 8 ≤ 140737488351232)) :=
  (o_slice (B := 8) Try.underlying23 (by kernel_rfl) (by kernel_rfl) (o_int (k := .i64) Try.underlying3 (by kernel_rfl)))
set_option maxRecDepth 100000 in
theorem lifted (os : Os) (started : os.Started) (H : Type) (enc : TypeId × Value → H) :
    ReturnsInHanded {} Try.checked os 3 .any (Rows.fnExactRunBusSpec.pre6 enc Try.prog Try.f3 Rows.fnExactRunBusRow.domain false) (Rows.fnExactRunBusSpec.post enc Try.prog Try.f3 false true false false) := by
  refine returnsInHanded_of_change_sized (C := Try.checked) own started (by kernel_rfl) Try.func3
    (ChangeSpec.witness6 (enc := enc) (C := Try.checked) false ⟨#[], #[.slice none 0 0, .int .i64 0, .int .i64 0, .slice none 0 0], []⟩ 8 (by kernel_rfl) (by kernel_rfl) (by kernel_rfl) (by kernel_rfl)) ?_
  intro W base args ds gs before hval0 hW hcnd hsz0 _
  have hsz : (DataW.weightsEach Try.prog (Try.f3.params.toList ++ Rows.fnExactRunBusSpec.plain.varTypes Try.prog) (ds ++ gs)).all (· ≤ reachBytes) = true := hsz0
  have hval : ∀ (j : Nat) t v, Try.f3.params[j]? = some t → args[j]? = some v → Value.okWide Try.prog W .any base t v := hval0
  have hW' := hW
  obtain ⟨p, q, hA0, hV, rfl, hfz, hnd⟩ := hW
  have hA : DataW.TrodAll enc Try.prog W 0 (fun _ => true) true Try.f3.params.toList args.toList ds p := hA0
  rw [Try.params3] at hA hval hsz
  obtain ⟨v0, vs0, d0, ds0, p0, q0, hargs, rfl, rfl, h0, r0⟩ := trodAll_cons hA
  obtain ⟨v1, vs1, d1, ds1, p1, q1, rfl, rfl, rfl, h1, r1⟩ := trodAll_cons r0
  obtain ⟨v2, vs2, d2, ds2, p2, q2, rfl, rfl, rfl, h2, r2⟩ := trodAll_cons r1
  obtain ⟨v3, vs3, d3, ds3, p3, q3, rfl, rfl, rfl, h3, r3⟩ := trodAll_cons r2
  obtain ⟨rfl, rfl, rfl⟩ := trodAll_nil r3
  obtain rfl : args = #[v0, v1, v2, v3] := by cases args; simp_all
  obtain ⟨rfl, rfl⟩ := trodVars_none hV
  have k0 := h0
  have lt0 : ∀ x ∈ p0, x.block < W.heap.size := by obtain ⟨m, hm⟩ := k0; exact DataW.trod_lt m _ _ _ hm
  obtain ⟨y0, hK0, wf0⟩ := arg_opens (opens0 (enc := enc) (W := W)) hsz (j := 0) (t := 22) rfl rfl h0
  obtain ⟨A0, len0, cap0, rfl⟩ := okWide_slice Try.underlying22 (hval 0 22 v0 rfl rfl)
  obtain ⟨B0, c0, he0, hc0, hr0⟩ := hK0
  simp only [Value.cells, List.cons.injEq, Value.slice.injEq, and_true] at he0
  obtain ⟨rfl, rfl, rfl⟩ := he0
  obtain ⟨a1, rfl, rfl, rfl, w1⟩ := open_int Try.underlying3 (hval 1 3 v1 rfl rfl) h1
  obtain ⟨a2, rfl, rfl, rfl, w2⟩ := open_int Try.underlying3 (hval 2 3 v2 rfl rfl) h2
  have k3 := h3
  have lt3 : ∀ x ∈ p3, x.block < W.heap.size := by obtain ⟨m, hm⟩ := k3; exact DataW.trod_lt m _ _ _ hm
  obtain ⟨y3, hK3, wf3⟩ := arg_opens (opens3 (enc := enc) (W := W)) hsz (j := 3) (t := 23) rfl rfl h3
  obtain ⟨A3, len3, cap3, rfl⟩ := okWide_slice Try.underlying23 (hval 3 23 v3 rfl rfl)
  obtain ⟨B3, c3, he3, hc3, hr3⟩ := hK3
  simp only [Value.cells, List.cons.injEq, Value.slice.injEq, and_true] at he3
  obtain ⟨rfl, rfl, rfl⟩ := he3
  clear hA0 hval0 hsz0 hsz
  obtain ⟨k, hp⟩ := Pure.FnExactRunBus y0 a1 a2 y3 wf0 w1 w2 wf3
  refine (laws_FnExactRunBus.calls k A0 cap0 y0 a1 a2 A3 cap3 y3 true W hr0 hc0 hr3 hc3 hp).mono fun e W' ⟨he, bel⟩ => ?_
  subst he
  exact ⟨_, rfl, _, _, _, [], _, [], hW', trodAll_mk1 (shut_bool Try.underlying4 _), (trodAll_cons_mk (Below.trod laidOut (by kernel_rfl) (of_decide_eq_true (by kernel_rfl)) k0 bel lt0) (trodAll_cons_mk (shut_int Try.underlying3 w1) (trodAll_cons_mk (shut_int Try.underlying3 w2) (trodAll_cons_mk (Below.trod laidOut (by kernel_rfl) (of_decide_eq_true (by kernel_rfl)) k3 bel lt3) trodAll_mk0)))), rfl, bel.frame _, fun h => by cases h⟩
theorem over : Rows.fnExactRunBusRow.holds Try.pinned (OpenSpec.ofChange Rows.fnExactRunBusSpec) :=
  OpenClaim.holds_of_wide 3 Try.f3 rfl rfl rfl rfl rfl rfl rfl ⟨rfl, rfl, rfl, rfl, rfl⟩ rfl rfl rfl rfl rfl (by kernel_rfl) Try.func3 (by kernel_rfl)
    (of_decide_eq_true (by kernel_rfl)) (by unfold Func.isWrapper; first | (rw [if_pos (by decide +kernel)]; kernel_rfl) | (rw [if_neg (by decide +kernel)]; exact ⟨rfl, rfl⟩))
    (fun os started H enc _ => lifted os started H enc)
theorem proved : Rows.FnExactRunBusSaid := over
#print axioms proved
end Go.Proofs.Ytdiibgbekjlmlaa.fnExactRunBus
namespace Go.Proofs.Ytdiibgbekjlmlaa
/-- The row, under a short name, for the claim. -/
theorem fnExactRunBus_holds : Rows.FnExactRunBusSaid := fnExactRunBus.proved
end Go.Proofs.Ytdiibgbekjlmlaa
