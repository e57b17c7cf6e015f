/- The law 'FnExactRunUrgent' holds for every input: the printed walk joined with its plain statement. No condition. -/
import Derived.Test.YtdbcoojibbboiaaRows
import Derived.Test.YtdbcoojibbboiaaQFnExactRunUrgentx7
import Derived.Test.YtdbcoojibbboiaaPureFnExactRunUrgent
import Derived.Test.YtdbcoojibbboiaaOpens
import Derived.WalkKit
import Derived.ProofKit
import Derived.OpenShut
import Derived.ShutString
import Derived.ChangeOld
import Derived.Below
import Derived.SizedLaws
namespace Go.Proofs.Ytdbcoojibbboiaa.fnExactRunUrgent
open Go.ChangeShapes Go.WideShapes Go.ChangeAt Go.RowKit Go.Proofs.Ytdbcoojibbboiaa.PFnExactRunUrgent Go.Proofs.Ytdbcoojibbboiaa.Opens Go.Proofs.YtdbcoojibbboiaaW.PrintWords
open Go.ChangeMaps (open_string shut_string)
set_option linter.unusedVariables false
set_option linter.unusedSimpArgs false
theorem own : ownKnob Try.prog.godebug = none := by kernel_rfl
theorem laidOut : laidOutB Try.prog = true := by kernel_rfl
theorem opens0 {H : Type} {enc : TypeId × Value → H} {W : World} : Opens enc Try.prog W 34 (Kd.slice 65 k65) (fun (y : List (S65)) => ((∀ (zy : S65), zy ∈ y → ((Lit.int .i64 zy.f0).wf = true ∧ (Lit.int .i64 zy.f1).wf = true ∧ (Lit.int .i64 zy.f2).wf = true)) ∧ y.length * 24 ≤ 140737488351232)) :=
  (o_slice (B := 24) Try.underlying34 (by kernel_rfl) (by kernel_rfl) (o_struct (ts := [3, 3, 3]) (fun x : S65 => (x.f0, x.f1, x.f2)) (fun p => ⟨p.1, p.2.1, p.2.2⟩) (fun _ => rfl) Try.underlying65 (by kernel_rfl) (by kernel_rfl) (by kernel_rfl) (f_cons (o_int (k := .i64) Try.underlying3 (by kernel_rfl)) (f_cons (o_int (k := .i64) Try.underlying3 (by kernel_rfl)) (f_one (o_int (k := .i64) Try.underlying3 (by kernel_rfl)))))))
theorem opens1 {H : Type} {enc : TypeId × Value → H} {W : World} : Opens enc Try.prog W 24 (Kd.slice 3 (Kd.int .i64)) (fun (y : List Int) => ((∀ (zy : Int), zy ∈ y → (Lit.int .i64 zy).wf = true) ∧ y.length * 8 ≤ 140737488351232)) :=
  (o_slice (B := 8) Try.underlying24 (by kernel_rfl) (by kernel_rfl) (o_int (k := .i64) Try.underlying3 (by kernel_rfl)))
set_option maxRecDepth 100000 in
theorem lifted (os : Os) (started : os.Started) (H : Type) (enc : TypeId × Value → H) :
    ReturnsInHanded {} Try.checked os 5 .any (Rows.fnExactRunUrgentSpec.pre6 enc Try.prog Try.f5 Rows.fnExactRunUrgentRow.domain false) (Rows.fnExactRunUrgentSpec.post enc Try.prog Try.f5 false true false false) := by
  refine returnsInHanded_of_change_sized (C := Try.checked) own started (by kernel_rfl) Try.func5
    (ChangeSpec.witness6 (enc := enc) (C := Try.checked) false ⟨#[], #[.slice none 0 0, .slice none 0 0, .int .i64 0], []⟩ 8 (by kernel_rfl) (by kernel_rfl) (by kernel_rfl) (by kernel_rfl)) ?_
  intro W base args ds gs before hval0 hW hcnd hsz0 _
  have hsz : (DataW.weightsEach Try.prog (Try.f5.params.toList ++ Rows.fnExactRunUrgentSpec.plain.varTypes Try.prog) (ds ++ gs)).all (· ≤ reachBytes) = true := hsz0
  have hval : ∀ (j : Nat) t v, Try.f5.params[j]? = some t → args[j]? = some v → Value.okWide Try.prog W .any base t v := hval0
  have hW' := hW
  obtain ⟨p, q, hA0, hV, rfl, hfz, hnd⟩ := hW
  have hA : DataW.TrodAll enc Try.prog W 0 (fun _ => true) true Try.f5.params.toList args.toList ds p := hA0
  rw [Try.params5] at hA hval hsz
  obtain ⟨v0, vs0, d0, ds0, p0, q0, hargs, rfl, rfl, h0, r0⟩ := trodAll_cons hA
  obtain ⟨v1, vs1, d1, ds1, p1, q1, rfl, rfl, rfl, h1, r1⟩ := trodAll_cons r0
  obtain ⟨v2, vs2, d2, ds2, p2, q2, rfl, rfl, rfl, h2, r2⟩ := trodAll_cons r1
  obtain ⟨rfl, rfl, rfl⟩ := trodAll_nil r2
  obtain rfl : args = #[v0, v1, v2] := by cases args; simp_all
  obtain ⟨rfl, rfl⟩ := trodVars_none hV
  have k0 := h0
  have lt0 : ∀ x ∈ p0, x.block < W.heap.size := by obtain ⟨m, hm⟩ := k0; exact DataW.trod_lt m _ _ _ hm
  obtain ⟨y0, hK0, wf0⟩ := arg_opens (opens0 (enc := enc) (W := W)) hsz (j := 0) (t := 34) rfl rfl h0
  obtain ⟨A0, len0, cap0, rfl⟩ := okWide_slice Try.underlying34 (hval 0 34 v0 rfl rfl)
  obtain ⟨B0, c0, he0, hc0, hr0⟩ := hK0
  simp only [Value.cells, List.cons.injEq, Value.slice.injEq, and_true] at he0
  obtain ⟨rfl, rfl, rfl⟩ := he0
  have k1 := h1
  have lt1 : ∀ x ∈ p1, x.block < W.heap.size := by obtain ⟨m, hm⟩ := k1; exact DataW.trod_lt m _ _ _ hm
  obtain ⟨y1, hK1, wf1⟩ := arg_opens (opens1 (enc := enc) (W := W)) hsz (j := 1) (t := 24) rfl rfl h1
  obtain ⟨A1, len1, cap1, rfl⟩ := okWide_slice Try.underlying24 (hval 1 24 v1 rfl rfl)
  obtain ⟨B1, c1, he1, hc1, hr1⟩ := hK1
  simp only [Value.cells, List.cons.injEq, Value.slice.injEq, and_true] at he1
  obtain ⟨rfl, rfl, rfl⟩ := he1
  obtain ⟨a2, rfl, rfl, rfl, w2⟩ := open_int Try.underlying3 (hval 2 3 v2 rfl rfl) h2
  clear hA0 hval0 hsz0 hsz
  obtain ⟨k, hp⟩ := Pure.FnExactRunUrgent y0 y1 a2 wf0 wf1 w2
  refine (laws_FnExactRunUrgent.calls k A0 cap0 y0 A1 cap1 y1 a2 true W hr0 hc0 hr1 hc1 hp).mono fun e W' ⟨he, bel⟩ => ?_
  subst he
  exact ⟨_, rfl, _, _, _, [], _, [], hW', trodAll_mk1 (shut_bool Try.underlying4 _), (trodAll_cons_mk (Below.trod laidOut (by kernel_rfl) (of_decide_eq_true (by kernel_rfl)) k0 bel lt0) (trodAll_cons_mk (Below.trod laidOut (by kernel_rfl) (of_decide_eq_true (by kernel_rfl)) k1 bel lt1) (trodAll_cons_mk (shut_int Try.underlying3 w2) trodAll_mk0))), rfl, bel.frame _, fun h => by cases h⟩
theorem over : Rows.fnExactRunUrgentRow.holds Try.pinned (OpenSpec.ofChange Rows.fnExactRunUrgentSpec) :=
  OpenClaim.holds_of_wide 5 Try.f5 rfl rfl rfl rfl rfl rfl rfl ⟨rfl, rfl, rfl, rfl, rfl⟩ rfl rfl rfl rfl rfl (by kernel_rfl) Try.func5 (by kernel_rfl)
    (of_decide_eq_true (by kernel_rfl)) (by unfold Func.isWrapper; first | (rw [if_pos (by decide +kernel)]; kernel_rfl) | (rw [if_neg (by decide +kernel)]; exact ⟨rfl, rfl⟩))
    (fun os started H enc _ => lifted os started H enc)
theorem proved : Rows.FnExactRunUrgentSaid := over
#print axioms proved
end Go.Proofs.Ytdbcoojibbboiaa.fnExactRunUrgent
namespace Go.Proofs.Ytdbcoojibbboiaa
/-- The row, under a short name, for the claim. -/
theorem fnExactRunUrgent_holds : Rows.FnExactRunUrgentSaid := fnExactRunUrgent.proved
end Go.Proofs.Ytdbcoojibbboiaa
