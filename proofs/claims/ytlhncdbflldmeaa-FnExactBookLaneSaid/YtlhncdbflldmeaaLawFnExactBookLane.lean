/- The law 'FnExactBookLane' holds for every input: the printed walk joined with its plain statement. No condition. -/
import Derived.Test.YtlhncdbflldmeaaRows
import Derived.Test.YtlhncdbflldmeaaQFnExactBookLanex6
import Derived.Test.YtlhncdbflldmeaaPureFnExactBookLane
import Derived.Test.YtlhncdbflldmeaaOpens
import Derived.WalkKit
import Derived.ProofKit
import Derived.OpenShut
import Derived.ShutString
import Derived.ChangeOld
import Derived.Below
import Derived.SizedLaws
namespace Go.Proofs.Ytlhncdbflldmeaa.fnExactBookLane
open Go.ChangeShapes Go.WideShapes Go.ChangeAt Go.RowKit Go.Proofs.Ytlhncdbflldmeaa.PFnExactBookLane Go.Proofs.Ytlhncdbflldmeaa.Opens Go.Proofs.YtlhncdbflldmeaaW.PrintWords
open Go.ChangeMaps (open_string shut_string)
set_option linter.unusedVariables false
set_option linter.unusedSimpArgs false
theorem own : ownKnob Try.prog.godebug = none := by kernel_rfl
theorem laidOut : laidOutB Try.prog = true := by kernel_rfl
theorem opens0 {H : Type} {enc : TypeId × Value → H} {W : World} : Opens enc Try.prog W 45 (Kd.slice 47 k47) (fun (y : List (S47)) => ((∀ (zy : S47), zy ∈ y → ((Lit.int .i64 zy.f0).wf = true ∧ (Lit.int .i64 zy.f1).wf = true ∧ (Lit.int .i64 zy.f2).wf = true ∧ (Lit.int .i64 zy.f3).wf = true)) ∧ y.length * 32 ≤ 140737488351232)) :=
  (o_slice (B := 32) Try.underlying45 (by kernel_rfl) (by kernel_rfl) (o_struct (ts := [3, 3, 3, 3]) (fun x : S47 => (x.f0, x.f1, x.f2, x.f3)) (fun p => ⟨p.1, p.2.1, p.2.2.1, p.2.2.2⟩) (fun _ => rfl) Try.underlying47 (by kernel_rfl) (by kernel_rfl) (by kernel_rfl) (f_cons (o_int (k := .i64) Try.underlying3 (by kernel_rfl)) (f_cons (o_int (k := .i64) Try.underlying3 (by kernel_rfl)) (f_cons (o_int (k := .i64) Try.underlying3 (by kernel_rfl)) (f_one (o_int (k := .i64) Try.underlying3 (by kernel_rfl))))))))
theorem opens1 {H : Type} {enc : TypeId × Value → H} {W : World} : Opens enc Try.prog W 47 k47 (fun (y : S47) => ((Lit.int .i64 y.f0).wf = true ∧ (Lit.int .i64 y.f1).wf = true ∧ (Lit.int .i64 y.f2).wf = true ∧ (Lit.int .i64 y.f3).wf = true)) :=
  (o_struct (ts := [3, 3, 3, 3]) (fun x : S47 => (x.f0, x.f1, x.f2, x.f3)) (fun p => ⟨p.1, p.2.1, p.2.2.1, p.2.2.2⟩) (fun _ => rfl) Try.underlying47 (by kernel_rfl) (by kernel_rfl) (by kernel_rfl) (f_cons (o_int (k := .i64) Try.underlying3 (by kernel_rfl)) (f_cons (o_int (k := .i64) Try.underlying3 (by kernel_rfl)) (f_cons (o_int (k := .i64) Try.underlying3 (by kernel_rfl)) (f_one (o_int (k := .i64) Try.underlying3 (by kernel_rfl)))))))
set_option maxRecDepth 100000 in
theorem lifted (os : Os) (started : os.Started) (H : Type) (enc : TypeId × Value → H) :
    ReturnsInHanded {} Try.checked os 6 .any (Rows.fnExactBookLaneSpec.pre6 enc Try.prog Try.f6 Rows.fnExactBookLaneRow.domain false) (Rows.fnExactBookLaneSpec.post enc Try.prog Try.f6 false true false false) := by
  refine returnsInHanded_of_change_sized (C := Try.checked) own started (by kernel_rfl) Try.func6
    (ChangeSpec.witness6 (enc := enc) (C := Try.checked) false ⟨#[], #[.slice none 0 0, .agg #[.int .i64 0, .int .i64 0, .int .i64 0, .int .i64 0]], []⟩ 8 (by kernel_rfl) (by kernel_rfl) (by kernel_rfl) (by kernel_rfl)) ?_
  intro W base args ds gs before hval0 hW hcnd hsz0 _
  have hsz : (DataW.weightsEach Try.prog (Try.f6.params.toList ++ Rows.fnExactBookLaneSpec.plain.varTypes Try.prog) (ds ++ gs)).all (· ≤ reachBytes) = true := hsz0
  have hval : ∀ (j : Nat) t v, Try.f6.params[j]? = some t → args[j]? = some v → Value.okWide Try.prog W .any base t v := hval0
  have hW' := hW
  obtain ⟨p, q, hA0, hV, rfl, hfz, hnd⟩ := hW
  have hA : DataW.TrodAll enc Try.prog W 0 (fun _ => true) true Try.f6.params.toList args.toList ds p := hA0
  rw [Try.params6] at hA hval hsz
  obtain ⟨v0, vs0, d0, ds0, p0, q0, hargs, rfl, rfl, h0, r0⟩ := trodAll_cons hA
  obtain ⟨v1, vs1, d1, ds1, p1, q1, rfl, rfl, rfl, h1, r1⟩ := trodAll_cons r0
  obtain ⟨rfl, rfl, rfl⟩ := trodAll_nil r1
  obtain rfl : args = #[v0, v1] := by cases args; simp_all
  obtain ⟨rfl, rfl⟩ := trodVars_none hV
  have k0 := h0
  have lt0 : ∀ x ∈ p0, x.block < W.heap.size := by obtain ⟨m, hm⟩ := k0; exact DataW.trod_lt m _ _ _ hm
  obtain ⟨y0, hK0, wf0⟩ := arg_opens (opens0 (enc := enc) (W := W)) hsz (j := 0) (t := 45) rfl rfl h0
  obtain ⟨A0, len0, cap0, rfl⟩ := okWide_slice Try.underlying45 (hval 0 45 v0 rfl rfl)
  obtain ⟨B0, c0, he0, hc0, hr0⟩ := hK0
  simp only [Value.cells, List.cons.injEq, Value.slice.injEq, and_true] at he0
  obtain ⟨rfl, rfl, rfl⟩ := he0
  have k1 := h1
  have lt1 : ∀ x ∈ p1, x.block < W.heap.size := by obtain ⟨m, hm⟩ := k1; exact DataW.trod_lt m _ _ _ hm
  obtain ⟨y1, hK1, wf1⟩ := arg_opens (opens1 (enc := enc) (W := W)) hsz (j := 1) (t := 47) rfl rfl h1
  obtain ⟨cs1, rfl, _⟩ := okWide_struct Try.underlying47 (hval 1 47 v1 rfl rfl)
  have hK1' : k47.K W y1 cs1.toList := hK1
  generalize hl1 : cs1.toList = cl1 at hK1'
  obtain ⟨_, _, rfl, rfl, ⟨_, _, rfl, rfl, ⟨_, _, rfl, rfl, rfl⟩⟩⟩ := hK1'
  obtain rfl := (Array.toList_inj (ys := (#[.int .i64 y1.f0, .int .i64 y1.f1, .int .i64 y1.f2, .int .i64 y1.f3] : Array Value))).1 hl1
  clear hl1
  clear hA0 hval0 hsz0 hsz
  obtain ⟨k, hp⟩ := Pure.FnExactBookLane y0 y1.f0 y1.f1 y1.f2 y1.f3 wf0 (wf1.1) (wf1.2.1) (wf1.2.2.1) (wf1.2.2.2)
  refine (laws_FnExactBookLane.calls k A0 cap0 y0 y1.f0 y1.f1 y1.f2 y1.f3 true W hr0 hc0 hp).mono fun e W' ⟨he, bel⟩ => ?_
  subst he
  exact ⟨_, rfl, _, _, _, [], _, [], hW', trodAll_mk1 (shut_bool Try.underlying4 _), (trodAll_cons_mk (Below.trod laidOut (by kernel_rfl) (of_decide_eq_true (by kernel_rfl)) k0 bel lt0) (trodAll_cons_mk (Below.trod laidOut (by kernel_rfl) (of_decide_eq_true (by kernel_rfl)) k1 bel lt1) trodAll_mk0)), rfl, bel.frame _, fun h => by cases h⟩
theorem over : Rows.fnExactBookLaneRow.holds Try.pinned (OpenSpec.ofChange Rows.fnExactBookLaneSpec) :=
  OpenClaim.holds_of_wide 6 Try.f6 rfl rfl rfl rfl rfl rfl rfl ⟨rfl, rfl, rfl, rfl, rfl⟩ rfl rfl rfl rfl rfl (by kernel_rfl) Try.func6 (by kernel_rfl)
    (of_decide_eq_true (by kernel_rfl)) (by unfold Func.isWrapper; first | (rw [if_pos (by decide +kernel)]; kernel_rfl) | (rw [if_neg (by decide +kernel)]; exact ⟨rfl, rfl⟩))
    (fun os started H enc _ => lifted os started H enc)
theorem proved : Rows.FnExactBookLaneSaid := over
#print axioms proved
end Go.Proofs.Ytlhncdbflldmeaa.fnExactBookLane
namespace Go.Proofs.Ytlhncdbflldmeaa
/-- The row, under a short name, for the claim. -/
theorem fnExactBookLane_holds : Rows.FnExactBookLaneSaid := fnExactBookLane.proved
end Go.Proofs.Ytlhncdbflldmeaa
