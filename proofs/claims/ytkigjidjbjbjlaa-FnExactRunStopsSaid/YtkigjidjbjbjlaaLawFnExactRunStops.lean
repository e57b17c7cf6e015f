/- The law 'FnExactRunStops' holds for every input: the printed walk joined with its plain statement. No condition. -/
import Derived.Test.YtkigjidjbjbjlaaRows
import Derived.Test.YtkigjidjbjbjlaaQFnExactRunStopsx8
import Derived.Test.YtkigjidjbjbjlaaPureFnExactRunStops
import Derived.Test.YtkigjidjbjbjlaaOpens
import Derived.WalkKit
import Derived.ProofKit
import Derived.OpenShut
import Derived.ShutString
import Derived.ChangeOld
import Derived.Below
import Derived.SizedLaws
namespace Go.Proofs.Ytkigjidjbjbjlaa.fnExactRunStops
open Go.ChangeShapes Go.WideShapes Go.ChangeAt Go.RowKit Go.Proofs.Ytkigjidjbjbjlaa.PFnExactRunStops Go.Proofs.Ytkigjidjbjbjlaa.Opens Go.Proofs.YtkigjidjbjbjlaaW.PrintWords
open Go.ChangeMaps (open_string shut_string)
set_option linter.unusedVariables false
set_option linter.unusedSimpArgs false
theorem own : ownKnob Try.prog.godebug = none := by kernel_rfl
theorem laidOut : laidOutB Try.prog = true := by kernel_rfl
theorem opens0 {H : Type} {enc : TypeId × Value → H} {W : World} : Opens enc Try.prog W 38 (Kd.iso (Kd.pair (Kd.int .i64) (Kd.pair (Kd.int .i64) (Kd.pair (Kd.int .i64) (Kd.pair (Kd.int .i64) (Kd.int .i64))))) id) (fun (y : (Int × Int × Int × Int × Int)) => ((Lit.int .i64 y.1).wf = true ∧ (Lit.int .i64 y.2.1).wf = true ∧ (Lit.int .i64 y.2.2.1).wf = true ∧ (Lit.int .i64 y.2.2.2.1).wf = true ∧ (Lit.int .i64 y.2.2.2.2).wf = true)) :=
  (o_struct (ts := [3, 3, 3, 3, 3]) id id (fun _ => rfl) Try.underlying38 (by kernel_rfl) (by kernel_rfl) (by kernel_rfl) (f_cons (o_int (k := .i64) Try.underlying3 (by kernel_rfl)) (f_cons (o_int (k := .i64) Try.underlying3 (by kernel_rfl)) (f_cons (o_int (k := .i64) Try.underlying3 (by kernel_rfl)) (f_cons (o_int (k := .i64) Try.underlying3 (by kernel_rfl)) (f_one (o_int (k := .i64) Try.underlying3 (by kernel_rfl))))))))
theorem opens1 {H : Type} {enc : TypeId × Value → H} {W : World} : Opens enc Try.prog W 39 (Kd.slice 69 k69) (fun (y : List (S69)) => ((∀ (zy : S69), zy ∈ y → ((Lit.int .i64 zy.f0).wf = true ∧ (Lit.int .i64 zy.f1).wf = true)) ∧ y.length * 16 ≤ 140737488351232)) :=
  (o_slice (B := 16) Try.underlying39 (by kernel_rfl) (by kernel_rfl) (o_struct (ts := [3, 3]) (fun x : S69 => (x.f0, x.f1)) (fun p => ⟨p.1, p.2⟩) (fun _ => rfl) Try.underlying69 (by kernel_rfl) (by kernel_rfl) (by kernel_rfl) (f_cons (o_int (k := .i64) Try.underlying3 (by kernel_rfl)) (f_one (o_int (k := .i64) Try.underlying3 (by kernel_rfl))))))
set_option maxRecDepth 100000 in
theorem lifted (os : Os) (started : os.Started) (H : Type) (enc : TypeId × Value → H) :
    ReturnsInHanded {} Try.checked os 5 .any (Rows.fnExactRunStopsSpec.pre6 enc Try.prog Try.f5 Rows.fnExactRunStopsRow.domain false) (Rows.fnExactRunStopsSpec.post enc Try.prog Try.f5 false true false false) := by
  refine returnsInHanded_of_change_sized (C := Try.checked) own started (by kernel_rfl) Try.func5
    (ChangeSpec.witness6 (enc := enc) (C := Try.checked) false ⟨#[], #[.agg #[.int .i64 0, .int .i64 0, .int .i64 0, .int .i64 0, .int .i64 0], .slice none 0 0, .int .i64 0, .int .i64 0, .int .i64 0], []⟩ 8 (by kernel_rfl) (by kernel_rfl) (by kernel_rfl) (by kernel_rfl)) ?_
  intro W base args ds gs before hval0 hW hcnd hsz0 _
  have hsz : (DataW.weightsEach Try.prog (Try.f5.params.toList ++ Rows.fnExactRunStopsSpec.plain.varTypes Try.prog) (ds ++ gs)).all (· ≤ reachBytes) = true := hsz0
  have hval : ∀ (j : Nat) t v, Try.f5.params[j]? = some t → args[j]? = some v → Value.okWide Try.prog W .any base t v := hval0
  have hW' := hW
  obtain ⟨p, q, hA0, hV, rfl, hfz, hnd⟩ := hW
  have hA : DataW.TrodAll enc Try.prog W 0 (fun _ => true) true Try.f5.params.toList args.toList ds p := hA0
  rw [Try.params5] at hA hval hsz
  obtain ⟨v0, vs0, d0, ds0, p0, q0, hargs, rfl, rfl, h0, r0⟩ := trodAll_cons hA
  obtain ⟨v1, vs1, d1, ds1, p1, q1, rfl, rfl, rfl, h1, r1⟩ := trodAll_cons r0
  obtain ⟨v2, vs2, d2, ds2, p2, q2, rfl, rfl, rfl, h2, r2⟩ := trodAll_cons r1
  obtain ⟨v3, vs3, d3, ds3, p3, q3, rfl, rfl, rfl, h3, r3⟩ := trodAll_cons r2
  obtain ⟨v4, vs4, d4, ds4, p4, q4, rfl, rfl, rfl, h4, r4⟩ := trodAll_cons r3
  obtain ⟨rfl, rfl, rfl⟩ := trodAll_nil r4
  obtain rfl : args = #[v0, v1, v2, v3, v4] := by cases args; simp_all
  obtain ⟨rfl, rfl⟩ := trodVars_none hV
  have k0 := h0
  have lt0 : ∀ x ∈ p0, x.block < W.heap.size := by obtain ⟨m, hm⟩ := k0; exact DataW.trod_lt m _ _ _ hm
  obtain ⟨y0, hK0, wf0⟩ := arg_opens (opens0 (enc := enc) (W := W)) hsz (j := 0) (t := 38) rfl rfl h0
  obtain ⟨cs0, rfl, _⟩ := okWide_struct Try.underlying38 (hval 0 38 v0 rfl rfl)
  have hK0' : (Kd.iso (Kd.pair (Kd.int .i64) (Kd.pair (Kd.int .i64) (Kd.pair (Kd.int .i64) (Kd.pair (Kd.int .i64) (Kd.int .i64))))) id).K W y0 cs0.toList := hK0
  generalize hl0 : cs0.toList = cl0 at hK0'
  obtain ⟨_, _, rfl, rfl, ⟨_, _, rfl, rfl, ⟨_, _, rfl, rfl, ⟨_, _, rfl, rfl, rfl⟩⟩⟩⟩ := hK0'
  obtain rfl := (Array.toList_inj (ys := (#[.int .i64 y0.1, .int .i64 y0.2.1, .int .i64 y0.2.2.1, .int .i64 y0.2.2.2.1, .int .i64 y0.2.2.2.2] : Array Value))).1 hl0
  clear hl0
  have k1 := h1
  have lt1 : ∀ x ∈ p1, x.block < W.heap.size := by obtain ⟨m, hm⟩ := k1; exact DataW.trod_lt m _ _ _ hm
  obtain ⟨y1, hK1, wf1⟩ := arg_opens (opens1 (enc := enc) (W := W)) hsz (j := 1) (t := 39) rfl rfl h1
  obtain ⟨A1, len1, cap1, rfl⟩ := okWide_slice Try.underlying39 (hval 1 39 v1 rfl rfl)
  obtain ⟨B1, c1, he1, hc1, hr1⟩ := hK1
  simp only [Value.cells, List.cons.injEq, Value.slice.injEq, and_true] at he1
  obtain ⟨rfl, rfl, rfl⟩ := he1
  obtain ⟨a2, rfl, rfl, rfl, w2⟩ := open_int Try.underlying3 (hval 2 3 v2 rfl rfl) h2
  obtain ⟨a3, rfl, rfl, rfl, w3⟩ := open_int Try.underlying3 (hval 3 3 v3 rfl rfl) h3
  obtain ⟨a4, rfl, rfl, rfl, w4⟩ := open_int Try.underlying3 (hval 4 3 v4 rfl rfl) h4
  clear hA0 hval0 hsz0 hsz
  obtain ⟨k, hp⟩ := Pure.FnExactRunStops y0.1 y0.2.1 y0.2.2.1 y0.2.2.2.1 y0.2.2.2.2 y1 a2 a3 a4 (wf0.1) (wf0.2.1) (wf0.2.2.1) (wf0.2.2.2.1) (wf0.2.2.2.2) wf1 w2 w3 w4
  refine (laws_FnExactRunStops.calls k y0.1 y0.2.1 y0.2.2.1 y0.2.2.2.1 y0.2.2.2.2 A1 cap1 y1 a2 a3 a4 true W hr1 hc1 hp).mono fun e W' ⟨he, bel⟩ => ?_
  subst he
  exact ⟨_, rfl, _, _, _, [], _, [], hW', trodAll_mk1 (shut_bool Try.underlying4 _), (trodAll_cons_mk (Below.trod laidOut (by kernel_rfl) (of_decide_eq_true (by kernel_rfl)) k0 bel lt0) (trodAll_cons_mk (Below.trod laidOut (by kernel_rfl) (of_decide_eq_true (by kernel_rfl)) k1 bel lt1) (trodAll_cons_mk (shut_int Try.underlying3 w2) (trodAll_cons_mk (shut_int Try.underlying3 w3) (trodAll_cons_mk (shut_int Try.underlying3 w4) trodAll_mk0))))), rfl, bel.frame _, fun h => by cases h⟩
theorem over : Rows.fnExactRunStopsRow.holds Try.pinned (OpenSpec.ofChange Rows.fnExactRunStopsSpec) :=
  OpenClaim.holds_of_wide 5 Try.f5 rfl rfl rfl rfl rfl rfl rfl ⟨rfl, rfl, rfl, rfl, rfl⟩ rfl rfl rfl rfl rfl (by kernel_rfl) Try.func5 (by kernel_rfl)
    (of_decide_eq_true (by kernel_rfl)) (by unfold Func.isWrapper; first | (rw [if_pos (by decide +kernel)]; kernel_rfl) | (rw [if_neg (by decide +kernel)]; exact ⟨rfl, rfl⟩))
    (fun os started H enc _ => lifted os started H enc)
theorem proved : Rows.FnExactRunStopsSaid := over
#print axioms proved
end Go.Proofs.Ytkigjidjbjbjlaa.fnExactRunStops
namespace Go.Proofs.Ytkigjidjbjbjlaa
/-- The row, under a short name, for the claim. -/
theorem fnExactRunStops_holds : Rows.FnExactRunStopsSaid := fnExactRunStops.proved
end Go.Proofs.Ytkigjidjbjbjlaa
