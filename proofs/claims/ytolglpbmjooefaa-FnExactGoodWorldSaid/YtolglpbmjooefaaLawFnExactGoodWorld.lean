/- The law 'FnExactGoodWorld' holds for every input: the printed walk joined with its plain statement. No condition. -/
import Derived.Test.YtolglpbmjooefaaRows
import Derived.Test.YtolglpbmjooefaaPFnExactGoodWorldx3
import Derived.Test.YtolglpbmjooefaaPureFnExactGoodWorld
import Derived.Test.YtolglpbmjooefaaOpens
import Derived.WalkKit
import Derived.ProofKit
import Derived.OpenShut
import Derived.ShutString
import Derived.ChangeOld
import Derived.Below
import Derived.SizedLaws
namespace Go.Proofs.Ytolglpbmjooefaa.fnExactGoodWorld
open Go.ChangeShapes Go.WideShapes Go.ChangeAt Go.RowKit Go.Proofs.Ytolglpbmjooefaa.PFnExactGoodWorld Go.Proofs.Ytolglpbmjooefaa.Opens Go.Proofs.YtolglpbmjooefaaW.PrintWords
open Go.ChangeMaps (open_string shut_string)
set_option linter.unusedVariables false
set_option linter.unusedSimpArgs false
theorem own : ownKnob Try.prog.godebug = none := by kernel_rfl
theorem laidOut : laidOutB Try.prog = true := by kernel_rfl
theorem opens0 {H : Type} {enc : TypeId × Value → H} {W : World} : Opens enc Try.prog W 26 (Kd.iso (Kd.pair (Kd.iso (Kd.pair (Kd.int .i64) (Kd.slice 3 (Kd.int .i64))) id) (Kd.pair (Kd.int .i64) (Kd.pair (Kd.int .i64) (Kd.int .i64)))) id) (fun (y : ((Int × List Int) × Int × Int × Int)) => (((Lit.int .i64 y.1.1).wf = true ∧ ((∀ (zy12 : Int), zy12 ∈ y.1.2 → (Lit.int .i64 zy12).wf = true) ∧ y.1.2.length * 8 ≤ 140737488351232)) ∧ (Lit.int .i64 y.2.1).wf = true ∧ (Lit.int .i64 y.2.2.1).wf = true ∧ (Lit.int .i64 y.2.2.2).wf = true)) :=
  (o_struct (ts := [24, 3, 3, 3]) id id (fun _ => rfl) Try.underlying26 (by kernel_rfl) (by kernel_rfl) (by kernel_rfl) (f_cons (o_struct (ts := [3, 22]) id id (fun _ => rfl) Try.underlying24 (by kernel_rfl) (by kernel_rfl) (by kernel_rfl) (f_cons (o_int (k := .i64) Try.underlying3 (by kernel_rfl)) (f_one (o_slice (B := 8) Try.underlying22 (by kernel_rfl) (by kernel_rfl) (o_int (k := .i64) Try.underlying3 (by kernel_rfl)))))) (f_cons (o_int (k := .i64) Try.underlying3 (by kernel_rfl)) (f_cons (o_int (k := .i64) Try.underlying3 (by kernel_rfl)) (f_one (o_int (k := .i64) Try.underlying3 (by kernel_rfl)))))))
set_option maxRecDepth 100000 in
theorem lifted (os : Os) (started : os.Started) (H : Type) (enc : TypeId × Value → H) :
    ReturnsInHanded {} Try.checked os 3 .any (Rows.fnExactGoodWorldSpec.pre6 enc Try.prog Try.f3 Rows.fnExactGoodWorldRow.domain false) (Rows.fnExactGoodWorldSpec.post enc Try.prog Try.f3 false true false false) := by
  refine returnsInHanded_of_change_sized (C := Try.checked) own started (by kernel_rfl) Try.func3
    (ChangeSpec.witness6 (enc := enc) (C := Try.checked) false ⟨#[], #[.agg #[.int .i64 0, .slice none 0 0, .int .i64 0, .int .i64 0, .int .i64 0]], []⟩ 8 (by kernel_rfl) (by kernel_rfl) (by kernel_rfl) (by kernel_rfl)) ?_
  intro W base args ds gs before hval0 hW hcnd hsz0 _
  have hsz : (DataW.weightsEach Try.prog (Try.f3.params.toList ++ Rows.fnExactGoodWorldSpec.plain.varTypes Try.prog) (ds ++ gs)).all (· ≤ reachBytes) = true := hsz0
  have hval : ∀ (j : Nat) t v, Try.f3.params[j]? = some t → args[j]? = some v → Value.okWide Try.prog W .any base t v := hval0
  have hW' := hW
  obtain ⟨p, q, hA0, hV, rfl, hfz, hnd⟩ := hW
  have hA : DataW.TrodAll enc Try.prog W 0 (fun _ => true) true Try.f3.params.toList args.toList ds p := hA0
  rw [Try.params3] at hA hval hsz
  obtain ⟨v0, vs0, d0, ds0, p0, q0, hargs, rfl, rfl, h0, r0⟩ := trodAll_cons hA
  obtain ⟨rfl, rfl, rfl⟩ := trodAll_nil r0
  obtain rfl : args = #[v0] := by cases args; simp_all
  obtain ⟨rfl, rfl⟩ := trodVars_none hV
  have k0 := h0
  have lt0 : ∀ x ∈ p0, x.block < W.heap.size := by obtain ⟨m, hm⟩ := k0; exact DataW.trod_lt m _ _ _ hm
  obtain ⟨y0, hK0, wf0⟩ := arg_opens (opens0 (enc := enc) (W := W)) hsz (j := 0) (t := 26) rfl rfl h0
  obtain ⟨cs0, rfl, _⟩ := okWide_struct Try.underlying26 (hval 0 26 v0 rfl rfl)
  have hK0' : (Kd.iso (Kd.pair (Kd.iso (Kd.pair (Kd.int .i64) (Kd.slice 3 (Kd.int .i64))) id) (Kd.pair (Kd.int .i64) (Kd.pair (Kd.int .i64) (Kd.int .i64)))) id).K W y0 cs0.toList := hK0
  generalize hl0 : cs0.toList = cl0 at hK0'
  obtain ⟨_, _, rfl, ⟨_, _, rfl, rfl, ⟨A0_1, c0_1, rfl, hc0_1, hr0_1⟩⟩, ⟨_, _, rfl, rfl, ⟨_, _, rfl, rfl, rfl⟩⟩⟩ := hK0'
  obtain rfl := (Array.toList_inj (ys := (#[.int .i64 y0.1.1, .slice A0_1 y0.1.2.length c0_1, .int .i64 y0.2.1, .int .i64 y0.2.2.1, .int .i64 y0.2.2.2] : Array Value))).1 hl0
  clear hl0
  clear hA0 hval0 hsz0 hsz
  obtain ⟨k, hp⟩ := Pure.FnExactGoodWorld y0.1.1 y0.1.2 y0.2.1 y0.2.2.1 y0.2.2.2 (wf0.1.1) (wf0.1.2) (wf0.2.1) (wf0.2.2.1) (wf0.2.2.2)
  refine (laws_FnExactGoodWorld.calls k y0.1.1 A0_1 c0_1 y0.1.2 y0.2.1 y0.2.2.1 y0.2.2.2 true W hr0_1 hc0_1 hp).mono fun e W' ⟨he, bel⟩ => ?_
  subst he
  exact ⟨_, rfl, _, _, _, [], _, [], hW', trodAll_mk1 (shut_bool Try.underlying4 _), (trodAll_cons_mk (Below.trod laidOut (by kernel_rfl) (of_decide_eq_true (by kernel_rfl)) k0 bel lt0) trodAll_mk0), rfl, bel.frame _, fun h => by cases h⟩
theorem over : Rows.fnExactGoodWorldRow.holds Try.pinned (OpenSpec.ofChange Rows.fnExactGoodWorldSpec) :=
  OpenClaim.holds_of_wide 3 Try.f3 rfl rfl rfl rfl rfl rfl rfl ⟨rfl, rfl, rfl, rfl, rfl⟩ rfl rfl rfl rfl rfl (by kernel_rfl) Try.func3 (by kernel_rfl)
    (of_decide_eq_true (by kernel_rfl)) (by unfold Func.isWrapper; first | (rw [if_pos (by decide +kernel)]; kernel_rfl) | (rw [if_neg (by decide +kernel)]; exact ⟨rfl, rfl⟩))
    (fun os started H enc _ => lifted os started H enc)
theorem proved : Rows.FnExactGoodWorldSaid := over
#print axioms proved
end Go.Proofs.Ytolglpbmjooefaa.fnExactGoodWorld
namespace Go.Proofs.Ytolglpbmjooefaa
/-- The row, under a short name, for the claim. -/
theorem fnExactGoodWorld_holds : Rows.FnExactGoodWorldSaid := fnExactGoodWorld.proved
end Go.Proofs.Ytolglpbmjooefaa
