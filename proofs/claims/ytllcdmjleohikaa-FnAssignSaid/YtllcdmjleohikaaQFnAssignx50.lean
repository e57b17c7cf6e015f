-- Written by this session's own program for the law FnAssign.
import Derived.Test.YtllcdmjleohikaaQFnAssignx0
import Derived.Test.YtllcdmjleohikaaQFnAssignx4

namespace Go.Proofs.Ytllcdmjleohikaa.PFnAssign
open Go.RowKit Go.Proofs.YtllcdmjleohikaaW.PrintWords Go.Proofs.YtllcdmjleohikaaW.PrintLast Go.Proofs.YtllcdmjleohikaaW.PrintMore
attribute [local go_sem] max2_int min2_int max_two min_two max_three min_three max_four min_four   -- for this text's walks alone
set_option linter.unusedVariables false
set_option linter.unusedSimpArgs false

/-! ### impl_bestAssign_fn1: function 34 -/
mutual
def impl_bestAssign_fn1.j0 : Nat → List Int → Int → List Int → Int → Bool → Option (List Int × Int)
  | 0, _, _, _, _, _ => none
  | k + 1, x0, x2, x3, x6, x22 => if x22 = true then ((slices_Clone_int_int.f x0).bind fun t134 => (some (t134, x6))) else ((slices_Clone_int_int.f x3).bind fun t137 => (some (t137, x2)))
def impl_bestAssign_fn1.l0 : Nat → List Int → List (List Int) → Int → List Int → Int → Int → Option (List Int × Int)
  | 0, _, _, _, _, _, _ => none
  | k + 1, x0, x1, x2, x3, x27, x28 => if x28 < x27 then ((slices_Contains_int_int.f k x0 x28).bind fun t143 => (if t143 = true then (impl_bestAssign_fn1.l0 k x0 x1 x2 x3 x27 (wrap64 (x28 + 1))) else ((slices_Clone_int_int.f x0).bind fun t144 => (if t144.length < 17592186044416 then ((impl_bestAssign_fn1.f k (t144 ++ [x28]) x1 x2 x3).bind fun bt150 => (impl_bestAssign_fn1.l0 k x0 x1 bt150.2 bt150.1 x27 (wrap64 (x28 + 1)))) else (none))))) else ((slices_Clone_int_int.f x3).bind fun t140 => (some (t140, x2)))
def impl_bestAssign_fn1.f : Nat → List Int → List (List Int) → Int → List Int → Option (List Int × Int)
  | 0, _, _, _, _ => none
  | k + 1, l0, l1, a2, l3 => if (l0.length : Int) = (l1.length : Int) then ((impl_assignCost.f k l1 l0).bind fun t133 => (if a2 < 0 then (impl_bestAssign_fn1.j0 k l0 a2 l3 t133 true) else (impl_bestAssign_fn1.j0 k l0 a2 l3 t133 (decide (t133 < a2))))) else (impl_bestAssign_fn1.l0 k l0 l1 a2 l3 (l1.length : Int) 0)
end
theorem impl_bestAssign_fn1.mono_l : ∀ k, (∀ y0 y1 y2 y3, LeO (impl_bestAssign_fn1.f k y0 y1 y2 y3) (impl_bestAssign_fn1.f (k + 1) y0 y1 y2 y3)) ∧ (∀ y0 y1 y2 y3 y4, LeO (impl_bestAssign_fn1.j0 k y0 y1 y2 y3 y4) (impl_bestAssign_fn1.j0 (k + 1) y0 y1 y2 y3 y4)) ∧ (∀ y0 y1 y2 y3 y4 y5, LeO (impl_bestAssign_fn1.l0 k y0 y1 y2 y3 y4 y5) (impl_bestAssign_fn1.l0 (k + 1) y0 y1 y2 y3 y4 y5))
  | 0 => ⟨fun _ _ _ _ r h => by simp [impl_bestAssign_fn1.f] at h, fun _ _ _ _ _ r h => by simp [impl_bestAssign_fn1.j0] at h, fun _ _ _ _ _ _ r h => by simp [impl_bestAssign_fn1.l0] at h⟩
  | k + 1 => by
    obtain ⟨ih0, ih1, ih2⟩ := impl_bestAssign_fn1.mono_l k
    refine ⟨?_, ?_, ?_⟩
    · intro y0 y1 y2 y3
      unfold impl_bestAssign_fn1.f
      repeat' first
      | (with_reducible exact ih0 _ _ _ _)
      | (with_reducible exact ih1 _ _ _ _ _)
      | (with_reducible exact ih2 _ _ _ _ _ _)
      | (with_reducible exact impl_assignCost.mono _ _ _)
      | (with_reducible exact slices_Contains_int_int.mono _ _ _)
      | (with_reducible exact LeO.refl _)
      | (with_reducible exact LeO.none _)
      | (with_reducible refine LeO.ite ?_ ?_)
      | (with_reducible refine LeO.bind ?_ (fun _ => ?_))
      | exact ih0 _ _ _ _
      | exact ih1 _ _ _ _ _
      | exact ih2 _ _ _ _ _ _
      | exact impl_assignCost.mono _ _ _
      | exact slices_Contains_int_int.mono _ _ _
      | exact LeO.none _
      | refine LeO.ite ?_ ?_
      | refine LeO.bind ?_ (fun _ => ?_)
    · intro y0 y1 y2 y3 y4
      unfold impl_bestAssign_fn1.j0
      repeat' first
      | (with_reducible exact ih0 _ _ _ _)
      | (with_reducible exact ih1 _ _ _ _ _)
      | (with_reducible exact ih2 _ _ _ _ _ _)
      | (with_reducible exact impl_assignCost.mono _ _ _)
      | (with_reducible exact slices_Contains_int_int.mono _ _ _)
      | (with_reducible exact LeO.refl _)
      | (with_reducible exact LeO.none _)
      | (with_reducible refine LeO.ite ?_ ?_)
      | (with_reducible refine LeO.bind ?_ (fun _ => ?_))
      | exact ih0 _ _ _ _
      | exact ih1 _ _ _ _ _
      | exact ih2 _ _ _ _ _ _
      | exact impl_assignCost.mono _ _ _
      | exact slices_Contains_int_int.mono _ _ _
      | exact LeO.none _
      | refine LeO.ite ?_ ?_
      | refine LeO.bind ?_ (fun _ => ?_)
    · intro y0 y1 y2 y3 y4 y5
      unfold impl_bestAssign_fn1.l0
      repeat' first
      | (with_reducible exact ih0 _ _ _ _)
      | (with_reducible exact ih1 _ _ _ _ _)
      | (with_reducible exact ih2 _ _ _ _ _ _)
      | (with_reducible exact impl_assignCost.mono _ _ _)
      | (with_reducible exact slices_Contains_int_int.mono _ _ _)
      | (with_reducible exact LeO.refl _)
      | (with_reducible exact LeO.none _)
      | (with_reducible refine LeO.ite ?_ ?_)
      | (with_reducible refine LeO.bind ?_ (fun _ => ?_))
      | exact ih0 _ _ _ _
      | exact ih1 _ _ _ _ _
      | exact ih2 _ _ _ _ _ _
      | exact impl_assignCost.mono _ _ _
      | exact slices_Contains_int_int.mono _ _ _
      | exact LeO.none _
      | refine LeO.ite ?_ ?_
      | refine LeO.bind ?_ (fun _ => ?_)
theorem impl_bestAssign_fn1.mono : ∀ a0 a1 a2 a3 k, LeO (impl_bestAssign_fn1.f k a0 a1 a2 a3) (impl_bestAssign_fn1.f (k + 1) a0 a1 a2 a3) := by
  intro a0 a1 a2 a3 k
  obtain ⟨ih0, ih1, ih2⟩ := impl_bestAssign_fn1.mono_l k
  exact ih0 a0 a1 a2 a3
/-- What the closure of impl.bestAssign has in its boxes: the prices, the least cost so far, who has it, itself. -/
structure BestSt (w : World) (B gp gl gb gt : Nat) (A1 : Option Addr) (c1 : Nat) (l1 : List (List Int)) (l : Int) (vb : Value) (lb : List Int) : Prop where
  bp : w.heap[gp]? = some (.cells #[.slice A1 l1.length c1] 22 (0, 0))
  bl : w.heap[gl]? = some (.cells #[.int .i64 l] 3 (0, 0))
  bb : w.heap[gb]? = some (.cells #[vb] 24 (0, 0))
  bt : w.heap[gt]? = some (.cells #[.func (.func 34) #[] #[.pointer (some ⟨gp, 0, none⟩), .pointer (some ⟨gl, 0, none⟩), .pointer (some ⟨gb, 0, none⟩), .pointer (some ⟨gt, 0, none⟩)]] 57 (0, 0))
  pr : Kd.F (Kd.slice 3 (Kd.int .i64)) w (fun k => k ≠ gl ∧ k ≠ gb) A1 l1.length l1
  ow : Kd.R (Kd.int .i64) 3 w B (fun k => k ≠ gl ∧ k ≠ gb) vb lb
  lB : B ≤ gl
  bB : B ≤ gb
namespace BestSt
variable {w W : World} {B gp gl gb gt : Nat} {A1 : Option Addr} {c1 : Nat} {l1 : List (List Int)} {l : Int} {vb : Value} {lb : List Int}
theorem below (h : BestSt w B gp gl gb gt A1 c1 l1 l vb lb) (hb : Below w.heap.size w W) : BestSt W B gp gl gb gt A1 c1 l1 l vb lb :=
  ⟨blk_below h.bp hb, blk_below h.bl hb, blk_below h.bb hb, blk_below h.bt hb, Kd.F_below h.pr hb, Kd.R_below h.ow hb, h.lB, h.bB⟩
theorem alloc (h : BestSt w B gp gl gb gt A1 c1 l1 l vb lb) (o : Obj) : BestSt (w.alloc o) B gp gl gb gt A1 c1 l1 l vb lb := h.below (below_alloc (Below.refl _ _) o)
theorem drew (h : BestSt w B gp gl gb gt A1 c1 l1 l vb lb) : BestSt w.drew B gp gl gb gt A1 c1 l1 l vb lb := h.below (below_drew (Below.refl _ _))
theorem drewN (h : BestSt w B gp gl gb gt A1 c1 l1 l vb lb) (n : Nat) : BestSt (w.drewN n) B gp gl gb gt A1 c1 l1 l vb lb := h.below (pw_below_drewN (Below.refl _ _) n)
theorem lne (h : BestSt w B gp gl gb gt A1 c1 l1 l vb lb) : gp ≠ gl ∧ gb ≠ gl ∧ gt ≠ gl := ⟨blk_ne h.bp h.bl (by decide), blk_ne h.bb h.bl (by decide), blk_ne h.bt h.bl (by decide)⟩
theorem bne (h : BestSt w B gp gl gb gt A1 c1 l1 l vb lb) : gp ≠ gb ∧ gl ≠ gb ∧ gt ≠ gb := ⟨blk_ne h.bp h.bb (by decide), blk_ne h.bl h.bb (by decide), blk_ne h.bt h.bb (by decide)⟩
/-- A new row for the best. -/
theorem setb (h : BestSt w B gp gl gb gt A1 c1 l1 l vb lb) {u : Value} {lu : List Int} (hu : Kd.R (Kd.int .i64) 3 w B (fun k => k ≠ gl ∧ k ≠ gb) u lu) : BestSt (w.setCell ⟨gb, 0, none⟩ u) B gp gl gb gt A1 c1 l1 l u lu :=
  ⟨blk_far h.bp h.bne.1 u, blk_far h.bl h.bne.2.1 u, by simpa using blk_set h.bb 0 u, blk_far h.bt h.bne.2.2 u, Kd.F_far h.pr (fun _ hk => hk.2) u, Kd.R_far hu (fun _ hk => hk.2) u, h.lB, h.bB⟩
/-- A new least cost. -/
theorem setl (h : BestSt w B gp gl gb gt A1 c1 l1 l vb lb) (x : Int) : BestSt (w.setCell ⟨gl, 0, none⟩ (.int .i64 x)) B gp gl gb gt A1 c1 l1 x vb lb :=
  ⟨blk_far h.bp h.lne.1 _, by simpa using blk_set h.bl 0 (.int .i64 x), blk_far h.bb h.lne.2.1 _, blk_far h.bt h.lne.2.2 _, Kd.F_far h.pr (fun _ hk => hk.1) _, Kd.R_far h.ow (fun _ hk => hk.1) _, h.lB, h.bB⟩
end BestSt
theorem clone_self {x r : List Int} (h : slices_Clone_int_int.f x = some r) : r = x := by
  simp only [slices_Clone_int_int.f, Option.bind_some] at h
  split at h
  · simpa using h.symm
  · cases h
theorem C_one {w : World} {g : Nat} {x : Int} (h : w.heap[g]? = some (.cells #[.int .i64 x] 3 (0, 0))) : Kd.C (Kd.int .i64) w (some ⟨g, 0, none⟩) 1 [x] := by
  refine ⟨rfl, by decide, fun _ => ⟨_, rfl, fun j p hj => ?_⟩⟩
  have hj0 : j = 0 := by have := (List.getElem?_eq_some_iff.1 hj).1; simpa using this
  subst hj0
  have hp : x = p := by simpa using hj
  subst hp
  refine ⟨[.int .i64 x], rfl, rfl, fun i u hi => ?_⟩
  have hi0 : i = 0 := by have := (List.getElem?_eq_some_iff.1 hi).1; simpa using this
  subst hi0
  have hu : Value.int .i64 x = u := by simpa using hi
  subst hu
  have := blk_cell h 0
  simpa [Addr.add] using this
theorem below_mid {B : Nat} {w W : World} (hB : B ≤ w.heap.size) (h : Below B w W) {W2 : World} (k : Below W.heap.size W W2) : Below B w W2 := below_then h (Nat.le_trans hB h.size) k
theorem below_drewB {B : Nat} {w W : World} (h : Below B w W) : Below B w W.drew := ⟨h.os, h.tape, h.output, h.size, h.block⟩
theorem store_func (P : Program) (w : World) (a : Addr) (m : Mode) (fn : Fn) (first cap : Array Value) : (store a (.func fn first cap) m).run P w = stored P w a (.func fn first cap) m := run_store P w a _ m rfl
attribute [local go_sem] store_func
/-- A call of a function value in a region that draws. -/
theorem goesF_ {P : Program} {ops : Array Oper} {Q : Exit → Act → World → Prop} {oi : Oper} {N : Option Tmp} {a : Act} {w : World} {K : Act → World → Prop} {f : FuncId} {fn : Func} {ys : Array Operand} {ts : Array TypeId} {x : Operand} {cap : Array Value} (hf : P.funcs[f]? = some fn) (hname : (fn.name == "runtime.NumGoroutine") = false) (hb : fn.body.isSome = true) (args : Array Value)
    (hw : Region.wanted oi (yielded ops a.tmps) = true) (hN : oi.dst = N) (hop : oi.op = .call { callee := .value x, args := ys, argTypes := ts }) (hx : a.eval x = .func (.func f) #[] cap) (hargs : ys.map a.eval ++ cap = args)
    (h : Calls P f args w fun e w' => ∃ v, e = .returned v ∧ K (a.put N v) w') : if Region.wanted oi (yielded ops a.tmps) = true then Oper.wp P oi a w K Q else K (a.put N undef) w := by
  refine call_ f args hw hN ?_ h
  have he := enters_ hf hname hb args w
  unfold execOp
  simp [hop, resolve, Deferred.ofValue, invoke, hx, hargs, he]
/-- A call of a function value in a plain region. -/
theorem goesV_ {P : Program} {ops : Array Oper} {Q : Exit → Act → World → Prop} {rest : List Oper} {oi : Oper} {a : Act} {w : World} (N : Option Tmp) (hd : oi.dst = N) (hg : oi.guard = none) {f : FuncId} {fn : Func} {ys : Array Operand} {ts : Array TypeId} (hf : P.funcs[f]? = some fn) (hname : (fn.name == "runtime.NumGoroutine") = false) (hb : fn.body.isSome = true) (args : Array Value)
    {x : Operand} {cap : Array Value} (hop : oi.op = .call { callee := .value x, args := ys, argTypes := ts }) (hx : a.eval x = .func (.func f) #[] cap) (hargs : ys.map a.eval ++ cap = args)
    (h : Calls P f args w fun e w' => ∃ v, e = .returned v ∧ wpList P ops Q rest (a.put N v) w') : wpList P ops Q (oi :: rest) a w := by
  refine wpList_plain hg fun K hK => ?_
  have he := enters_ hf hname hb args w
  have hrun : (execOp a.eval oi).run P w = .ok (.enter f args) w := by
    unfold execOp
    simp [hop, resolve, Deferred.ofValue, invoke, hx, hargs, he]
  unfold Oper.wp
  rw [hrun, Oper.upon_enter]
  refine h.mono fun e w'' hh => ?_
  obtain ⟨v, rfl, hk⟩ := hh
  subst hd
  exact hK _ _ hk
set_option maxHeartbeats 8000000 in
set_option maxRecDepth 100000 in
theorem impl_bestAssign_fn1.calls (k : Nat) : ∀ (gp gl gb gt B : Nat) (A0 : Option Addr) (c0 : Nat) (l0 : List Int) (A1 : Option Addr) (c1 : Nat) (l1 : List (List Int)) (a2 : Int) (vb : Value) (l3 : List Int) (r1 : List Int) (r2 : Int) (w : World) (hB : B ≤ w.heap.size) (hr0 : Kd.F (Kd.int .i64) w (fun k => k ≠ gl ∧ k ≠ gb) A0 l0.length l0) (hc0 : l0.length ≤ c0) (hc1 : l1.length ≤ c1) (hs : BestSt w B gp gl gb gt A1 c1 l1 a2 vb l3) (h : impl_bestAssign_fn1.f k l0 l1 a2 l3 = some (r1, r2)),
    Calls Try.prog 34 #[.slice A0 l0.length c0, .pointer (some ⟨gp, 0, none⟩), .pointer (some ⟨gl, 0, none⟩), .pointer (some ⟨gb, 0, none⟩), .pointer (some ⟨gt, 0, none⟩)] w fun e w' => e = .returned (.tuple #[]) ∧ (∃ vb', BestSt w' B gp gl gb gt A1 c1 l1 r2 vb' r1) ∧ Below B w w' ∧ Kept w w' (fun k => k = gl ∨ k = gb) := by
  induction k using Nat.strongRecOn with
  | _ k ih =>
  intro gp gl gb gt B A0 c0 l0 A1 c1 l1 a2 vb l3 r1 r2 w hB hr0 hc0 hc1 hs h
  cases k with
  | zero => exact absurd h (by simp [impl_bestAssign_fn1.f])
  | succ k =>
  simp only [impl_bestAssign_fn1.f] at h
  have HR0 := Aside0.mk hr0
  have HC0 := Aside0.mk hc0
  have HC1 := Aside0.mk hc1
  have HS := Aside0.mk hs
  have H := h
  clear h
  have hzp : w.cell? ⟨gp, 0, none⟩ = some (.slice A1 l1.length c1) := (blk_cell hs.bp 0).trans rfl
  have hzl : w.cell? ⟨gl, 0, none⟩ = some (.int .i64 a2) := (blk_cell hs.bl 0).trans rfl
  clear hr0 hc0 hc1 hs
  by_cases c5 : (l0.length : Int) = (l1.length : Int)
  · rw [if_pos c5] at H
    have c5b0 : ((l0.length : Int) == (l1.length : Int)) = true := beq_iff_eq.mpr c5
    have c5b2 : (l0.length == l1.length) = true := by first | simpa using c5 | (simp at c5 ⊢; omega)
    clear c5
    obtain ⟨t148, A60, H⟩ := Option.bind_eq_some_iff.mp H
    have A6 := Aside0.mk A60
    clear A60
    obtain ⟨q, hq⟩ : ∃ q : Bool, q = (if a2 < 0 then true else decide (t148 < a2)) := ⟨_, rfl⟩
    have H : impl_bestAssign_fn1.j0 k l0 a2 l3 t148 q = some (r1, r2) := by
      subst hq
      by_cases hn : a2 < 0
      · rw [if_pos hn] at H ⊢; exact H
      · rw [if_neg hn] at H ⊢; exact H
    have H' := Aside0.mk H
    clear H
    have HQ := Aside0.mk hq
    clear hq
    go_enter Try.func34, Try.ntmps34
    go_upto_region 2 with (first | ((with_reducible refine gate_callee (f := 29) rfl ?_); refine goesL_ (some 15) rfl rfl Try.func29 (by kernel_rfl) rfl #[.slice A1 l1.length c1, .slice A0 l0.length c0] rfl (by (try simp only [List.map_toArray, List.map_cons, List.map_nil]); first | done | rfl | (simp only [List.length_drop, List.length_take]; rfl)) ?_; (with_reducible refine (impl_assignCost.calls k _ _ l1 _ _ l0 t148 _ ?side1 ?side2 ?side3 ?side4 A6.out).mono ?_); (case side1 => exact Kd.F_now HS.out.pr); (case side2 => exact HC1.out); (case side3 => exact Kd.F_now HR0.out); (case side4 => exact HC0.out); rintro e w' ⟨rfl, ⟨nd, rfl⟩⟩; refine ⟨_, rfl, ?_⟩))
    (try simp only [Act.put, List.setIfInBounds_toArray, List.set_cons_zero, List.set_cons_succ])
    go_cut [22] (fun v22 wc => v22 = .bool q ∧ ∃ n, wc = w.drewN n)
    case first =>
      by_cases c8 : a2 < 0
      · have hq : q = true := by have := HQ.out; rw [if_pos c8] at this; exact this
        have c8b0 : decide (a2 < 0) = true := decide_eq_true c8
        clear c8
        subst hq
        go_wp2
        go_meet
        case rel => exact ⟨by first | rfl | (simp; done) | (simp [*]; done), _, rfl⟩
      · have hq : q = decide (t148 < a2) := by have := HQ.out; rw [if_neg c8] at this; exact this
        have c8b0 : decide (a2 < 0) = false := decide_eq_false c8
        clear c8
        subst hq
        go_wp2
        go_meet
        case rel => exact ⟨by first | rfl | (simp; done) | (simp [*]; done), _, rfl⟩
    case rest =>
      obtain ⟨rfl, n, rfl⟩ := hcut
      have H := H'.out
      clear H'
      have HS' := Aside0.mk (HS.out.drewN n)
      have HR0' := Aside0.mk (Kd.F_drewN HR0.out n)
      have HBW := Aside0.mk (pw_below_drewN (Below.refl B w) n)
      have HKW := Aside0.mk (Kept.drewN (Kept.refl w (fun k => k = gl ∨ k = gb)) n)
      generalize w.drewN n = W at HS' HR0' HBW HKW ⊢
      cases k with
      | zero => exact absurd H (by simp [impl_bestAssign_fn1.j0])
      | succ k =>
      simp only [impl_bestAssign_fn1.j0] at H
      cases q with
      | true =>
        rw [if_pos rfl] at H
        obtain ⟨t149, A100, H⟩ := Option.bind_eq_some_iff.mp H
        have A10 := Aside0.mk A100
        have E := Aside0.mk (clone_self A100)
        clear A100
        simp only [Option.some.injEq, Prod.mk.injEq] at H
        obtain ⟨rfl, rfl⟩ := H
        go_wp2_with (first | ((with_reducible refine gate_callee (f := 35) rfl ?_); refine goesL_ (some 24) rfl rfl Try.func35 (by kernel_rfl) rfl #[.slice A0 l0.length c0] rfl (by (try simp only [List.map_toArray, List.map_cons, List.map_nil]); first | done | rfl | (simp only [List.length_drop, List.length_take]; rfl)) ?_; (with_reducible refine (slices_Clone_int_int.calls _ _ l0 t149 _ ?side1 ?side2 A10.out).mono ?_); (case side1 => exact Kd.F_now HR0'.out); (case side2 => exact HC0.out); rintro e w11 ⟨v150, rfl, ho0, hb⟩; refine ⟨_, rfl, ?_⟩; have HS1 := Aside0.mk (HS'.out.below hb); have HB1 := Aside0.mk (below_mid hB HBW.out hb); have HK1 := Aside0.mk (HKW.out.below hb); have HO1 := Aside0.mk (Kd.R_lower (Kd.R_mono (ok' := fun k => k ≠ gl ∧ k ≠ gb) (Kd.R_bound ho0) (fun k hk => ⟨fun e => absurd hk.2.1 (by have := blk_lt HS'.out.bl; omega), fun e => absurd hk.2.1 (by have := blk_lt HS'.out.bb; omega)⟩)) (Nat.le_trans hB HBW.out.size)); obtain ⟨Ao, co, eo⟩ := Kd.R_slice HO1.out; subst eo; have hz1 : w11.cell? ⟨gb, 0, none⟩ = some vb := (blk_cell HS1.out.bb 0).trans rfl; have hz2 : w11.cell? ⟨gl, 0, none⟩ = some (.int .i64 a2) := (blk_cell HS1.out.bl 0).trans rfl; have hf1 := blk_frozen HS1.out.bb 0; have hf2 := blk_frozen HS1.out.bl 0; have hn1 := HS1.out.bne.2.1; have hn2 := HS1.out.lne.2.1; clear ho0 hb))
        ((try simp only [Exit.inBlock, Exit.then]); refine bodyPost_ret (results_none rfl _ _ _) rfl ?_)
        exact ⟨rfl, ⟨_, (HS1.out.setb HO1.out).setl _⟩, (HB1.out.setCell HS1.out.bB _).setCell HS1.out.lB _, Kept.setCell (Kept.setCell HK1.out (.inl (.inr rfl)) _) (.inl (.inl rfl)) _⟩
      | false =>
        rw [if_neg (by decide)] at H
        obtain ⟨t152, A100, H⟩ := Option.bind_eq_some_iff.mp H
        have E := clone_self A100
        clear A100
        simp only [Option.some.injEq, Prod.mk.injEq] at H
        obtain ⟨rfl, rfl⟩ := H
        subst E
        try go_wp2
        ((try simp only [Exit.inBlock, Exit.then]); refine bodyPost_ret (results_none rfl _ _ _) rfl ?_)
        exact ⟨rfl, ⟨vb, HS'.out⟩, HBW.out, HKW.out⟩
  · rw [if_neg c5] at H
    have c5b0 : ((l0.length : Int) == (l1.length : Int)) = false := beq_eq_false_iff_ne.mpr c5
    have c5b2 : (l0.length == l1.length) = false := by first | simpa using c5 | (simp at c5 ⊢; omega)
    have H' := Aside0.mk H
    clear H
    go_enter Try.func34, Try.ntmps34
    go_wp2
    go_loopg [28] k (fun kq v28 w' => ∃ (x2 : Int) (x3 : List Int) (ub : Value) (x28 : Int), v28 = .int .i64 x28 ∧ Aside0 (impl_bestAssign_fn1.l0 kq l0 l1 x2 x3 (l1.length : Int) x28 = some (r1, r2)) ∧ Aside0 (kq ≤ k) ∧ Aside0 (BestSt w' B gp gl gb gt A1 c1 l1 x2 ub x3) ∧ Aside0 (Kd.F (Kd.int .i64) w' (fun k => k ≠ gl ∧ k ≠ gb) A0 l0.length l0) ∧ Aside0 (Below B w w') ∧ Aside0 (Kept w w' (fun k => k = gl ∨ k = gb)))
    case atStart => exact ⟨a2, l3, vb, 0, (by first | rfl | (simp; done) | (simp [*]; done)), H', ⟨Nat.le_refl _⟩, HS, HR0, ⟨Below.refl _ _⟩, ⟨Kept.refl _ _⟩⟩
    case round =>
      clear H' c5 c5b0 c5b2 hzp hzl HS HR0
      obtain ⟨x2, x3, ub, x28, rfl, HA, HK1, HS, HR0, HB, HK⟩ := hrel
      cases gk with
      | zero => exact absurd HA.out (by simp [impl_bestAssign_fn1.l0])
      | succ k1 =>
        have H := HA.out
        clear HA
        simp only [impl_bestAssign_fn1.l0] at H
        by_cases c14 : x28 < (l1.length : Int)
        · rw [if_pos c14] at H
          have c14b0 : decide (x28 < (l1.length : Int)) = true := decide_eq_true c14
          clear c14
          obtain ⟨t158, A150, H⟩ := Option.bind_eq_some_iff.mp H
          have A15 := Aside0.mk A150
          clear A150
          cases t158 with
          | true =>
            rw [if_pos rfl] at H
            have H' := Aside0.mk H
            clear H
            go_wp2_with (first | ((with_reducible refine gate_callee (f := 36) rfl ?_); refine goesL_ (some 33) rfl rfl Try.func36 (by kernel_rfl) rfl #[.slice A0 l0.length c0, .int .i64 x28] rfl (by (try simp only [List.map_toArray, List.map_cons, List.map_nil]); first | done | rfl | (simp only [List.length_drop, List.length_take]; rfl)) ?_; (with_reducible refine (slices_Contains_int_int.calls k1 _ _ l0 x28 true _ ?side1 ?side2 A15.out).mono ?_); (case side1 => exact Kd.F_now HR0.out); (case side2 => exact HC0.out); rintro e w' ⟨rfl, ⟨nd, rfl⟩⟩; refine ⟨_, rfl, ?_⟩; have HS' := Aside0.mk (HS.out.drewN nd); have HR0' := Aside0.mk (Kd.F_drewN HR0.out nd); have HB' := Aside0.mk (pw_below_drewN HB.out nd); have HK' := Aside0.mk (Kept.drewN HK.out nd)))
            go_roundg k1
            case measure => have := HK1.out; omega
            case rel => exact ⟨x2, x3, ub, (wrap64 (x28 + 1)), (by first | rfl | (simp; done) | (simp [*]; done)), H', ⟨by have := HK1.out; omega⟩, HS', HR0', HB', HK'⟩
          | false =>
            rw [if_neg (by decide)] at H
            obtain ⟨t159, A170, H⟩ := Option.bind_eq_some_iff.mp H
            have E159 := Aside0.mk (clone_self A170)
            have A17 := Aside0.mk A170
            clear A170
            by_cases c18 : t159.length < 17592186044416
            · rw [if_pos c18] at H
              have LM := Aside0.mk c18
              clear c18
              obtain ⟨⟨t165, t168⟩, A190, H⟩ := Option.bind_eq_some_iff.mp H
              have A19 := Aside0.mk A190
              clear A190
              have H' : Aside0 (impl_bestAssign_fn1.l0 k1 l0 l1 t168 t165 (l1.length : Int) (wrap64 (x28 + 1)) = some (r1, r2)) := ⟨H⟩
              clear H
              go_wp2_with (first | ((with_reducible refine gate_callee (f := 36) rfl ?_); refine goesL_ (some 33) rfl rfl Try.func36 (by kernel_rfl) rfl #[.slice A0 l0.length c0, .int .i64 x28] rfl (by (try simp only [List.map_toArray, List.map_cons, List.map_nil]); first | done | rfl | (simp only [List.length_drop, List.length_take]; rfl)) ?_; (with_reducible refine (slices_Contains_int_int.calls k1 _ _ l0 x28 false _ ?side1 ?side2 A15.out).mono ?_); (case side1 => exact Kd.F_now HR0.out); (case side2 => exact HC0.out); rintro e w' ⟨rfl, ⟨nd, rfl⟩⟩; refine ⟨_, rfl, ?_⟩; have HS' := Aside0.mk (HS.out.drewN nd); have HR0' := Aside0.mk (Kd.F_drewN HR0.out nd); have HB' := Aside0.mk (pw_below_drewN HB.out nd); have HK' := Aside0.mk (Kept.drewN HK.out nd); generalize wr.drewN nd = wa at HS' HR0' HB' HK' ⊢))
              clear HS HR0 HB HK
              have HSb := Aside0.mk (HS'.out.drew)
              have HRb := Aside0.mk (Kd.F_drew HR0'.out)
              have HBb := Aside0.mk (below_drewB HB'.out)
              have HKb := Aside0.mk (Kept.drew HK'.out)
              clear HS' HR0' HB' HK'
              refine start_ (n := 7) (S := fun w' => w'.cell? ⟨gt, 0, none⟩ = some (.func (.func 34) #[] #[.pointer (some ⟨gp, 0, none⟩), .pointer (some ⟨gl, 0, none⟩), .pointer (some ⟨gb, 0, none⟩), .pointer (some ⟨gt, 0, none⟩)])) (ds := []) #[false, false, false, false, false, false, false] (by kernel_rfl) rfl rfl ((blk_cell HSb.out.bt 0).trans rfl) (fun hHeld => ?_)
              generalize wa.drew = wb at HSb HRb HBb HKb hHeld ⊢
              refine take_ (i := 0) (N := some 35) (v := ?_) (a' := ?_) #[true, false, false, false, false, false, false] rfl rfl (by kernel_rfl) (fun _ _ _ h => h) (Or.inl ⟨by rfl, ?_⟩) hHeld ?_ ?_
              rotate_left
              · intro w' s0
                go_simp
                with_reducible rfl
              rotate_left
              · simp only [Act.put, List.setIfInBounds_toArray, List.set_cons_zero, List.set_cons_succ, i64_w, i32_w]
                rfl
              refine pure_ (i := 1) (N := some 36) (v := ?_) (a' := ?_) #[true, true, false, false, false, false, false] rfl rfl (by kernel_rfl) (fun _ _ _ h => h) (Or.inl ⟨by rfl, ?_⟩) ?_ ?_
              rotate_left
              · intro w'
                go_simp
                with_reducible rfl
              rotate_left
              · simp only [Act.put, List.setIfInBounds_toArray, List.set_cons_zero, List.set_cons_succ, i64_w, i32_w]
                rfl
              refine pure_ (i := 3) (N := some 38) (v := ?_) (a' := ?_) #[true, true, false, true, false, false, false] rfl rfl (by kernel_rfl) (fun _ _ _ h => h) (Or.inl ⟨by rfl, ?_⟩) ?_ ?_
              rotate_left
              · intro w'
                go_simp
                with_reducible rfl
              rotate_left
              · simp only [Act.put, List.setIfInBounds_toArray, List.set_cons_zero, List.set_cons_succ, i64_w, i32_w]
                rfl
              have HFT := HSb.out
              refine join_ (σ := Value × Nat) 2 #[true, true, true, true, true, false, false] (fun s => [(37, s.1), (39, .slice (some ⟨s.2, 0, none⟩) 1 1)]) (fun s w' => Kd.R (Kd.int .i64) 3 w' wb.heap.size (fun _ => True) s.1 t159 ∧ Below wb.heap.size wb w' ∧ w'.heap[s.2]? = some (.cells #[.int .i64 x28] 3 (0, 0))) ?_ ?_
              rotate_left
              · intro hjoin
                refine two_ (i := 2) (j := 4) (Ni := some 37) (Nj := some 39) #[true, true, true, true, false, false, false] #[true, true, false, true, true, false, false] rfl rfl rfl rfl (by kernel_rfl) (by decide) (by decide) (fun K hK => ?_) (fun K hK => ?_)
                · skip
                  refine goes_ Try.func35 (by kernel_rfl) rfl #[.slice A0 l0.length c0] (by rfl) rfl rfl (by (try simp only [List.map_toArray, List.map_cons, List.map_nil]); first | done | rfl | (simp only [List.length_drop, List.length_take]; rfl)) ?_
                  with_reducible refine (slices_Clone_int_int.calls _ _ l0 t159 _ ?side1 ?side2 A17.out).mono ?_
                  (case side1 => exact Kd.F_now (HRb.out))
                  (case side2 => exact HC0.out)
                  rintro e wc ⟨v, rfl, ho0, hb⟩
                  refine ⟨_, rfl, ?_⟩
                  refine hK.out _ _ ((blk_cell (blk_below HFT.bt hb) 0).trans rfl) (fun hHeld => ?_)
                  clear hK K
                  refine norm_ (a' := ?_) ?_ ?_
                  rotate_left
                  · show Act.put _ (some 37) _ = _
                    simp only [Act.put, List.setIfInBounds_toArray, List.set_cons_zero, List.set_cons_succ]
                    rfl
                  refine one_ (i := 4) (N := some 39) #[true, true, true, true, true, false, false] rfl rfl (by kernel_rfl) (by decide) (fun K hK => ?_)
                  go_simp
                  refine hK.out _ _ ((blk_cell (blk_alloc (blk_below HFT.bt hb) _) 0).trans rfl) (fun hHeld => ?_)
                  clear hK K
                  refine norm_ (a' := putAll _ [(37, v), (39, .slice (some ⟨wc.heap.size, 0, none⟩) 1 1)]) ?_ (hjoin (v, wc.heap.size) _ ⟨Kd.R_alloc ho0 _, below_alloc hb _, blk_new _ _⟩)
                  simp only [putAll, Act.put, List.setIfInBounds_toArray, List.set_cons_zero, List.set_cons_succ]
                · go_simp
                  refine hK.out _ _ ((blk_cell (blk_alloc HFT.bt _) 0).trans rfl) (fun hHeld => ?_)
                  clear hK K
                  refine one_ (i := 2) (N := some 37) #[true, true, true, true, true, false, false] rfl rfl (by kernel_rfl) (by decide) (fun K hK => ?_)
                  refine goes_ Try.func35 (by kernel_rfl) rfl #[.slice A0 l0.length c0] (by rfl) rfl rfl (by (try simp only [List.map_toArray, List.map_cons, List.map_nil]); first | done | rfl | (simp only [List.length_drop, List.length_take]; rfl)) ?_
                  with_reducible refine (slices_Clone_int_int.calls _ _ l0 t159 _ ?side1 ?side2 A17.out).mono ?_
                  (case side1 => exact Kd.F_now (Kd.F_alloc HRb.out _))
                  (case side2 => exact HC0.out)
                  rintro e wc ⟨v, rfl, ho0, hb⟩
                  refine ⟨_, rfl, ?_⟩
                  have hle := (below_alloc (Below.refl wb.heap.size wb) (.cells #[.int .i64 x28] 3)).size
                  refine hK.out _ _ ((blk_cell (blk_below (blk_alloc HFT.bt _) hb) 0).trans rfl) (fun hHeld => ?_)
                  clear hK K
                  refine norm_ (a' := putAll _ [(37, v), (39, .slice (some ⟨wb.heap.size, 0, none⟩) 1 1)]) ?_ (hjoin (v, wb.heap.size) _ ⟨Kd.R_lower ho0 hle, below_step (below_alloc (Below.refl _ _) _) hb, blk_below (blk_new _ _) hb⟩)
                  simp only [putAll, Act.put, List.setIfInBounds_toArray, List.set_cons_zero, List.set_cons_succ]
              rintro ⟨v, g⟩ wc ⟨ho, hb, hg⟩
              dsimp only at ho hb hg ⊢
              refine norm_ (a' := ?_) ?_ ?_
              rotate_left
              · simp only [putAll, Act.put, List.setIfInBounds_toArray, List.set_cons_zero, List.set_cons_succ]
                rfl
              have HSc := HFT.below hb
              obtain ⟨Ao, co, eo⟩ := Kd.R_slice ho
              subst eo
              refine one_ (i := 5) (N := some 40) #[true, true, true, true, true, true, false] rfl rfl (by kernel_rfl) (by decide) (fun K hK => ?_)
              refine Kd.R_append_rows_step (Kd.int .i64) (w0 := wb) wb.heap.size (by rfl) (.tmp 37) (.tmp 39) 24 3 (.int .i64 0) 8 rfl Try.underlying24 info3 rfl (by decide) (by omega) (.slice Ao t159.length co) t159 [x28] _ _ _ (fun _ => True) (fun _ => False) rfl rfl ho (C_one hg) (fun _ _ h => h) (fun _ h => h.elim) (fun _ _ => trivial) hb hb.size (by have := LM.out; omega) ?_
              intro v1 w1 ho1 hb1 hg1 hat1
              have HSd := HFT.below hb1
              refine hK.out _ _ ((blk_cell HSd.bt 0).trans rfl) (fun hHeld => ?_)
              clear hK K
              refine norm_ (a' := ?_) ?_ ?_
              rotate_left
              · show Act.put _ (some 40) _ = _
                simp only [Act.put, List.setIfInBounds_toArray, List.set_cons_zero, List.set_cons_succ]
                rfl
              obtain ⟨Ap, cp, ep⟩ := Kd.R_slice ho1
              subst ep
              have HFd : Kd.F (Kd.int .i64) w1 (fun k => k ≠ gl ∧ k ≠ gb) Ap (t159 ++ [x28]).length (t159 ++ [x28]) := Kd.F_mono (Kd.R_F (Kd.R_bound ho1)) (fun k hk => ⟨fun e => absurd hk.2.1 (by have := blk_lt HFT.bl; omega), fun e => absurd hk.2.1 (by have := blk_lt HFT.bb; omega)⟩)
              refine one_ (i := 6) (N := some 41) #[true, true, true, true, true, true, true] rfl rfl (by kernel_rfl) (by decide) (fun K hK => ?_)
              refine goesF_ (f := 34) Try.func34 (by kernel_rfl) rfl #[.slice Ap (t159 ++ [x28]).length cp, .pointer (some ⟨gp, 0, none⟩), .pointer (some ⟨gl, 0, none⟩), .pointer (some ⟨gb, 0, none⟩), .pointer (some ⟨gt, 0, none⟩)] (by rfl) rfl rfl rfl (by (try simp only [List.map_toArray, List.map_cons, List.map_nil, List.append_toArray, List.cons_append, List.nil_append]); first | done | rfl) ?_
              refine (ih k1 (by have := HK1.out; omega) gp gl gb gt B Ap cp (t159 ++ [x28]) A1 c1 l1 x2 ub x3 t165 t168 w1 (Nat.le_trans hB (Nat.le_trans HBb.out.size hb1.size)) HFd (Kd.R_reads' ho1).2.1 HC1.out HSd A19.out).mono ?_
              rintro e w2 ⟨rfl, ⟨ub2, HS2⟩, hb2, hk2⟩
              refine ⟨_, rfl, ?_⟩
              refine hK.out _ _ ((blk_cell HS2.bt 0).trans rfl) (fun hHeld => ?_)
              clear hK K
              refine norm_ (a' := ?_) ?_ ?_
              rotate_left
              · show Act.put _ (some 41) _ = _
                simp only [Act.put, List.setIfInBounds_toArray, List.set_cons_zero, List.set_cons_succ]
                rfl
              refine done_ (by kernel_rfl) ?_
              have HS3 := Aside0.mk HS2
              have HR3 := Aside0.mk (Kd.F_kept (Kd.F_below HRb.out hb1) hk2 (fun k hk hS => hS.elim hk.1 hk.2))
              have HB3 := Aside0.mk ((below_mid hB HBb.out hb1).trans hb2)
              have HK3 := Aside0.mk ((HKb.out.below hb1).then_ hk2 (fun _ h => .inl h))
              clear HS2 hb2 hk2 HFd hHeld HSd HSc ho ho1 hb hb1 hg hg1 hat1 HFT HSb HRb HBb HKb
              go_wp2
              go_roundg k1
              case measure => have := HK1.out; omega
              case rel => exact ⟨t168, t165, ub2, (wrap64 (x28 + 1)), (by first | rfl | (simp; done) | (simp [*]; done)), H', ⟨by have := HK1.out; omega⟩, HS3, HR3, HB3, HK3⟩
            · rw [if_neg c18] at H
              exact absurd H (by simp)
        · rw [if_neg c14] at H
          have c14b0 : decide (x28 < (l1.length : Int)) = false := decide_eq_false c14
          clear c14
          obtain ⟨t155, A250, H⟩ := Option.bind_eq_some_iff.mp H
          have E := clone_self A250
          clear A250
          simp only [Option.some.injEq, Prod.mk.injEq] at H
          obtain ⟨rfl, rfl⟩ := H
          subst E
          go_wp2
          go_end0
          exact ⟨rfl, ⟨ub, HS.out⟩, HB.out, HK.out⟩
/-! ### impl_bestAssign: function 26 -/
def impl_bestAssign.f (k : Nat) (l0 : List (List Int)) : Option (List Int × Int) := (impl_bestAssign_fn1.f k ([] : List Int) l0 (-1) ([] : List Int)).bind fun bt154 => (some (bt154.1, bt154.2))
theorem impl_bestAssign.mono : ∀ a0 k, LeO (impl_bestAssign.f k a0) (impl_bestAssign.f (k + 1) a0) := by
  intro a0 k
  unfold impl_bestAssign.f
  repeat' first
      | (with_reducible exact impl_bestAssign_fn1.mono _ _ _ _ _)
      | (with_reducible exact LeO.refl _)
      | (with_reducible exact LeO.none _)
      | (with_reducible refine LeO.ite ?_ ?_)
      | (with_reducible refine LeO.bind ?_ (fun _ => ?_))
      | exact impl_bestAssign_fn1.mono _ _ _ _ _
      | exact LeO.none _
      | refine LeO.ite ?_ ?_
      | refine LeO.bind ?_ (fun _ => ?_)
set_option maxHeartbeats 8000000 in
set_option maxRecDepth 100000 in
theorem impl_bestAssign.calls (k : Nat) (A0 : Option Addr) (c0 : Nat) (l0 : List (List Int)) (r1 : List Int) (r2 : Int) (w : World) (hr0 : Kd.C (Kd.slice 3 (Kd.int .i64)) w A0 l0.length l0) (hc0 : l0.length ≤ c0) (h : impl_bestAssign.f k l0 = some (r1, r2)) :
    Calls Try.prog 26 #[.slice A0 l0.length c0] w fun e w' => ∃ v0_ : Value, e = .returned (.tuple #[v0_, .int .i64 r2]) ∧ Kd.R (Kd.int .i64) 3 w' w.heap.size (fun _ => True) v0_ r1 ∧ Below w.heap.size w w' := by
  have HR0 := Aside0.mk hr0
  have HC0 := Aside0.mk hc0
  clear hr0 hc0
  have H : ((impl_bestAssign_fn1.f k ([] : List Int) l0 (-1) ([] : List Int)).bind fun bt169 => (some (bt169.1, bt169.2))) = some (r1, r2) := h
  clear h
  obtain ⟨⟨t169, t172⟩, A20, H⟩ := Option.bind_eq_some_iff.mp H
  have A2 := Aside0.mk A20
  clear A20
  simp only [Option.some.injEq, Prod.mk.injEq] at H
  obtain ⟨rfl, rfl⟩ := H
  have hmf : ∀ (fn : Fn) (first cap : Array Value) (w : World), (Instr.makeFunc fn first cap).run Try.prog w = .ok (.func fn first cap) w := fun _ _ _ _ => rfl
  go_enter Try.func26, Try.ntmps26
  go_upto_region 4 with fail
  have h1 := blk_new w (.cells #[.slice A0 l0.length c0] 22)
  have HB1 := below_alloc (Below.refl w.heap.size w) (.cells #[.slice A0 l0.length c0] 22)
  have s1 : (w.alloc (.cells #[.slice A0 l0.length c0] 22)).heap.size = w.heap.size + 1 := Array.size_push _
  generalize w.alloc (.cells #[.slice A0 l0.length c0] 22) = wa at h1 HB1 s1 ⊢
  have h2 := blk_new wa (.cells #[.slice none 0 0] 24)
  replace h1 := blk_alloc h1 (.cells #[.slice none 0 0] 24)
  replace HB1 := below_alloc HB1 (.cells #[.slice none 0 0] 24)
  have s2 : (wa.alloc (.cells #[.slice none 0 0] 24)).heap.size = w.heap.size + 1 + 1 := (Array.size_push _).trans (congrArg (· + 1) s1)
  rw [s1] at h2
  generalize wa.alloc (.cells #[.slice none 0 0] 24) = wb at h1 h2 HB1 s2 ⊢
  have h3 := blk_new wb (.cells #[.int .i64 (-1)] 3)
  replace h1 := blk_alloc h1 (.cells #[.int .i64 (-1)] 3)
  replace h2 := blk_alloc h2 (.cells #[.int .i64 (-1)] 3)
  replace HB1 := below_alloc HB1 (.cells #[.int .i64 (-1)] 3)
  have s3 : (wb.alloc (.cells #[.int .i64 (-1)] 3)).heap.size = w.heap.size + 1 + 1 + 1 := (Array.size_push _).trans (congrArg (· + 1) s2)
  rw [s2] at h3
  generalize wb.alloc (.cells #[.int .i64 (-1)] 3) = wc at h1 h2 h3 HB1 s3 ⊢
  have h4 := blk_new wc (.cells #[.nilFunc] 57)
  replace h1 := blk_alloc h1 (.cells #[.nilFunc] 57)
  replace h2 := blk_alloc h2 (.cells #[.nilFunc] 57)
  replace h3 := blk_alloc h3 (.cells #[.nilFunc] 57)
  replace HB1 := below_alloc HB1 (.cells #[.nilFunc] 57)
  rw [s3] at h4
  generalize wc.alloc (.cells #[.nilFunc] 57) = wd at h1 h2 h3 h4 HB1 ⊢
  have gL : w.heap.size ≤ w.heap.size + 1 + 1 := by omega
  have gB : w.heap.size ≤ w.heap.size + 1 := by omega
  have gT : w.heap.size ≤ w.heap.size + 1 + 1 + 1 := by omega
  have HP : Kd.F (Kd.slice 3 (Kd.int .i64)) wd (fun k => k < w.heap.size) A0 l0.length l0 := Kd.F_below (Kd.C_F (Kd.heap_slice 3 (Kd.heap_int .i64)) HR0.out) HB1
  clear s1 s2 s3
  have hz4 : wd.cell? ⟨w.heap.size + 1 + 1 + 1, 0, none⟩ = some .nilFunc := (blk_cell h4 0).trans rfl
  have hf4 := blk_frozen h4 0
  go_upto_region 5 with fail
  have HS : BestSt (wd.setCell ⟨w.heap.size + 1 + 1 + 1, 0, none⟩ (.func (.func 34) #[] #[.pointer (some ⟨w.heap.size, 0, none⟩), .pointer (some ⟨w.heap.size + 1 + 1, 0, none⟩), .pointer (some ⟨w.heap.size + 1, 0, none⟩), .pointer (some ⟨w.heap.size + 1 + 1 + 1, 0, none⟩)])) w.heap.size w.heap.size (w.heap.size + 1 + 1) (w.heap.size + 1) (w.heap.size + 1 + 1 + 1) A0 c0 l0 (-1) (.slice none 0 0) [] :=
    ⟨blk_far h1 (by simp only [ne_eq]; omega) _, blk_far h3 (by simp only [ne_eq]; omega) _, blk_far h2 (by simp only [ne_eq]; omega) _, by simpa using blk_set h4 0 (.func (.func 34) #[] #[.pointer (some ⟨w.heap.size, 0, none⟩), .pointer (some ⟨w.heap.size + 1 + 1, 0, none⟩), .pointer (some ⟨w.heap.size + 1, 0, none⟩), .pointer (some ⟨w.heap.size + 1 + 1 + 1, 0, none⟩)]), Kd.F_mono (Kd.F_far HP (fun k hk => by simp only [ne_eq]; omega) _) (fun k hk => ⟨by omega, by omega⟩), Kd.R_nil _ _ _ _ _, gL, gB⟩
  have HBe := HB1.setCell gT (.func (.func 34) #[] #[.pointer (some ⟨w.heap.size, 0, none⟩), .pointer (some ⟨w.heap.size + 1 + 1, 0, none⟩), .pointer (some ⟨w.heap.size + 1, 0, none⟩), .pointer (some ⟨w.heap.size + 1 + 1 + 1, 0, none⟩)]) (p := ⟨w.heap.size + 1 + 1 + 1, 0, none⟩)
  generalize wd.setCell ⟨w.heap.size + 1 + 1 + 1, 0, none⟩ (.func (.func 34) #[] #[.pointer (some ⟨w.heap.size, 0, none⟩), .pointer (some ⟨w.heap.size + 1 + 1, 0, none⟩), .pointer (some ⟨w.heap.size + 1, 0, none⟩), .pointer (some ⟨w.heap.size + 1 + 1 + 1, 0, none⟩)]) = we at HS HBe ⊢
  clear h1 h2 h3 h4 hz4 hf4 HP HB1
  have hz5 : we.cell? ⟨w.heap.size + 1 + 1 + 1, 0, none⟩ = some (.func (.func 34) #[] #[.pointer (some ⟨w.heap.size, 0, none⟩), .pointer (some ⟨w.heap.size + 1 + 1, 0, none⟩), .pointer (some ⟨w.heap.size + 1, 0, none⟩), .pointer (some ⟨w.heap.size + 1 + 1 + 1, 0, none⟩)]) := (blk_cell HS.bt 0).trans rfl
  have HSA := Aside0.mk HS
  clear HS
  go_wp2_with (first | (refine goesV_ (some 9) rfl rfl (f := 34) Try.func34 (by kernel_rfl) rfl #[.slice none 0 0, .pointer (some ⟨w.heap.size, 0, none⟩), .pointer (some ⟨w.heap.size + 1 + 1, 0, none⟩), .pointer (some ⟨w.heap.size + 1, 0, none⟩), .pointer (some ⟨w.heap.size + 1 + 1 + 1, 0, none⟩)] rfl rfl (by (try simp only [List.map_toArray, List.map_cons, List.map_nil, List.append_toArray, List.cons_append, List.nil_append]); first | done | rfl) ?_; refine (impl_bestAssign_fn1.calls k w.heap.size (w.heap.size + 1 + 1) (w.heap.size + 1) (w.heap.size + 1 + 1 + 1) w.heap.size none 0 [] A0 c0 l0 (-1) (.slice none 0 0) [] t169 t172 we HBe.size (Kd.F_nil _ _ _) (Nat.le_refl _) HC0.out HSA.out A2.out).mono ?_; rintro e wf ⟨rfl, ⟨ub, HSf⟩, hbf, hkf⟩; refine ⟨_, rfl, ?_⟩))
  obtain ⟨Au, cu, eu⟩ := Kd.R_slice HSf.ow
  subst eu
  have hz6 : wf.cell? ⟨w.heap.size + 1, 0, none⟩ = some (.slice Au t169.length cu) := (blk_cell HSf.bb 0).trans rfl
  have hz7 : wf.cell? ⟨w.heap.size + 1 + 1, 0, none⟩ = some (.int .i64 t172) := (blk_cell HSf.bl 0).trans rfl
  (try simp only [Act.put, List.setIfInBounds_toArray, List.set_cons_zero, List.set_cons_succ])
  have HBF := HBe.trans hbf
  have HOF := HSf.ow
  clear hz5 HSA HSf hkf hbf HBe
  repeat (go_quiet (fail); try go_wp2)
  go_ret2
  exact ⟨_, by first | rfl | (simp; done), Kd.R_mono (by (with_reducible repeat (first | apply Kd.R_alloc | apply Kd.R_drewN | apply Kd.R_drew)); exact HOF) (fun _ _ => trivial), by repeat (first | exact HBF | apply pw_below_drewN | apply below_drewB)⟩


end Go.Proofs.Ytllcdmjleohikaa.PFnAssign
