-- Written by this session's own program for the law FnFrames.
import Derived.Test.YtimaapbgoooibaaDoorQFnFramesx0

namespace Go.Proofs.YtimaapbgoooibaaDoor.PFnFrames
open Go.RowKit Go.Proofs.YtimaapbgoooibaaDoorW.PrintWords Go.Proofs.YtimaapbgoooibaaDoorW.PrintLast Go.Proofs.YtimaapbgoooibaaDoorW.PrintMore
attribute [local go_sem] max2_int min2_int max_two min_two max_three min_three max_four min_four   -- for this text's walks alone
set_option linter.unusedVariables false
set_option linter.unusedSimpArgs false

/-! ### impl_stuff: function 32 -/
/-- What the closure of impl.stuff has in its boxes: the bits so far, how many alike stand at their end. -/
structure PutSt (w : World) (B gr gb : Nat) (vb : Value) (s : List Int × Int) : Prop where
  br : w.heap[gr]? = some (.cells #[.int .i64 s.2] 3 (0, 0))
  bb : w.heap[gb]? = some (.cells #[vb] 22 (0, 0))
  ow : Kd.R (Kd.int .u8) 5 w B (fun k => k ≠ gr ∧ k ≠ gb) vb s.1
  rB : B ≤ gr
  bB : B ≤ gb
  ne : 0 < s.2 → 0 < s.1.length
def putStep (s : List Int × Int) (c : Int) : List Int × Int := (s.1 ++ [c], if 0 < s.2 ∧ rd s.1 (wrap64 ((s.1.length : Int) - 1)) = c then wrap64 (s.2 + 1) else 1)
def stuffStep (s : List Int × Int) (c : Int) : List Int × Int := if (putStep s c).2 = 5 then putStep (putStep s c) ((97 - c) % 256) else putStep s c
def stuffTo (a0 : ByteArray) : Nat → List Int × Int
  | 0 => ([], 0)
  | i + 1 => stuffStep (stuffTo a0 i) (bt a0 (i : Int))
theorem putStep_len (s : List Int × Int) (c : Int) : (putStep s c).1.length = s.1.length + 1 := by simp [putStep]
theorem stuffStep_len (s : List Int × Int) (c : Int) : (stuffStep s c).1.length ≤ s.1.length + 2 := by
  unfold stuffStep
  split
  · rw [putStep_len, putStep_len]; omega
  · rw [putStep_len]; omega
theorem stuffTo_len (a0 : ByteArray) : ∀ i, (stuffTo a0 i).1.length ≤ 2 * i
  | 0 => by simp [stuffTo]
  | i + 1 => by
    have h := stuffTo_len a0 i
    have h2 := stuffStep_len (stuffTo a0 i) (bt a0 (i : Int))
    simp only [stuffTo]
    omega
theorem below_mid5 {B : Nat} {w W : World} (hB : B ≤ w.heap.size) (h : Below B w W) {W2 : World} (k : Below W.heap.size W W2) : Below B w W2 := below_then h (Nat.le_trans hB h.size) k
set_option maxHeartbeats 8000000 in
set_option maxRecDepth 100000 in
theorem stuff_put.calls (gr gb B : Nat) (c : Int) (vb : Value) (s : List Int × Int) (w : World) (hB : B ≤ w.heap.size) (hs : PutSt w B gr gb vb s) (hl : s.1.length < 17592186044416) :
    Calls Tryd.prog 42 #[.int .u8 c, .pointer (some ⟨gr, 0, none⟩), .pointer (some ⟨gb, 0, none⟩)] w fun e w' => e = .returned (.tuple #[]) ∧ (∃ vb', PutSt w' B gr gb vb' (putStep s c)) ∧ Below B w w' := by
  obtain ⟨lb, run⟩ := s
  obtain ⟨Ab, cb, eb⟩ := Kd.R_slice hs.ow
  subst eb
  have HS := Aside0.mk hs
  have hzr : w.cell? ⟨gr, 0, none⟩ = some (.int .i64 run) := (blk_cell hs.br 0).trans rfl
  have hzb : w.cell? ⟨gb, 0, none⟩ = some (.slice Ab lb.length cb) := (blk_cell hs.bb 0).trans rfl
  have hfr := blk_frozen hs.br 0
  have hfb := blk_frozen hs.bb 0
  have hne1 : gr ≠ gb := blk_ne hs.br hs.bb (by decide)
  have LM := Aside0.mk hl
  clear hl
  obtain ⟨run', hrun'⟩ : ∃ run' : Int, run' = (putStep (lb, run) c).2 := ⟨_, rfl⟩
  have HRN := Aside0.mk hrun'
  clear hrun'
  have FIN : ∀ W, W = w.setCell ⟨gr, 0, none⟩ (.int .i64 run') → (W.heap[gr]? = some (.cells #[.int .i64 run'] 3 (0, 0)) ∧ W.heap[gb]? = some (.cells #[.slice Ab lb.length cb] 22 (0, 0)) ∧ Kd.R (Kd.int .u8) 5 W B (fun k => k ≠ gr ∧ k ≠ gb) (.slice Ab lb.length cb) lb ∧ Below B w W) := fun W e => by
    subst e
    exact ⟨by simpa using blk_set HS.out.br 0 (.int .i64 run'), blk_far HS.out.bb (Ne.symm hne1) _, Kd.R_far HS.out.ow (fun _ hk => hk.1) _, (Below.refl B w).setCell HS.out.rB _⟩
  have HF := Aside0.mk FIN
  clear FIN hs
  by_cases c8 : 0 < run
  · have hlen : 0 < lb.length := HS.out.ne c8
    have hw1 : wrap64 ((lb.length : Int) - 1) = (lb.length : Int) - 1 := by have := LM.out; unfold wrap64; simp only at this; omega
    have p9 : 0 ≤ wrap64 ((lb.length : Int) - 1) := by rw [hw1]; omega
    have q9 : wrap64 ((lb.length : Int) - 1) < (lb.length : Int) := by rw [hw1]; omega
    obtain ⟨ad9, e9, hx9⟩ := Kd.at_int (Kd.R_reads' HS.out.ow).2.2 (wrap64 ((lb.length : Int) - 1)) p9 q9
    cases e9
    clear hw1
    replace p9 := eq_true p9
    replace q9 := eq_true q9
    have c8b0 : decide (0 < run) = true := decide_eq_true c8
    by_cases c9 : rd lb (wrap64 ((lb.length : Int) - 1)) = c
    · have hr : run' = wrap64 (run + 1) := by rw [HRN.out]; simp only [putStep]; rw [if_pos ⟨c8, c9⟩]
      have c9b0 : (rd lb (wrap64 ((lb.length : Int) - 1)) == c) = true := beq_iff_eq.mpr c9
      clear c8 c9
      subst hr
      go_enter Tryd.func42, Tryd.ntmps42
      go_upto_region 3 with fail
      obtain ⟨f1, f2, f3, f4⟩ := HF.out _ rfl
      generalize w.setCell ⟨gr, 0, none⟩ (.int .i64 (wrap64 (run + 1))) = W at f1 f2 f3 f4 ⊢
      have hz1 : W.cell? ⟨gb, 0, none⟩ = some (.slice (some ad9) lb.length cb) := (blk_cell f2 0).trans rfl
      have hf1 := blk_frozen f2 0
      have F1 := Aside0.mk f1
      have F2 := Aside0.mk f2
      have F3 := Aside0.mk f3
      have F4 := Aside0.mk f4
      have HBW := Aside0.mk (Nat.le_trans hB f4.size)
      clear f1 f2 f3 f4 hzr hzb hfr hfb
      go_wp2_with (first | ((with_reducible refine gate_builtin (b := .append) (xs := #[.tmp 18, .tmp 20]) rfl ?_); at_builtin; refine Kd.R_append (Kd.int .u8) (w0 := W) B rfl (.tmp 18) (.tmp 20) 22 5 (.int .u8 0) 1 rfl Tryd.underlying22 info5 rfl (by decide) (by omega) (.slice (some ad9) lb.length cb) lb c [.int .u8 c] (fun k => k ≠ gr ∧ k ≠ gb) (fun _ => False) rfl rfl ?aP (fun _ hk => hk.elim) ?aF ?aO ?aB ?aS ?aL ?_; (case aP => exact rfl); (case aB => exact Below.refl _ _); (case aF => exact (fun k_ hk => ⟨fun e => absurd hk (by have := blk_lt F1.out; omega), fun e => absurd hk (by have := blk_lt F2.out; omega)⟩)); (case aO => exact F3.out); (case aS => exact HBW.out); (case aL => have := LM.out; simp only at this; omega); intro v163 w21 ho hb hg hat; have G1 := Aside0.mk (blk_grown F1.out hg (fun e => (F3.out.1 gr e.symm).1 rfl)); have G2 := Aside0.mk (blk_grown F2.out hg (fun e => (F3.out.1 gb e.symm).2 rfl)); have G3 := Aside0.mk ho; have G4 := Aside0.mk hb; clear ho hb hg hat hz1 hf1; obtain ⟨Ac, cc, ec⟩ := Kd.R_slice G3.out; subst ec; have hz2 : w21.cell? ⟨gb, 0, none⟩ = some (.slice (some ad9) lb.length cb) := (blk_cell G2.out 0).trans rfl; have hf2 := blk_frozen G2.out 0))
      go_end0
      have hne2 := blk_ne G1.out G2.out (by decide)
      exact ⟨rfl, ⟨.slice Ac (lb ++ [c]).length cc, ⟨by (first | rw [← HRN.out] | skip); exact blk_far G1.out hne2 _, by simpa using blk_set G2.out 0 (.slice Ac (lb ++ [c]).length cc), Kd.R_far G3.out (fun _ hk => hk.2) _, HS.out.rB, HS.out.bB, fun _ => by simp [putStep]⟩⟩, ((F4.out.trans G4.out).setCell HS.out.bB _)⟩
    · have hr : run' = 1 := by rw [HRN.out]; simp only [putStep]; rw [if_neg (fun h => c9 h.2)]
      have c9b0 : (rd lb (wrap64 ((lb.length : Int) - 1)) == c) = false := beq_eq_false_iff_ne.mpr c9
      clear c8 c9
      subst hr
      go_enter Tryd.func42, Tryd.ntmps42
      go_upto_region 3 with fail
      obtain ⟨f1, f2, f3, f4⟩ := HF.out _ rfl
      generalize w.setCell ⟨gr, 0, none⟩ (.int .i64 1) = W at f1 f2 f3 f4 ⊢
      have hz1 : W.cell? ⟨gb, 0, none⟩ = some (.slice (some ad9) lb.length cb) := (blk_cell f2 0).trans rfl
      have hf1 := blk_frozen f2 0
      have F1 := Aside0.mk f1
      have F2 := Aside0.mk f2
      have F3 := Aside0.mk f3
      have F4 := Aside0.mk f4
      have HBW := Aside0.mk (Nat.le_trans hB f4.size)
      clear f1 f2 f3 f4 hzr hzb hfr hfb
      go_wp2_with (first | ((with_reducible refine gate_builtin (b := .append) (xs := #[.tmp 18, .tmp 20]) rfl ?_); at_builtin; refine Kd.R_append (Kd.int .u8) (w0 := W) B rfl (.tmp 18) (.tmp 20) 22 5 (.int .u8 0) 1 rfl Tryd.underlying22 info5 rfl (by decide) (by omega) (.slice (some ad9) lb.length cb) lb c [.int .u8 c] (fun k => k ≠ gr ∧ k ≠ gb) (fun _ => False) rfl rfl ?aP (fun _ hk => hk.elim) ?aF ?aO ?aB ?aS ?aL ?_; (case aP => exact rfl); (case aB => exact Below.refl _ _); (case aF => exact (fun k_ hk => ⟨fun e => absurd hk (by have := blk_lt F1.out; omega), fun e => absurd hk (by have := blk_lt F2.out; omega)⟩)); (case aO => exact F3.out); (case aS => exact HBW.out); (case aL => have := LM.out; simp only at this; omega); intro v163 w21 ho hb hg hat; have G1 := Aside0.mk (blk_grown F1.out hg (fun e => (F3.out.1 gr e.symm).1 rfl)); have G2 := Aside0.mk (blk_grown F2.out hg (fun e => (F3.out.1 gb e.symm).2 rfl)); have G3 := Aside0.mk ho; have G4 := Aside0.mk hb; clear ho hb hg hat hz1 hf1; obtain ⟨Ac, cc, ec⟩ := Kd.R_slice G3.out; subst ec; have hz2 : w21.cell? ⟨gb, 0, none⟩ = some (.slice (some ad9) lb.length cb) := (blk_cell G2.out 0).trans rfl; have hf2 := blk_frozen G2.out 0))
      go_end0
      have hne2 := blk_ne G1.out G2.out (by decide)
      exact ⟨rfl, ⟨.slice Ac (lb ++ [c]).length cc, ⟨by (first | rw [← HRN.out] | skip); exact blk_far G1.out hne2 _, by simpa using blk_set G2.out 0 (.slice Ac (lb ++ [c]).length cc), Kd.R_far G3.out (fun _ hk => hk.2) _, HS.out.rB, HS.out.bB, fun _ => by simp [putStep]⟩⟩, ((F4.out.trans G4.out).setCell HS.out.bB _)⟩
  · have hr : run' = 1 := by rw [HRN.out]; simp only [putStep]; rw [if_neg (fun h => c8 h.1)]
    have c8b0 : decide (0 < run) = false := decide_eq_false c8
    clear c8
    subst hr
    go_enter Tryd.func42, Tryd.ntmps42
    go_upto_region 3 with fail
    obtain ⟨f1, f2, f3, f4⟩ := HF.out _ rfl
    generalize w.setCell ⟨gr, 0, none⟩ (.int .i64 1) = W at f1 f2 f3 f4 ⊢
    have hz1 : W.cell? ⟨gb, 0, none⟩ = some (.slice Ab lb.length cb) := (blk_cell f2 0).trans rfl
    have hf1 := blk_frozen f2 0
    have F1 := Aside0.mk f1
    have F2 := Aside0.mk f2
    have F3 := Aside0.mk f3
    have F4 := Aside0.mk f4
    have HBW := Aside0.mk (Nat.le_trans hB f4.size)
    clear f1 f2 f3 f4 hzr hzb hfr hfb
    go_wp2_with (first | ((with_reducible refine gate_builtin (b := .append) (xs := #[.tmp 18, .tmp 20]) rfl ?_); at_builtin; refine Kd.R_append (Kd.int .u8) (w0 := W) B rfl (.tmp 18) (.tmp 20) 22 5 (.int .u8 0) 1 rfl Tryd.underlying22 info5 rfl (by decide) (by omega) (.slice Ab lb.length cb) lb c [.int .u8 c] (fun k => k ≠ gr ∧ k ≠ gb) (fun _ => False) rfl rfl ?aP (fun _ hk => hk.elim) ?aF ?aO ?aB ?aS ?aL ?_; (case aP => exact rfl); (case aB => exact Below.refl _ _); (case aF => exact (fun k_ hk => ⟨fun e => absurd hk (by have := blk_lt F1.out; omega), fun e => absurd hk (by have := blk_lt F2.out; omega)⟩)); (case aO => exact F3.out); (case aS => exact HBW.out); (case aL => have := LM.out; simp only at this; omega); intro v163 w21 ho hb hg hat; have G1 := Aside0.mk (blk_grown F1.out hg (fun e => (F3.out.1 gr e.symm).1 rfl)); have G2 := Aside0.mk (blk_grown F2.out hg (fun e => (F3.out.1 gb e.symm).2 rfl)); have G3 := Aside0.mk ho; have G4 := Aside0.mk hb; clear ho hb hg hat hz1 hf1; obtain ⟨Ac, cc, ec⟩ := Kd.R_slice G3.out; subst ec; have hz2 : w21.cell? ⟨gb, 0, none⟩ = some (.slice Ab lb.length cb) := (blk_cell G2.out 0).trans rfl; have hf2 := blk_frozen G2.out 0))
    go_end0
    have hne2 := blk_ne G1.out G2.out (by decide)
    exact ⟨rfl, ⟨.slice Ac (lb ++ [c]).length cc, ⟨by (first | rw [← HRN.out] | skip); exact blk_far G1.out hne2 _, by simpa using blk_set G2.out 0 (.slice Ac (lb ++ [c]).length cc), Kd.R_far G3.out (fun _ hk => hk.2) _, HS.out.rB, HS.out.bB, fun _ => by simp [putStep]⟩⟩, ((F4.out.trans G4.out).setCell HS.out.bB _)⟩
/-- A call of a function value in a plain region. -/
theorem goesV5_ {P : Program} {ops : Array Oper} {Q : Exit → Act → World → Prop} {rest : List Oper} {oi : Oper} {a : Act} {w : World} (N : Option Tmp) (hd : oi.dst = N) (hg : oi.guard = none) {f : FuncId} {fn : Func} {ys : Array Operand} {ts : Array TypeId} (hf : P.funcs[f]? = some fn) (hname : (fn.name == "runtime.NumGoroutine") = false) (hb : fn.body.isSome = true) (args : Array Value)
    {x : Operand} {cap : Array Value} (hop : oi.op = .call { callee := .value x, args := ys, argTypes := ts }) (hx : a.eval x = .func (.func f) #[] cap) (hargs : ys.map a.eval ++ cap = args)
    (h : Calls P f args w fun e w' => ∃ v, e = .returned v ∧ wpList P ops Q rest (a.put N v) w') : wpList P ops Q (oi :: rest) a w := by
  refine wpList_plain hg fun K hK => ?_
  have he := enters_ hf hname hb args w
  have hrun : (execOp a.eval oi).run P w = .ok (.enter f args) w := by
    unfold execOp
    simp [hop, resolve, Deferred.ofValue, invoke, hx, hargs, he]
  unfold Oper.wp
  rw [hrun, Oper.upon_enter]
  refine h.mono fun e w'' hh => ?_
  obtain ⟨v, rfl, hk⟩ := hh
  subst hd
  exact hK _ _ hk
theorem wrap_nat1 (i : Nat) (h : i < 4611686018427387904) : wrap64 ((i : Int) + 1) = ((i + 1 : Nat) : Int) := by unfold wrap64; omega
def impl_stuff.f (a0 : ByteArray) : Option (ByteArray) := if a0.size ≤ 1000000 then some (strOfNums (stuffTo a0 a0.size).1) else none
set_option maxHeartbeats 8000000 in
set_option maxRecDepth 100000 in
theorem impl_stuff.calls (a0 : ByteArray) (r : ByteArray) (w : World) (h : impl_stuff.f a0 = some r) :
    Calls Tryd.prog 32 #[.string a0] w fun e w' => e = .returned (.string r) ∧ Below w.heap.size w w' := by
  unfold impl_stuff.f at h
  by_cases hsz : a0.size ≤ 1000000
  · rw [if_pos hsz] at h
    obtain rfl := Option.some.inj h
    have HSZ := Aside0.mk hsz
    clear h hsz
    have hmf : ∀ (fn : Fn) (first cap : Array Value) (w : World), (Instr.makeFunc fn first cap).run Tryd.prog w = .ok (.func fn first cap) w := fun _ _ _ _ => rfl
    go_enter Tryd.func32, Tryd.ntmps32
    go_upto_region 3 with fail
    have h1 := blk_new w (.cells #[.slice none 0 0] 22)
    have HB1 := below_alloc (Below.refl w.heap.size w) (.cells #[.slice none 0 0] 22)
    have s1 : (w.alloc (.cells #[.slice none 0 0] 22)).heap.size = w.heap.size + 1 := Array.size_push _
    generalize w.alloc (.cells #[.slice none 0 0] 22) = wa at h1 HB1 s1 ⊢
    have h2 := blk_new wa (.cells #[.int .i64 0] 3)
    replace h1 := blk_alloc h1 (.cells #[.int .i64 0] 3)
    replace HB1 := below_alloc HB1 (.cells #[.int .i64 0] 3)
    rw [s1] at h2
    generalize wa.alloc (.cells #[.int .i64 0] 3) = wb at h1 h2 HB1 ⊢
    have HS := Aside0.mk (show PutSt wb w.heap.size (w.heap.size + 1) w.heap.size (.slice none 0 0) (stuffTo a0 0) from ⟨h2, h1, Kd.R_nil _ _ _ _ _, by omega, Nat.le_refl _, fun h => absurd h (by simp [stuffTo])⟩)
    have HB := Aside0.mk HB1
    clear h1 h2 HB1 s1
    go_wp2
    go_loopg [10] a0.size (fun kq v10 w' => ∃ (i : Nat) (x10 : Int) (vb : Value), v10 = .int .i64 x10 ∧ Aside0 (x10 = (i : Int)) ∧ Aside0 (kq + i = a0.size) ∧ Aside0 (PutSt w' w.heap.size (w.heap.size + 1) w.heap.size vb (stuffTo a0 i)) ∧ Aside0 (Below w.heap.size w w'))
    case atStart => exact ⟨0, 0, _, rfl, ⟨rfl⟩, ⟨rfl⟩, HS, HB⟩
    case round =>
      clear HS HB
      obtain ⟨i, x10, vb, rfl, HX, HI, HS, HB⟩ := hrel
      cases gk with
      | zero =>
        have c14b0 : decide (x10 < (a0.size : Int)) = false := decide_eq_false (by have := HI.out; have := HX.out; omega)
        obtain ⟨Ab, cb, eb⟩ := Kd.R_slice HS.out.ow
        subst eb
        have hz1 : wr.cell? ⟨w.heap.size, 0, none⟩ = some (.slice Ab (stuffTo a0 i).1.length cb) := (blk_cell HS.out.bb 0).trans rfl
        have hcv := own_string (P := Tryd.prog) Tryd.underlying22 Tryd.underlying5 Tryd.underlying9 (Kd.own_of_R HS.out.ow)
        have hi : i = a0.size := by have := HI.out; omega
        subst hi
        go_wp2
        go_ret
        exact ⟨rfl, HB.out⟩
      | succ k1 =>
        have hlt : i < a0.size := by have := HI.out; omega
        have c14b0 : decide (x10 < (a0.size : Int)) = true := decide_eq_true (by have := HX.out; omega)
        have p5 : 0 ≤ x10 := by have := HX.out; omega
        have q5 : x10 < (a0.size : Int) := by have := HX.out; omega
        have hx5 := bt_at a0 x10
        replace p5 := eq_true p5
        replace q5 := eq_true q5
        have hll : (stuffTo a0 i).1.length < 17592186044416 := by have := stuffTo_len a0 i; have := HSZ.out; omega
        have hl2 : (putStep (stuffTo a0 i) (bt a0 x10)).1.length < 17592186044416 := by have := stuffTo_len a0 i; have := HSZ.out; rw [putStep_len]; omega
        by_cases c9 : (putStep (stuffTo a0 i) (bt a0 x10)).2 = 5
        · have c9b0 : ((putStep (stuffTo a0 i) (bt a0 x10)).2 == 5) = true := beq_iff_eq.mpr c9
          have est : stuffTo a0 (i + 1) = putStep (putStep (stuffTo a0 i) (bt a0 x10)) ((97 - bt a0 x10) % 256) := by rw [HX.out] at c9 ⊢; simp only [stuffTo, stuffStep, c9, if_true]
          clear c9
          go_wp2_with (first | (refine goesV5_ (some 17) rfl rfl (f := 42) Tryd.func42 (by kernel_rfl) rfl #[.int .u8 (bt a0 x10), .pointer (some ⟨w.heap.size + 1, 0, none⟩), .pointer (some ⟨w.heap.size, 0, none⟩)] rfl rfl (by (try simp only [List.map_toArray, List.map_cons, List.map_nil, List.append_toArray, List.cons_append, List.nil_append]); first | done | rfl) ?_; refine (stuff_put.calls (w.heap.size + 1) w.heap.size w.heap.size (bt a0 x10) _ (stuffTo a0 i) _ HB.out.size HS.out hll).mono ?_; rintro e w1 ⟨rfl, ⟨vn, hsn⟩, hbn⟩; refine ⟨_, rfl, ?_⟩; have HS1 := Aside0.mk hsn; have HB1 := Aside0.mk ((HB.out).trans hbn); clear hsn hbn; have hz_w1 : w1.cell? ⟨w.heap.size + 1, 0, none⟩ = some (.int .i64 (putStep (stuffTo a0 i) (bt a0 x10)).2) := (blk_cell HS1.out.br 0).trans rfl) | (refine goesV5_ (some 25) rfl rfl (f := 42) Tryd.func42 (by kernel_rfl) rfl #[.int .u8 ((97 - bt a0 x10) % 256), .pointer (some ⟨w.heap.size + 1, 0, none⟩), .pointer (some ⟨w.heap.size, 0, none⟩)] rfl rfl (by (try simp only [List.map_toArray, List.map_cons, List.map_nil, List.append_toArray, List.cons_append, List.nil_append]); first | done | rfl) ?_; refine (stuff_put.calls (w.heap.size + 1) w.heap.size w.heap.size ((97 - bt a0 x10) % 256) _ (putStep (stuffTo a0 i) (bt a0 x10)) _ HB1.out.size HS1.out hl2).mono ?_; rintro e w2 ⟨rfl, ⟨vn, hsn⟩, hbn⟩; refine ⟨_, rfl, ?_⟩; have HS2 := Aside0.mk hsn; have HB2 := Aside0.mk ((HB1.out).trans hbn); clear hsn hbn; have hz_w2 : w2.cell? ⟨w.heap.size + 1, 0, none⟩ = some (.int .i64 (putStep (putStep (stuffTo a0 i) (bt a0 x10)) ((97 - bt a0 x10) % 256)).2) := (blk_cell HS2.out.br 0).trans rfl))
          go_roundg k1
          case measure => omega
          case rel => exact ⟨i + 1, wrap64 (x10 + 1), _, rfl, ⟨by rw [HX.out]; exact wrap_nat1 i (by have := HSZ.out; omega)⟩, ⟨by have := HI.out; omega⟩, ⟨by rw [est]; exact HS2.out⟩, HB2⟩
        · have c9b0 : ((putStep (stuffTo a0 i) (bt a0 x10)).2 == 5) = false := beq_eq_false_iff_ne.mpr c9
          have est : stuffTo a0 (i + 1) = putStep (stuffTo a0 i) (bt a0 x10) := by rw [HX.out] at c9 ⊢; simp only [stuffTo, stuffStep, c9, if_false]
          clear c9
          go_wp2_with (first | (refine goesV5_ (some 17) rfl rfl (f := 42) Tryd.func42 (by kernel_rfl) rfl #[.int .u8 (bt a0 x10), .pointer (some ⟨w.heap.size + 1, 0, none⟩), .pointer (some ⟨w.heap.size, 0, none⟩)] rfl rfl (by (try simp only [List.map_toArray, List.map_cons, List.map_nil, List.append_toArray, List.cons_append, List.nil_append]); first | done | rfl) ?_; refine (stuff_put.calls (w.heap.size + 1) w.heap.size w.heap.size (bt a0 x10) _ (stuffTo a0 i) _ HB.out.size HS.out hll).mono ?_; rintro e w1 ⟨rfl, ⟨vn, hsn⟩, hbn⟩; refine ⟨_, rfl, ?_⟩; have HS1 := Aside0.mk hsn; have HB1 := Aside0.mk ((HB.out).trans hbn); clear hsn hbn; have hz_w1 : w1.cell? ⟨w.heap.size + 1, 0, none⟩ = some (.int .i64 (putStep (stuffTo a0 i) (bt a0 x10)).2) := (blk_cell HS1.out.br 0).trans rfl))
          go_roundg k1
          case measure => omega
          case rel => exact ⟨i + 1, wrap64 (x10 + 1), _, rfl, ⟨by rw [HX.out]; exact wrap_nat1 i (by have := HSZ.out; omega)⟩, ⟨by have := HI.out; omega⟩, ⟨by rw [est]; exact HS1.out⟩, HB1⟩
  · rw [if_neg hsz] at h
    cases h

end Go.Proofs.YtimaapbgoooibaaDoor.PFnFrames
