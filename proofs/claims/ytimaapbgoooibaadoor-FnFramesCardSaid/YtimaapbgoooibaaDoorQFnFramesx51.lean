-- Written by this session's own program for the law FnFrames.
import Derived.Test.YtimaapbgoooibaaDoorQFnFramesx0

namespace Go.Proofs.YtimaapbgoooibaaDoor.PFnFrames
open Go.RowKit Go.Proofs.YtimaapbgoooibaaDoorW.PrintWords Go.Proofs.YtimaapbgoooibaaDoorW.PrintLast Go.Proofs.YtimaapbgoooibaaDoorW.PrintMore
attribute [local go_sem] max2_int min2_int max_two min_two max_three min_three max_four min_four   -- for this text's walks alone
set_option linter.unusedVariables false
set_option linter.unusedSimpArgs false

section
variable {P : Program} {ops : Array Oper} {o : Oper} {rest : List Oper} {a : Act} {Q : Exit → Act → World → Prop} {α : Type}
/-- make([]T, 0, n): an empty row with room. -/
theorem R_makeCap (d : Kd α) {w0 W : World} (base e : Nat) (hgd : o.guard = none) {N : Tmp} (_hd : o.dst = some N) (t : TypeId) (x y : Operand) (ho : o.op = .makeSlice t x y) (n : Int) (hx : a.eval x = .int .i64 0) (hy : a.eval y = .int .i64 n)
    (ht : P.underlying t = some (.slice e)) (z : Value) (bytes : Nat) (hinfo : (P.info? e).map (fun i => (i.zero, i.size, i.bytes)) = some (some z, d.sz, bytes))
    (z0 : α) {ok : Nat → Prop} (hfresh : ok W.heap.size) (h0 : 0 ≤ n) (hl : n * (bytes : Int) ≤ 281474976710656) (hm : n ≤ 281474976710656) (HB : Below base w0 W) (hbase : base ≤ W.heap.size)
    (h : ∀ v1 w1, d.R e w1 base ok v1 (List.replicate (0 : Int).toNat z0) → Below base w0 w1 → W.grownBy w1 none → (∃ b, v1.ownBlock = some b ∧ W.heap.size ≤ b) → wpList P ops Q rest (a.put o.dst v1) w1) : wpList P ops Q (o :: rest) a W := by
  obtain ⟨i0, hi, hzz⟩ := Option.map_eq_some_iff.1 hinfo
  simp only [Prod.mk.injEq] at hzz
  obtain ⟨hz0, hz1, hz2⟩ := hzz
  obtain ⟨m, rfl⟩ := Int.eq_ofNat_of_zero_le h0
  have hr := run_make (P := P) W t e i0 z ht hi hz0 .i64 .i64 0 (m : Int) (by omega) (by omega)
    (by
      rw [hz2, Int.mul_comm]
      exact hl) (by omega)
  simp only [Int.toNat_natCast, Int.toNat_zero] at hr
  have hrun : (execOp a.eval o).run P W = .ok (.value (.slice (some ⟨W.heap.size, 0, none⟩) 0 m)) (W.alloc (.cells (madeCells z.cells (m * i0.size)) e)) := by
    unfold execOp
    simp [ho, hx, hy, hr]
  refine Kd.event_run hgd hrun (h _ _ ⟨fun k hk => ?_, [], ?_, ?_⟩ (HB.alloc hbase _) (World.grownBy_alloc W _ none) ⟨W.heap.size, by simp [Value.ownBlock], Nat.le_refl _⟩)
  · have : W.heap.size = k := by simpa [Value.ownBlock] using hk
    subst this
    exact hfresh
  · refine ⟨by simp, .inr ⟨W.heap.size, m, madeCells z.cells (m * i0.size), rfl, hbase, blk_new W _, Nat.zero_le _, by simp only [maxLen]; omega, ?_, by simp⟩⟩
    rw [hz1]
    simp [size_madeCells]
  · exact Reps.none _ _
end
theorem cap_ok (s : Nat) (hs : s ≤ 1000000) : 0 ≤ wrap64 (wrap64 ((s : Int) + wrap64 ((s : Int) / 4)) + 1) ∧ wrap64 (wrap64 ((s : Int) + wrap64 ((s : Int) / 4)) + 1) ≤ 2000000 := by
  have h0 : 0 ≤ (s : Int) / 4 ∧ (s : Int) / 4 ≤ 250000 := by omega
  generalize (s : Int) / 4 = y at h0 ⊢
  have hy : wrap64 y = y := by unfold wrap64; omega
  rw [hy]
  have h1 : 0 ≤ (s : Int) + y ∧ (s : Int) + y ≤ 1250000 := by omega
  generalize (s : Int) + y = x at h1 ⊢
  have h2 : wrap64 x = x := by unfold wrap64; omega
  rw [h2]
  have h3 : wrap64 (x + 1) = x + 1 := by unfold wrap64; omega
  rw [h3]
  omega

end Go.Proofs.YtimaapbgoooibaaDoor.PFnFrames
