-- Written by this session's own program for the law FnRanked; it began as the print's text.
import Derived.Test.YtdbcoojibbboiaaQFnRankedx0
namespace Go.Proofs.Ytdbcoojibbboiaa.PFnRanked
open Go.RowKit Go.Proofs.YtdbcoojibbboiaaW.PrintWords Go.Proofs.YtdbcoojibbboiaaW.PrintLast Go.Proofs.YtdbcoojibbboiaaW.PrintMore
attribute [local go_sem] max2_int min2_int max_two min_two max_three min_three max_four min_four   -- for this text's walks alone
set_option linter.unusedVariables false
set_option linter.unusedSimpArgs false
/-! #### rows of queues: a row whose elements are rows that may begin inside their blocks -/
def kq55 : Kd (List S55) where
  sz := 1
  E := 55 :: k55.E
  K := (Kd.slice 55 k55).K
  M := fun w base ok xs cs => ∃ v, cs = [v] ∧ Kd.Q k55 55 w base ok v xs
  K_len := (Kd.slice 55 k55).K_len
  K_one := (Kd.slice 55 k55).K_one
  K_below := (Kd.slice 55 k55).K_below
  K_of_M := by
    rintro w base ok x cs ⟨v, rfl, h⟩
    obtain ⟨A, c, rfl, hl, hr⟩ := Kd.Q_reads h
    exact ⟨A, c, rfl, hl, hr⟩
  M_mono := by
    rintro w base ok ok' x cs hok ⟨v, rfl, h⟩
    exact ⟨v, rfl, Kd.Q_mono h hok⟩
  M_bound := by
    rintro w base ok x cs ⟨v, rfl, h⟩
    exact ⟨v, rfl, Kd.Q_bound h⟩
  M_move := by
    rintro w w1 base ok x cs hm ⟨v, rfl, h⟩
    exact ⟨v, rfl, Kd.Q_move h hm⟩
  M_lower := by
    rintro w base base' ok x cs hb ⟨v, rfl, h⟩
    exact ⟨v, rfl, Kd.Q_lower h hb⟩
theorem kq_row {base : Nat} {ok : Nat → Prop} {w : World} {v : Value} {xs : List S55} (h : Kd.Q k55 55 w base ok v xs) : kq55.M w base ok xs [v] := ⟨v, rfl, h⟩
theorem at_Q3 {w : World} {A : Option Addr} {n : Nat} {xs : List (List S55)} (h : Kd.C kq55 w A n xs) (i : Int) (h0 : 0 ≤ i) (h1 : i < n) : ∃ ad A0 c0, A = some ad ∧ w.cell? (ad.add i.toNat) = some (.slice A0 (rd_L3 xs i).length c0) ∧ (rd_L3 xs i).length ≤ c0 ∧ k55.C w A0 (rd_L3 xs i).length (rd_L3 xs i) :=
  at_L3 (show Kd.C (Kd.slice 55 k55) w A n xs from h) i h0 h1
theorem Q_slice3 {base : Nat} {ok : Nat → Prop} {w : World} {v : Value} {xs : List S55} (h : Kd.Q k55 55 w base ok v xs) : ∃ A c, v = .slice A xs.length c := by
  obtain ⟨A, c, h, _⟩ := Kd.Q_slice h
  exact ⟨A, c, h⟩
section
variable {W : World} {base g n cap gq oq m cq : Nat} {ok okq : Nat → Prop} {xs : List (List S55)} {y : List S55}
/-- The first element of a queue: its cells. -/
theorem queue_cells (h : Kd.Q k55 55 W base ok (.slice (some ⟨gq, oq, none⟩) m cq) y) (hp : 0 < y.length) {f0 f1 : Int} (hx : rd_T55 y 0 = ⟨f0, f1⟩) :
    W.cell? ⟨gq, oq, none⟩ = some (.int .i64 f0) ∧ W.cell? ⟨gq, oq + 1, none⟩ = some (.int .i64 f1) := by
  have hm := (Kd.Q_reads' h).1
  obtain ⟨cf, _, hN, hcf, _⟩ := Kd.Q_elem h z55 0 (by omega) (by omega)
  have e : cf = [.int .i64 f0, .int .i64 f1] := by
    have e_ := k55_openM hN
    rw [show y.getD (0 : Int).toNat z55 = (⟨f0, f1⟩ : S55) from hx] at e_
    exact e_
  subst e
  have h0 := hcf 0 _ rfl
  have h1 := hcf 1 _ rfl
  rw [show oq + (0 : Int).toNat * k55.sz + 0 = oq from by simp] at h0
  rw [show oq + (0 : Int).toNat * k55.sz + 1 = oq + 1 from by simp] at h1
  exact ⟨h0, h1⟩
/-- The first element's second field is written. -/
theorem queue_put (h : Kd.Q k55 55 W base ok (.slice (some ⟨gq, oq, none⟩) m cq) y) (hp : 0 < y.length) {f0 f1 : Int} (hx : rd_T55 y 0 = ⟨f0, f1⟩) (u : Int) :
    Kd.Q k55 55 (W.setCell ⟨gq, oq + 1, none⟩ (.int .i64 u)) base ok (.slice (some ⟨gq, oq, none⟩) m cq) (y.set 0 (⟨f0, u⟩ : S55)) ∧ W.grownBy (W.setCell ⟨gq, oq + 1, none⟩ (.int .i64 u)) (some gq) ∧ W.frozen? ⟨gq, oq + 1, none⟩ = false := by
  have hm := (Kd.Q_reads' h).1
  obtain ⟨cf, hcl, hN, hcf, hff⟩ := Kd.Q_elem h z55 0 (by omega) (by omega)
  have e : cf = [.int .i64 f0, .int .i64 f1] := by
    have e_ := k55_openM hN
    rw [show y.getD (0 : Int).toNat z55 = (⟨f0, f1⟩ : S55) from hx] at e_
    exact e_
  subst e
  have HP := Kd.Q_seg h 0 (by omega) (by omega) (seg := [.int .i64 u]) (j := 1) hcl hcf (show 2 ≤ 2 from by decide) (x' := (⟨f0, u⟩ : S55)) (k55_mkM W base (fun k => ok k ∧ k ≠ gq) (⟨f0, u⟩ : S55)) (fun _ hk => hk)
  have hf := hff 1
  rw [show oq + (0 : Int).toNat * k55.sz + 1 = oq + 1 from by simp] at HP hf
  exact ⟨HP.1, HP.2, hf⟩
/-- A queue of a whole: its value, and the whole without it. -/
theorem whole_elem (h : Kd.S kq55 71 W base ok (.slice (some ⟨g, 0, none⟩) n cap) xs) (i : Int) (h0 : 0 ≤ i) (h1 : i < (xs.length : Int)) :
    ∃ (okq : Nat → Prop) (vq : Value), Kd.Q k55 55 W base okq vq (rd_L3 xs i) ∧ W.cell? ⟨g, i.toNat, none⟩ = some vq ∧ W.frozen? ⟨g, i.toNat, none⟩ = false ∧ (∀ k, okq k → ok k ∧ k ≠ g) ∧ Kd.H kq55 71 W base ok (.slice (some ⟨g, 0, none⟩) n cap) xs i okq [vq] := by
  have hn := (Kd.S_reads' h).1
  obtain ⟨okq, ce, _, hM, hcc, hfr, hok, hH⟩ := Kd.S_elem h [] i h0 (by omega)
  obtain ⟨vq, rfl, hq⟩ := hM
  have hx := hcc 0 _ rfl
  have hf := hfr 0
  rw [Nat.add_zero, show kq55.sz = 1 from rfl, Nat.mul_one] at hx hf
  exact ⟨okq, vq, hq, hx, hf, hok, hH⟩
/-- A queue is put back into its whole. -/
theorem whole_put {vq v' : Value} {i : Int} (hH : Kd.H kq55 71 W base ok (.slice (some ⟨g, 0, none⟩) n cap) xs i okq [vq]) (h0 : 0 ≤ i) (h1 : i < (n : Int)) (hq : Kd.Q k55 55 W base okq v' y) :
    Kd.S kq55 71 (W.setCell ⟨g, i.toNat, none⟩ v') base ok (.slice (some ⟨g, 0, none⟩) n cap) (xs.set i.toNat y) ∧ W.grownBy (W.setCell ⟨g, i.toNat, none⟩ v') (some g) := by
  have HP := Kd.S_seg0 hH h0 h1 (seg := [v']) (j := 0) (show 1 ≤ 1 from by decide) (x' := y) (kq_row hq) (fun _ hk => hk)
  rw [show i.toNat * kq55.sz + 0 = i.toNat from by rw [show kq55.sz = 1 from rfl, Nat.mul_one, Nat.add_zero]] at HP
  exact HP
/-- What was done to a queue's block, done to its whole. -/
theorem whole_back {vq : Value} {w1 : World} {i : Int} (hH : Kd.H kq55 71 W base ok (.slice (some ⟨g, 0, none⟩) n cap) xs i okq [vq]) {row : Option Nat} (hg : W.grownBy w1 row) (hrow : ∀ k, row = some k → okq k) (hq : Kd.Q k55 55 w1 base okq vq y) :
    Kd.S kq55 71 w1 base ok (.slice (some ⟨g, 0, none⟩) n cap) (xs.set i.toNat y) := Kd.H_back (Kd.H_grown hH hg hrow) (kq_row hq) (fun _ hk => hk)
end
/-! #### calls of function values -/
/-- A call of a function value in a region that draws. -/
theorem goesF_ {P : Program} {ops : Array Oper} {Q : Exit → Act → World → Prop} {oi : Oper} {N : Option Tmp} {a : Act} {w : World} {K : Act → World → Prop} {f : FuncId} {fn : Func} {ys : Array Operand} {ts : Array TypeId} {x : Operand} {cap : Array Value} (hf : P.funcs[f]? = some fn) (hname : (fn.name == "runtime.NumGoroutine") = false) (hb : fn.body.isSome = true) (args : Array Value)
    (hw : Region.wanted oi (yielded ops a.tmps) = true) (hN : oi.dst = N) (hop : oi.op = .call { callee := .value x, args := ys, argTypes := ts }) (hx : a.eval x = .func (.func f) #[] cap) (hargs : ys.map a.eval ++ cap = args)
    (h : Calls P f args w fun e w' => ∃ v, e = .returned v ∧ K (a.put N v) w') : if Region.wanted oi (yielded ops a.tmps) = true then Oper.wp P oi a w K Q else K (a.put N undef) w := by
  refine call_ f args hw hN ?_ h
  have he := enters_ hf hname hb args w
  unfold execOp
  simp [hop, resolve, Deferred.ofValue, invoke, hx, hargs, he]
def soonB (l : List S62) (a : Int) (x : S55) (b : Int) (y : S55) : Bool := decide (a < b)
set_option maxHeartbeats 8000000 in
set_option maxRecDepth 100000 in
theorem sooner29.calls (l0 : List S62) (a b : Int) (x y : S55) (w : World) : Calls Try.prog 29 #[.int .i64 a, .agg #[.int .i64 x.f0, .int .i64 x.f1], .int .i64 b, .agg #[.int .i64 y.f0, .int .i64 y.f1]] w fun e w' => e = .returned (.bool (soonB l0 a x b y)) ∧ Below w.heap.size w w' := by
  have hu55 := Try.underlying55
  have HB := Aside0.mk (Below.refl w.heap.size w)
  go_enter Try.func29, Try.ntmps29
  go_wp2_with (first
    | ((with_reducible refine gate_dst (N := 5) rfl ?_); refine box_event ?hg (N := 5) ?hd (cs := #[.int .i64 x.f0, .int .i64 x.f1]) (t := 55) ?hr ?_; (case hd => rfl); (case hg => rfl); (case hr => first | (go_simp; done) | (go_simp; rfl)); intro gx hg w2 hbox hb; have n0_ := Aside0.mk (below_step HB.out hb); clear HB; have HB := n0_; clear n0_ hb hbox hg)
    | ((with_reducible refine gate_dst (N := 7) rfl ?_); refine box_event ?hg (N := 7) ?hd (cs := #[.int .i64 y.f0, .int .i64 y.f1]) (t := 55) ?hr ?_; (case hd => rfl); (case hg => rfl); (case hr => first | (go_simp; done) | (go_simp; rfl)); intro gy hg w3 hbox hb; have n0_ := Aside0.mk (below_step HB.out hb); clear HB; have HB := n0_; clear n0_ hb hbox hg)
    | fail)
  go_ret
  exact ⟨by first | rfl | (simp; done) | (simp [*]; done), by repeat (first | (with_reducible first | exact HB.out | apply below_alloc | apply pw_below_drewN | apply below_drew1) | exact HB.out)⟩
end Go.Proofs.Ytdbcoojibbboiaa.PFnRanked
