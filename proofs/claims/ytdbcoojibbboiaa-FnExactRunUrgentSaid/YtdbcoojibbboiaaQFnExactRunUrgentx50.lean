-- Written by this session's own program for the law FnExactRunUrgent; it began as the print's text.
import Derived.Test.YtdbcoojibbboiaaQFnExactRunUrgentx0
namespace Go.Proofs.Ytdbcoojibbboiaa.PFnExactRunUrgent
open Go.RowKit Go.Proofs.YtdbcoojibbboiaaW.PrintWords Go.Proofs.YtdbcoojibbboiaaW.PrintLast Go.Proofs.YtdbcoojibbboiaaW.PrintMore
attribute [local go_sem] max2_int min2_int max_two min_two max_three min_three max_four min_four   -- for this text's walks alone
set_option linter.unusedVariables false
set_option linter.unusedSimpArgs false
/-! #### rows of queues: a row whose elements are rows that may begin inside their blocks -/
def kq55 : Kd (List S55) where
  sz := 1
  E := 55 :: k55.E
  K := (Kd.slice 55 k55).K
  M := fun w base ok xs cs => ∃ v, cs = [v] ∧ Kd.Q k55 55 w base ok v xs
  K_len := (Kd.slice 55 k55).K_len
  K_one := (Kd.slice 55 k55).K_one
  K_below := (Kd.slice 55 k55).K_below
  K_of_M := by
    rintro w base ok x cs ⟨v, rfl, h⟩
    obtain ⟨A, c, rfl, hl, hr⟩ := Kd.Q_reads h
    exact ⟨A, c, rfl, hl, hr⟩
  M_mono := by
    rintro w base ok ok' x cs hok ⟨v, rfl, h⟩
    exact ⟨v, rfl, Kd.Q_mono h hok⟩
  M_bound := by
    rintro w base ok x cs ⟨v, rfl, h⟩
    exact ⟨v, rfl, Kd.Q_bound h⟩
  M_move := by
    rintro w w1 base ok x cs hm ⟨v, rfl, h⟩
    exact ⟨v, rfl, Kd.Q_move h hm⟩
  M_lower := by
    rintro w base base' ok x cs hb ⟨v, rfl, h⟩
    exact ⟨v, rfl, Kd.Q_lower h hb⟩
theorem kq_row {base : Nat} {ok : Nat → Prop} {w : World} {v : Value} {xs : List S55} (h : Kd.Q k55 55 w base ok v xs) : kq55.M w base ok xs [v] := ⟨v, rfl, h⟩
theorem at_Q3 {w : World} {A : Option Addr} {n : Nat} {xs : List (List S55)} (h : Kd.C kq55 w A n xs) (i : Int) (h0 : 0 ≤ i) (h1 : i < n) : ∃ ad A0 c0, A = some ad ∧ w.cell? (ad.add i.toNat) = some (.slice A0 (rd_L3 xs i).length c0) ∧ (rd_L3 xs i).length ≤ c0 ∧ k55.C w A0 (rd_L3 xs i).length (rd_L3 xs i) :=
  at_L3 (show Kd.C (Kd.slice 55 k55) w A n xs from h) i h0 h1
theorem Q_slice3 {base : Nat} {ok : Nat → Prop} {w : World} {v : Value} {xs : List S55} (h : Kd.Q k55 55 w base ok v xs) : ∃ A c, v = .slice A xs.length c := by
  obtain ⟨A, c, h, _⟩ := Kd.Q_slice h
  exact ⟨A, c, h⟩
section
variable {W : World} {base g n cap gq oq m cq : Nat} {ok okq : Nat → Prop} {xs : List (List S55)} {y : List S55}
/-- The first element of a queue: its cells. -/
theorem queue_cells (h : Kd.Q k55 55 W base ok (.slice (some ⟨gq, oq, none⟩) m cq) y) (hp : 0 < y.length) {f0 f1 : Int} (hx : rd_T55 y 0 = ⟨f0, f1⟩) :
    W.cell? ⟨gq, oq, none⟩ = some (.int .i64 f0) ∧ W.cell? ⟨gq, oq + 1, none⟩ = some (.int .i64 f1) := by
  have hm := (Kd.Q_reads' h).1
  obtain ⟨cf, _, hN, hcf, _⟩ := Kd.Q_elem h z55 0 (by omega) (by omega)
  have e : cf = [.int .i64 f0, .int .i64 f1] := by
    have e_ := k55_openM hN
    rw [show y.getD (0 : Int).toNat z55 = (⟨f0, f1⟩ : S55) from hx] at e_
    exact e_
  subst e
  have h0 := hcf 0 _ rfl
  have h1 := hcf 1 _ rfl
  rw [show oq + (0 : Int).toNat * k55.sz + 0 = oq from by simp] at h0
  rw [show oq + (0 : Int).toNat * k55.sz + 1 = oq + 1 from by simp] at h1
  exact ⟨h0, h1⟩
/-- The first element's second field is written. -/
theorem queue_put (h : Kd.Q k55 55 W base ok (.slice (some ⟨gq, oq, none⟩) m cq) y) (hp : 0 < y.length) {f0 f1 : Int} (hx : rd_T55 y 0 = ⟨f0, f1⟩) (u : Int) :
    Kd.Q k55 55 (W.setCell ⟨gq, oq + 1, none⟩ (.int .i64 u)) base ok (.slice (some ⟨gq, oq, none⟩) m cq) (y.set 0 (⟨f0, u⟩ : S55)) ∧ W.grownBy (W.setCell ⟨gq, oq + 1, none⟩ (.int .i64 u)) (some gq) ∧ W.frozen? ⟨gq, oq + 1, none⟩ = false := by
  have hm := (Kd.Q_reads' h).1
  obtain ⟨cf, hcl, hN, hcf, hff⟩ := Kd.Q_elem h z55 0 (by omega) (by omega)
  have e : cf = [.int .i64 f0, .int .i64 f1] := by
    have e_ := k55_openM hN
    rw [show y.getD (0 : Int).toNat z55 = (⟨f0, f1⟩ : S55) from hx] at e_
    exact e_
  subst e
  have HP := Kd.Q_seg h 0 (by omega) (by omega) (seg := [.int .i64 u]) (j := 1) hcl hcf (show 2 ≤ 2 from by decide) (x' := (⟨f0, u⟩ : S55)) (k55_mkM W base (fun k => ok k ∧ k ≠ gq) (⟨f0, u⟩ : S55)) (fun _ hk => hk)
  have hf := hff 1
  rw [show oq + (0 : Int).toNat * k55.sz + 1 = oq + 1 from by simp] at HP hf
  exact ⟨HP.1, HP.2, hf⟩
/-- A queue of a whole: its value, and the whole without it. -/
theorem whole_elem (h : Kd.S kq55 71 W base ok (.slice (some ⟨g, 0, none⟩) n cap) xs) (i : Int) (h0 : 0 ≤ i) (h1 : i < (xs.length : Int)) :
    ∃ (okq : Nat → Prop) (vq : Value), Kd.Q k55 55 W base okq vq (rd_L3 xs i) ∧ W.cell? ⟨g, i.toNat, none⟩ = some vq ∧ W.frozen? ⟨g, i.toNat, none⟩ = false ∧ (∀ k, okq k → ok k ∧ k ≠ g) ∧ Kd.H kq55 71 W base ok (.slice (some ⟨g, 0, none⟩) n cap) xs i okq [vq] := by
  have hn := (Kd.S_reads' h).1
  obtain ⟨okq, ce, _, hM, hcc, hfr, hok, hH⟩ := Kd.S_elem h [] i h0 (by omega)
  obtain ⟨vq, rfl, hq⟩ := hM
  have hx := hcc 0 _ rfl
  have hf := hfr 0
  rw [Nat.add_zero, show kq55.sz = 1 from rfl, Nat.mul_one] at hx hf
  exact ⟨okq, vq, hq, hx, hf, hok, hH⟩
/-- A queue is put back into its whole. -/
theorem whole_put {vq v' : Value} {i : Int} (hH : Kd.H kq55 71 W base ok (.slice (some ⟨g, 0, none⟩) n cap) xs i okq [vq]) (h0 : 0 ≤ i) (h1 : i < (n : Int)) (hq : Kd.Q k55 55 W base okq v' y) :
    Kd.S kq55 71 (W.setCell ⟨g, i.toNat, none⟩ v') base ok (.slice (some ⟨g, 0, none⟩) n cap) (xs.set i.toNat y) ∧ W.grownBy (W.setCell ⟨g, i.toNat, none⟩ v') (some g) := by
  have HP := Kd.S_seg0 hH h0 h1 (seg := [v']) (j := 0) (show 1 ≤ 1 from by decide) (x' := y) (kq_row hq) (fun _ hk => hk)
  rw [show i.toNat * kq55.sz + 0 = i.toNat from by rw [show kq55.sz = 1 from rfl, Nat.mul_one, Nat.add_zero]] at HP
  exact HP
/-- What was done to a queue's block, done to its whole. -/
theorem whole_back {vq : Value} {w1 : World} {i : Int} (hH : Kd.H kq55 71 W base ok (.slice (some ⟨g, 0, none⟩) n cap) xs i okq [vq]) {row : Option Nat} (hg : W.grownBy w1 row) (hrow : ∀ k, row = some k → okq k) (hq : Kd.Q k55 55 w1 base okq vq y) :
    Kd.S kq55 71 w1 base ok (.slice (some ⟨g, 0, none⟩) n cap) (xs.set i.toNat y) := Kd.H_back (Kd.H_grown hH hg hrow) (kq_row hq) (fun _ hk => hk)
end
/-! #### calls of function values -/
/-- A call of a function value in a region that draws. -/
theorem goesF_ {P : Program} {ops : Array Oper} {Q : Exit → Act → World → Prop} {oi : Oper} {N : Option Tmp} {a : Act} {w : World} {K : Act → World → Prop} {f : FuncId} {fn : Func} {ys : Array Operand} {ts : Array TypeId} {x : Operand} {cap : Array Value} (hf : P.funcs[f]? = some fn) (hname : (fn.name == "runtime.NumGoroutine") = false) (hb : fn.body.isSome = true) (args : Array Value)
    (hw : Region.wanted oi (yielded ops a.tmps) = true) (hN : oi.dst = N) (hop : oi.op = .call { callee := .value x, args := ys, argTypes := ts }) (hx : a.eval x = .func (.func f) #[] cap) (hargs : ys.map a.eval ++ cap = args)
    (h : Calls P f args w fun e w' => ∃ v, e = .returned v ∧ K (a.put N v) w') : if Region.wanted oi (yielded ops a.tmps) = true then Oper.wp P oi a w K Q else K (a.put N undef) w := by
  refine call_ f args hw hN ?_ h
  have he := enters_ hf hname hb args w
  unfold execOp
  simp [hop, resolve, Deferred.ofValue, invoke, hx, hargs, he]
def soonB (l : List S62) (a : Int) (x : S55) (b : Int) (y : S55) : Bool := if wrap64 (x.f0 + (rd_T62 l a).f2) < wrap64 (y.f0 + (rd_T62 l b).f2) then true else if wrap64 (x.f0 + (rd_T62 l a).f2) = wrap64 (y.f0 + (rd_T62 l b).f2) then decide (a < b) else false
def sooner36.T1 : Bool × List (List Nat × List Nat) := (true, [([], []), ([0], [0]), ([], []), ([], []), ([2, 3], [2, 3]), ([4], [4]), ([5], [5]), ([1, 6], [1, 6]), ([], []), ([8], [8]), ([], []), ([], []), ([10, 11], [10, 11]), ([12], [12]), ([13], [13]), ([9, 14], [9, 14]), ([7, 0, 1, 2, 3, 4, 5, 6, 7], [7]), ([15, 16, 0, 1, 2, 3, 4, 5, 6, 7, 8, 9, 10, 11, 12, 13, 14, 15, 16], [15])])
theorem sooner36.tab1 : rtab .any (opsOf Try.f36 1) = sooner36.T1 := by kernel_rfl
def sooner36.B1 : List Nat := [0, 1, 0, 0, 12, 28, 60, 127, 0, 256, 0, 0, 3072, 7168, 15360, 32512, 255, 131071]
theorem sooner36.bits1 : waitsOk sooner36.T1.2 sooner36.B1 = true := by kernel_rfl
set_option maxHeartbeats 8000000 in
set_option maxRecDepth 100000 in
theorem sooner36.calls (A0 : Option Addr) (c0 : Nat) (l0 : List S62) (gB : Nat) (a b : Int) (x y : S55) (w0 w : World) (hr0 : Kd.C k62 w0 A0 l0.length l0) (hxB : w0.cell? ⟨gB, 0, none⟩ = some (.slice A0 l0.length c0)) (hB : Below w0.heap.size w0 w) (ha : 0 ≤ a) (ha' : a < (l0.length : Int)) (hb : 0 ≤ b) (hb' : b < (l0.length : Int)) :
    Calls Try.prog 36 #[.int .i64 a, .agg #[.int .i64 x.f0, .int .i64 x.f1], .int .i64 b, .agg #[.int .i64 y.f0, .int .i64 y.f1], .pointer (some ⟨gB, 0, none⟩)] w fun e w' => e = .returned (.bool (soonB l0 a x b y)) ∧ Below w.heap.size w w' := by
  have hu55 := Try.underlying55
  have hu62 := Try.underlying62
  obtain ⟨ad, e1, ha_0, ha_1, ha_2⟩ := at_T62 hr0 a ha ha'
  obtain ⟨ad2, e2, hb_0, hb_1, hb_2⟩ := at_T62 hr0 b hb hb'
  cases e1
  cases e2
  have HX := Aside0.mk (pw_cell_below hB hxB)
  have HA := Aside0.mk (pw_cell_below hB ha_2)
  have HBb := Aside0.mk (pw_cell_below hB hb_2)
  clear ha_0 ha_1 ha_2 hb_0 hb_1 hb_2 hxB hB hr0
  have hw1 := eq_true ha
  have hw2 := eq_true ha'
  have hw3 := eq_true hb
  have hw4 := eq_true hb'
  have hd1 : decide (0 ≤ a) = true := decide_eq_true ha
  have hd2 : decide (a < (l0.length : Int)) = true := decide_eq_true ha'
  have hd3 : decide (0 ≤ b) = true := decide_eq_true hb
  have hd4 : decide (b < (l0.length : Int)) = true := decide_eq_true hb'
  clear ha ha' hb hb'
  have HB := Aside0.mk (Below.refl w.heap.size w)
  go_enter Try.func36, Try.ntmps36
  go_upto_region 1 with (first
    | ((with_reducible refine gate_dst (N := 6) rfl ?_); refine box_event ?hg (N := 6) ?hd (cs := #[.int .i64 x.f0, .int .i64 x.f1]) (t := 55) ?hr ?_; (case hd => rfl); (case hg => rfl); (case hr => first | (go_simp; done) | (go_simp; rfl)); intro gx hgx w2 hbox hb; have GX := Aside0.mk hbox; have n0_ := Aside0.mk (below_step HB.out hb); clear HB; have HB := n0_; have n1_ := Aside0.mk (pw_cell_below hb HX.out); have n2_ := Aside0.mk (pw_cell_below hb HA.out); have n3_ := Aside0.mk (pw_cell_below hb HBb.out); clear HX HA HBb; have HX := n1_; have HA := n2_; have HBb := n3_; clear n0_ n1_ n2_ n3_ hb hbox hgx)
    | ((with_reducible refine gate_dst (N := 8) rfl ?_); refine box_event ?hg (N := 8) ?hd (cs := #[.int .i64 y.f0, .int .i64 y.f1]) (t := 55) ?hr ?_; (case hd => rfl); (case hg => rfl); (case hr => first | (go_simp; done) | (go_simp; rfl)); intro gy hgy w3 hbox hb; have GY := Aside0.mk hbox; have n4_ := Aside0.mk (blk_below GX.out hb); clear GX; have GX := n4_; have n0_ := Aside0.mk (below_step HB.out hb); clear HB; have HB := n0_; have n1_ := Aside0.mk (pw_cell_below hb HX.out); have n2_ := Aside0.mk (pw_cell_below hb HA.out); have n3_ := Aside0.mk (pw_cell_below hb HBb.out); clear HX HA HBb; have HX := n1_; have HA := n2_; have HBb := n3_; clear n0_ n1_ n2_ n3_ n4_ hb hbox hgy)
    | fail)
  have hz1 : w3.cell? ⟨gx, 0, none⟩ = some (.int .i64 x.f0) := (blk_cell GX.out 0).trans rfl
  have hz2 : w3.cell? ⟨gy, 0, none⟩ = some (.int .i64 y.f0) := (blk_cell GY.out 0).trans rfl
  have hz3 := HX.out
  have hz4 := HA.out
  have hz5 := HBb.out
  refine start_ (n := 18) (S := fun w' => w'.cell? ⟨gx, 0, none⟩ = some (.int .i64 x.f0) ∧ w'.cell? ⟨gy, 0, none⟩ = some (.int .i64 y.f0) ∧ w'.cell? ⟨gB, 0, none⟩ = some (.slice (some ad) l0.length c0) ∧ w'.cell? { block := (ad.add (a.toNat * 3)).block, off := (ad.add (a.toNat * 3)).off + 2 } = some (.int .i64 (rd_T62 l0 a).f2) ∧ w'.cell? { block := (ad.add (b.toNat * 3)).block, off := (ad.add (b.toNat * 3)).off + 2 } = some (.int .i64 (rd_T62 l0 b).f2)) (ds := []) #[false, false, false, false, false, false, false, false, false, false, false, false, false, false, false, false, false, false] (by kernel_rfl) rfl rfl ⟨hz1, hz2, hz3, hz4, hz5⟩ (fun hHeld => ?_); refine with_tabW sooner36.tab1 sooner36.bits1 (fun HT_ HW_ => ?_)
  have n0_ := Aside0.mk (below_drew1 HB.out)
  clear HB hz1 hz2 hz3 hz4 hz5 GX GY HX HA HBb
  have HB := n0_
  clear n0_
  generalize w3.drew = w4 at HB hHeld ⊢
  refine pure_ (i := 0) (N := some 12) (v := ?_) (a' := ?_) #[true, false, false, false, false, false, false, false, false, false, false, false, false, false, false, false, false, false] rfl rfl (any_of HT_.out (by kernel_rfl)) (fun _ _ _ h => h) (Or.inl ⟨by rfl, ?_⟩) ?_ ?_
  rotate_left
  · intro w'
    go_simp
    with_reducible rfl
  rotate_left
  · simp only [Act.put, List.setIfInBounds_toArray, List.set_cons_zero, List.set_cons_succ, i64_w, i32_w]
    rfl
  refine take_ (i := 1) (N := some 13) (v := ?_) (a' := ?_) #[true, true, false, false, false, false, false, false, false, false, false, false, false, false, false, false, false, false] rfl rfl (take_ofW HT_.out HW_.out (by kernel_rfl)) (fun _ _ _ h => h) (Or.inl ⟨by rfl, ?_⟩) hHeld ?_ ?_
  rotate_left
  · rintro w' ⟨s0, s1, s2, s3, s4⟩
    go_simp
    with_reducible rfl
  rotate_left
  · simp only [Act.put, List.setIfInBounds_toArray, List.set_cons_zero, List.set_cons_succ, i64_w, i32_w]
    rfl
  refine take_ (i := 2) (N := some 14) (v := ?_) (a' := ?_) #[true, true, true, false, false, false, false, false, false, false, false, false, false, false, false, false, false, false] rfl rfl (take_ofW HT_.out HW_.out (by kernel_rfl)) (fun _ _ _ h => h) (Or.inl ⟨by rfl, ?_⟩) hHeld ?_ ?_
  rotate_left
  · rintro w' ⟨s0, s1, s2, s3, s4⟩
    go_simp
    with_reducible rfl
  rotate_left
  · simp only [Act.put, List.setIfInBounds_toArray, List.set_cons_zero, List.set_cons_succ, i64_w, i32_w]
    rfl
  refine pure_ (i := 3) (N := some 15) (v := ?_) (a' := ?_) #[true, true, true, true, false, false, false, false, false, false, false, false, false, false, false, false, false, false] rfl rfl (any_of HT_.out (by kernel_rfl)) (fun _ _ _ h => h) (Or.inl ⟨by rfl, ?_⟩) ?_ ?_
  rotate_left
  · intro w'
    go_simp
    with_reducible rfl
  rotate_left
  · simp only [Act.put, List.setIfInBounds_toArray, List.set_cons_zero, List.set_cons_succ, i64_w, i32_w]
    rfl
  refine pure_ (i := 4) (N := some 16) (v := ?_) (a' := ?_) #[true, true, true, true, true, false, false, false, false, false, false, false, false, false, false, false, false, false] rfl rfl (any_of HT_.out (by kernel_rfl)) (fun _ _ _ h => h) (Or.inl ⟨by rfl, ?_⟩) ?_ ?_
  rotate_left
  · intro w'
    go_simp
    with_reducible rfl
  rotate_left
  · simp only [Act.put, List.setIfInBounds_toArray, List.set_cons_zero, List.set_cons_succ, i64_w, i32_w]
    rfl
  refine pure_ (i := 5) (N := some 17) (v := ?_) (a' := ?_) #[true, true, true, true, true, true, false, false, false, false, false, false, false, false, false, false, false, false] rfl rfl (any_of HT_.out (by kernel_rfl)) (fun _ _ _ h => h) (Or.inl ⟨by rfl, ?_⟩) ?_ ?_
  rotate_left
  · intro w'
    go_simp
    with_reducible rfl
  rotate_left
  · simp only [Act.put, List.setIfInBounds_toArray, List.set_cons_zero, List.set_cons_succ, i64_w, i32_w]
    rfl
  refine take_ (i := 6) (N := some 18) (v := ?_) (a' := ?_) #[true, true, true, true, true, true, true, false, false, false, false, false, false, false, false, false, false, false] rfl rfl (take_ofW HT_.out HW_.out (by kernel_rfl)) (fun _ _ _ h => h) (Or.inl ⟨by rfl, ?_⟩) hHeld ?_ ?_
  rotate_left
  · rintro w' ⟨s0, s1, s2, s3, s4⟩
    go_simp
    with_reducible rfl
  rotate_left
  · simp only [Act.put, List.setIfInBounds_toArray, List.set_cons_zero, List.set_cons_succ, i64_w, i32_w]
    rfl
  refine pure_ (i := 7) (N := some 19) (v := ?_) (a' := ?_) #[true, true, true, true, true, true, true, true, false, false, false, false, false, false, false, false, false, false] rfl rfl (any_of HT_.out (by kernel_rfl)) (fun _ _ _ h => h) (Or.inl ⟨by rfl, ?_⟩) ?_ ?_
  rotate_left
  · intro w'
    go_simp
    with_reducible rfl
  rotate_left
  · simp only [Act.put, List.setIfInBounds_toArray, List.set_cons_zero, List.set_cons_succ, i64_w, i32_w]
    rfl
  refine pure_ (i := 8) (N := some 20) (v := ?_) (a' := ?_) #[true, true, true, true, true, true, true, true, true, false, false, false, false, false, false, false, false, false] rfl rfl (any_of HT_.out (by kernel_rfl)) (fun _ _ _ h => h) (Or.inl ⟨by rfl, ?_⟩) ?_ ?_
  rotate_left
  · intro w'
    go_simp
    with_reducible rfl
  rotate_left
  · simp only [Act.put, List.setIfInBounds_toArray, List.set_cons_zero, List.set_cons_succ, i64_w, i32_w]
    rfl
  refine take_ (i := 9) (N := some 21) (v := ?_) (a' := ?_) #[true, true, true, true, true, true, true, true, true, true, false, false, false, false, false, false, false, false] rfl rfl (take_ofW HT_.out HW_.out (by kernel_rfl)) (fun _ _ _ h => h) (Or.inl ⟨by rfl, ?_⟩) hHeld ?_ ?_
  rotate_left
  · rintro w' ⟨s0, s1, s2, s3, s4⟩
    go_simp
    with_reducible rfl
  rotate_left
  · simp only [Act.put, List.setIfInBounds_toArray, List.set_cons_zero, List.set_cons_succ, i64_w, i32_w]
    rfl
  refine take_ (i := 10) (N := some 22) (v := ?_) (a' := ?_) #[true, true, true, true, true, true, true, true, true, true, true, false, false, false, false, false, false, false] rfl rfl (take_ofW HT_.out HW_.out (by kernel_rfl)) (fun _ _ _ h => h) (Or.inl ⟨by rfl, ?_⟩) hHeld ?_ ?_
  rotate_left
  · rintro w' ⟨s0, s1, s2, s3, s4⟩
    go_simp
    with_reducible rfl
  rotate_left
  · simp only [Act.put, List.setIfInBounds_toArray, List.set_cons_zero, List.set_cons_succ, i64_w, i32_w]
    rfl
  refine pure_ (i := 11) (N := some 23) (v := ?_) (a' := ?_) #[true, true, true, true, true, true, true, true, true, true, true, true, false, false, false, false, false, false] rfl rfl (any_of HT_.out (by kernel_rfl)) (fun _ _ _ h => h) (Or.inl ⟨by rfl, ?_⟩) ?_ ?_
  rotate_left
  · intro w'
    go_simp
    with_reducible rfl
  rotate_left
  · simp only [Act.put, List.setIfInBounds_toArray, List.set_cons_zero, List.set_cons_succ, i64_w, i32_w]
    rfl
  refine pure_ (i := 12) (N := some 24) (v := ?_) (a' := ?_) #[true, true, true, true, true, true, true, true, true, true, true, true, true, false, false, false, false, false] rfl rfl (any_of HT_.out (by kernel_rfl)) (fun _ _ _ h => h) (Or.inl ⟨by rfl, ?_⟩) ?_ ?_
  rotate_left
  · intro w'
    go_simp
    with_reducible rfl
  rotate_left
  · simp only [Act.put, List.setIfInBounds_toArray, List.set_cons_zero, List.set_cons_succ, i64_w, i32_w]
    rfl
  refine pure_ (i := 13) (N := some 25) (v := ?_) (a' := ?_) #[true, true, true, true, true, true, true, true, true, true, true, true, true, true, false, false, false, false] rfl rfl (any_of HT_.out (by kernel_rfl)) (fun _ _ _ h => h) (Or.inl ⟨by rfl, ?_⟩) ?_ ?_
  rotate_left
  · intro w'
    go_simp
    with_reducible rfl
  rotate_left
  · simp only [Act.put, List.setIfInBounds_toArray, List.set_cons_zero, List.set_cons_succ, i64_w, i32_w]
    rfl
  refine take_ (i := 14) (N := some 26) (v := ?_) (a' := ?_) #[true, true, true, true, true, true, true, true, true, true, true, true, true, true, true, false, false, false] rfl rfl (take_ofW HT_.out HW_.out (by kernel_rfl)) (fun _ _ _ h => h) (Or.inl ⟨by rfl, ?_⟩) hHeld ?_ ?_
  rotate_left
  · rintro w' ⟨s0, s1, s2, s3, s4⟩
    go_simp
    with_reducible rfl
  rotate_left
  · simp only [Act.put, List.setIfInBounds_toArray, List.set_cons_zero, List.set_cons_succ, i64_w, i32_w]
    rfl
  refine pure_ (i := 15) (N := some 27) (v := ?_) (a' := ?_) #[true, true, true, true, true, true, true, true, true, true, true, true, true, true, true, true, false, false] rfl rfl (any_of HT_.out (by kernel_rfl)) (fun _ _ _ h => h) (Or.inl ⟨by rfl, ?_⟩) ?_ ?_
  rotate_left
  · intro w'
    go_simp
    with_reducible rfl
  rotate_left
  · simp only [Act.put, List.setIfInBounds_toArray, List.set_cons_zero, List.set_cons_succ, i64_w, i32_w]
    rfl
  refine pure_ (i := 16) (N := some 10) (v := ?_) (a' := ?_) #[true, true, true, true, true, true, true, true, true, true, true, true, true, true, true, true, true, false] rfl rfl (any_of HT_.out (by kernel_rfl)) (fun _ _ _ h => h) (Or.inl ⟨by rfl, ?_⟩) ?_ ?_
  rotate_left
  · intro w'
    go_simp
    with_reducible rfl
  rotate_left
  · simp only [Act.put, List.setIfInBounds_toArray, List.set_cons_zero, List.set_cons_succ, i64_w, i32_w]
    rfl
  refine pure_ (i := 17) (N := some 11) (v := ?_) (a' := ?_) #[true, true, true, true, true, true, true, true, true, true, true, true, true, true, true, true, true, true] rfl rfl (any_of HT_.out (by kernel_rfl)) (fun _ _ _ h => h) (Or.inl ⟨by rfl, ?_⟩) ?_ ?_
  rotate_left
  · intro w'
    go_simp
    with_reducible rfl
  rotate_left
  · simp only [Act.put, List.setIfInBounds_toArray, List.set_cons_zero, List.set_cons_succ, i64_w, i32_w]
    rfl
  refine done_ (done_of HT_.out (by kernel_rfl)) ?_
  clear hHeld
  by_cases c1 : wrap64 (x.f0 + (rd_T62 l0 a).f2) < wrap64 (y.f0 + (rd_T62 l0 b).f2)
  · have hs : soonB l0 a x b y = true := by unfold soonB; rw [if_pos c1]
    have c1b : decide (wrap64 (x.f0 + (rd_T62 l0 a).f2) < wrap64 (y.f0 + (rd_T62 l0 b).f2)) = true := decide_eq_true c1
    clear c1
    go_wp2
    go_ret
    exact ⟨by rw [hs]; rfl, by repeat (first | (with_reducible first | exact HB.out | apply below_alloc | apply pw_below_drewN | apply below_drew1) | exact HB.out)⟩
  · have c1b : decide (wrap64 (x.f0 + (rd_T62 l0 a).f2) < wrap64 (y.f0 + (rd_T62 l0 b).f2)) = false := decide_eq_false c1
    by_cases c2 : wrap64 (x.f0 + (rd_T62 l0 a).f2) = wrap64 (y.f0 + (rd_T62 l0 b).f2)
    · have hs : soonB l0 a x b y = decide (a < b) := by unfold soonB; rw [if_neg c1, if_pos c2]
      have c2b : (wrap64 (x.f0 + (rd_T62 l0 a).f2) == wrap64 (y.f0 + (rd_T62 l0 b).f2)) = true := beq_iff_eq.mpr c2
      clear c1 c2
      go_wp2
      go_ret
      exact ⟨by rw [hs]; rfl, by repeat (first | (with_reducible first | exact HB.out | apply below_alloc | apply pw_below_drewN | apply below_drew1) | exact HB.out)⟩
    · have hs : soonB l0 a x b y = false := by unfold soonB; rw [if_neg c1, if_neg c2]
      have c2b : (wrap64 (x.f0 + (rd_T62 l0 a).f2) == wrap64 (y.f0 + (rd_T62 l0 b).f2)) = false := beq_eq_false_iff_ne.mpr c2
      clear c1 c2
      go_wp2
      go_ret
      exact ⟨by rw [hs]; rfl, by repeat (first | (with_reducible first | exact HB.out | apply below_alloc | apply pw_below_drewN | apply below_drew1) | exact HB.out)⟩
end Go.Proofs.Ytdbcoojibbboiaa.PFnExactRunUrgent
