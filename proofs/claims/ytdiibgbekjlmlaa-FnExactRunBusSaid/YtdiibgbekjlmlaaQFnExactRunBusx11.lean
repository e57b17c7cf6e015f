-- Written by this session's own program for the law FnExactRunBus; it began as the print's text.
import Derived.Test.YtdiibgbekjlmlaaQFnExactRunBusx10
import Derived.Test.YtdiibgbekjlmlaaQFnExactRunBusx0
import Derived.Test.YtdiibgbekjlmlaaQFnExactRunBusx50
namespace Go.Proofs.Ytdiibgbekjlmlaa.PFnExactRunBus
open Go.RowKit Go.Proofs.YtdiibgbekjlmlaaW.PrintWords Go.Proofs.YtdiibgbekjlmlaaW.PrintLast Go.Proofs.YtdiibgbekjlmlaaW.PrintMore
open Go.Proofs.YtdiibgbekjlmlaaW.PrintWords renaming below_alloc → zA, pw_below_drewN → zN, below_drew1 → zD, below_set → zS
open Go.Proofs.YtdiibgbekjlmlaaW.PrintWords.Aside0 renaming mk → aM
open Go.Proofs.YtdiibgbekjlmlaaW.PrintWords.Kd renaming C_alloc → cA, C_drewN → cN, C_drew → cD
attribute [local go_sem] max2_int min2_int max_two min_two max_three min_three max_four min_four   -- for this text's walks alone
set_option linter.unusedVariables false
set_option linter.unusedSimpArgs false

theorem of_ite_none11 {α : Type} {c : Prop} [Decidable c] {x : Option α} {r : α} (h : (if c then x else none) = some r) : c ∧ x = some r := by
 by_cases hc : c
 · exact ⟨hc, by rw [if_pos hc] at h; exact h⟩
 · rw [if_neg hc] at h; exact absurd h (by simp)

/-! ### laws_markTalkerS: function 12 -/
def laws_markTalkerS.l0 : Nat → List (S44) → Int → Int → Option (Int × (List (S44)))
 | 0, _, _, _ => none
 | k + 1, x0, x1, x5 => if x5 < (x0.length : Int) then (if 0 ≤ x5 then ((laws_markFrameS.f k (rd_T44 x0 x5).f0 x1).bind fun bt => (laws_markTalkerS.l0 k (x0.set (x5 : Int).toNat (⟨bt.2, bt.1, wrap64 (bt.1 + 1), ((Int.tmod (wrap64 ((wrap64 (bt.1 + 1)) + 1)) 3) == 0)⟩ : S44)) (wrap64 ((wrap64 ((wrap64 (bt.1 + 1)) + 1)) + 1)) (wrap64 (x5 + 1)))) else (none)) else (some (x1, x0))
def laws_markTalkerS.f (k : Nat) (l0 : List (S44)) (a1 : Int) : Option (Int × (List (S44))) := laws_markTalkerS.l0 k l0 a1 0
set_option maxHeartbeats 8000000 in
set_option maxRecDepth 100000 in
theorem laws_markTalkerS.calls (k : Nat) (P0_ : Nat → Prop) (u9000_ : Value) (l0 : List (S44)) (a1 : Int) (r1 : Int) (r2 : List (S44)) (w0 w : World) (hB : Below w0.heap.size w0 w) (ho0 : Kd.S k44 44 w w0.heap.size P0_ u9000_ l0) (h : laws_markTalkerS.f k l0 a1 = some (r1, r2)) :
 Calls Try.prog 12 #[u9000_, .int .i64 a1] w fun e w' => e = .returned (.int .i64 r1) ∧ Kd.S k44 44 w' w0.heap.size (fun k_ => (P0_ k_ ∨ w.heap.size ≤ k_)) u9000_ r2 ∧ Below w0.heap.size w0 w' ∧ Kept w w' (fun k_ => P0_ k_) := by
 have HO0 := aM (show Kd.S k44 44 w w0.heap.size (fun k_ => (P0_ k_ ∨ w.heap.size ≤ k_)) u9000_ l0 from Kd.S_mono ho0 (fun k_ hk => (.inl hk)))
 have HK := aM (Kept.refl w (fun k_ => P0_ k_))
 have HB := aM hB
 clear hB
 have H : (laws_markTalkerS.l0 k l0 a1 0) = some (r1, r2) := h
 clear h
 have H' := aM H
 clear H
 go_enter Try.func12, Try.ntmps12
 go_wp2
 go_loopg [1, 5] k (fun kq v1 v5 w' => ∃ (x0_1 : List (S44)) (x1_1 : Int) (x5_1 : Int), v1 = .int .i64 x1_1 ∧ v5 = .int .i64 x5_1 ∧ Aside0 (laws_markTalkerS.l0 kq x0_1 x1_1 x5_1 = some (r1, r2)) ∧ Aside0 (kq ≤ k) ∧ Aside0 (Kd.S k44 44 w' w0.heap.size (fun k_ => (P0_ k_ ∨ w.heap.size ≤ k_)) u9000_ x0_1) ∧ Aside0 (Kept w w' (fun k_ => P0_ k_)) ∧ Aside0 (Below w0.heap.size w0 w'))
 case atStart => exact ⟨(l0), (a1), (0), (by first | rfl | simp | simp [*]), (by first | rfl | simp | simp [*]), H', ⟨Nat.le_refl _⟩, ⟨HO0.out⟩, ⟨HK.out⟩, ⟨HB.out⟩⟩
 case round =>
  clear H'; (obtain ⟨x0_1, x1_1, x5_1, rfl, rfl, HA, HK1, HO_0, HK, HB⟩ := hrel)
  cases gk with
  | zero => exact absurd HA.out (by simp [laws_markTalkerS.l0])
  | succ k1 =>
   have H := HA.out; clear HA; (simp only [laws_markTalkerS.l0] at H)
   by_cases c3 : x5_1 < (x0_1.length : Int)
   · rw [if_pos c3] at H
     (have c3b0 := decide_eq_true c3); (obtain ⟨c4, H⟩ := of_ite_none11 H); (have c4b0 := decide_eq_true c4); (replace H := Option.bind_eq_some_iff.mp H); (obtain ⟨⟨t1, t2⟩, A50, H⟩ := H); (replace H : laws_markTalkerS.l0 k1 (x0_1.set (x5_1 : Int).toNat (⟨t2, t1, wrap64 (t1 + 1), ((Int.tmod (wrap64 ((wrap64 (t1 + 1)) + 1)) 3) == 0)⟩ : S44)) (wrap64 ((wrap64 ((wrap64 (t1 + 1)) + 1)) + 1)) (wrap64 (x5_1 + 1)) = some (r1, r2) := H); (have A5 := aM A50); (have H' := aM H); clear A50 H; (obtain ⟨go5, co8, eo5, gb5, gl5, cl5, HG5⟩ := Kd.S_form HO_0.out (by omega)); subst eo5; (have GB5 := aM gb5); (have HMgo5 := aM (show (P0_ go5 ∨ w.heap.size ≤ go5) from ((Kd.S_R HO_0.out).1 _ rfl))); (obtain ⟨oki, ce5, hcl5, hM5, hcc5, hfr5, hoki, hH⟩ := Kd.S_elem HO_0.out z44 (x5_1 : Int) c4 c3); (obtain ⟨ve, rfl, ge⟩ := k44_openM hM5); (have hx5_0 : wr.cell? ⟨go5, (x5_1 : Int).toNat * 4, none⟩ = some ve := hcc5 0 _ rfl); (obtain ⟨OKI_, hOKI_⟩ : ∃ P : Nat → Prop, P = (fun k_ => oki k_ ∨ (P0_ k_ ∨ w.heap.size ≤ k_) ∧ wr.heap.size ≤ k_) := ⟨_, rfl⟩); (have HN := aM (show ∀ k_, OKI_ k_ → some k_ ≠ some go5 from fun k_ h_ e_ => by injection e_ with e_; subst e_; rw [hOKI_] at h_; rcases h_ with h_ | h_; exact (hoki _ h_).2 rfl; exact Nat.not_lt.mpr h_.2 gl5)); (have HE := aM ge); (have HH := aM hH); (have HKo := aM hoki); clear gb5 gl5 HG5 hcl5 hM5 hcc5 hfr5 hoki hH ge HO_0; (replace c3 := eq_true c3); (replace c4 := eq_true c4)
     go_wp2_with (first | ((with_reducible refine gate_callee (f := 30) rfl ?_); refine goesL_ (some 18) rfl rfl Try.func30 (by kernel_rfl) rfl #[ve, .int .i64 x1_1] rfl (by (try simp only [List.map_toArray, List.map_cons, List.map_nil]); first | done | rfl) ?_; (with_reducible refine (laws_markFrameS.calls k1 oki ve ((rd_T44 x0_1 x5_1).f0) x1_1 t1 t2 w0 _ ?side1 ?side2 A5.out).mono ?_); (case side1 => exact HB.out); (case side2 => exact HE.out); rintro e w8 ⟨rfl, hy0, hb, hkp⟩; refine ⟨_, rfl, ?_⟩; have n0_ := aM (show Kd.H k44 44 w8 w0.heap.size (fun k_ => (P0_ k_ ∨ w.heap.size ≤ k_)) (.slice (some ⟨go5, 0, none⟩) x0_1.length co8) x0_1 (x5_1 : Int) OKI_ [ve, .int .i64 ((rd_T44 x0_1 x5_1).f1), .int .i64 ((rd_T44 x0_1 x5_1).f2), .bool ((rd_T44 x0_1 x5_1).f3)] from by rw [hOKI_]; exact Kd.H_kept (Kd.H_widen HH.out) hkp (fun k_ _ hn_ hs_ => hn_ (Or.inl hs_))); have n1_ := aM (Kd.S_mono (ok' := OKI_) hy0 (fun k_ h_ => by rw [hOKI_]; rcases h_ with h_ | h_; exact Or.inl h_; exact Or.inr ⟨Or.inr (Nat.le_trans HK.out.1 h_), h_⟩)); have n2_ := aM hb; have n3_ := aM (Kept.then_ HK.out hkp (fun k_ h_ => (HKo.out k_ h_).1)); clear HH HE HB HK hy0 hb hkp; have HH := n0_; have HE := n1_; have HB := n2_; have HK := n3_; clear n0_ n1_ n2_ n3_) | ((with_reducible refine gate_store (t := 3) (p := 23) rfl ?_); have hc_ := H_cells HH.out (od (by assumption)) (by have h_ : (x5_1 : Int) < (x0_1.length : Int) := (od (by assumption)); exact h_); have hx_ : w8.cell? ⟨go5, (x5_1 : Int).toNat * 4 + 1, none⟩ = some (.int .i64 ((rd_T44 x0_1 x5_1).f1)) := hc_.1 1 _ rfl; have hf_ : w8.frozen? ⟨go5, (x5_1 : Int).toNat * 4 + 1, none⟩ = false := hc_.2 ((x5_1 : Int).toNat * 4 + 1); have hS_ := Kd.H_seg HH.out (od (by assumption)) (by have h_ : (x5_1 : Int) < (x0_1.length : Int) := (od (by assumption)); exact h_) (seg := [.int .i64 t1]) (j := 1) (show 2 ≤ 4 from by decide) (by intro q_ hq_; rw [List.mem_singleton.1 hq_]; rfl); clear hc_; refine store_event (t := 3) (p := 23) (v := ?vo_w9) (w1 := (w8.setCell ⟨go5, (x5_1 : Int).toNat * 4 + 1, none⟩ (.int .i64 t1))) ?hg ?ho ?hn ?hr ?_; (case ho => rfl); (case hg => rfl); (case hn => rfl); (case hr => first | (go_simp; done) | (go_simp; rfl)); intro w9 hw; have hg : w8.grownBy w9 (some go5) := (by rw [hw]; exact hS_.2); have n0_ := aM (show Kd.H k44 44 w9 w0.heap.size (fun k_ => (P0_ k_ ∨ w.heap.size ≤ k_)) (.slice (some ⟨go5, 0, none⟩) x0_1.length co8) x0_1 (x5_1 : Int) OKI_ [ve, .int .i64 t1, .int .i64 ((rd_T44 x0_1 x5_1).f2), .bool ((rd_T44 x0_1 x5_1).f3)] from by rw [hw]; exact hS_.1); have n1_ := aM (Kd.S_grown HE.out hg HN.out); have n2_ := aM (show Below w0.heap.size w0 w9 from by rw [hw]; exact zS HB.out GB5.out); have n3_ := aM (Kept.of_grown (S := (fun k_ => P0_ k_)) hg HK.out (fun k_ e_ => by injection e_ with e_; subst e_; exact HMgo5.out)); clear HH HE HB HK hS_ hx_ hf_ hg hw; have HH := n0_; have HE := n1_; have HB := n2_; have HK := n3_; clear n0_ n1_ n2_ n3_) | ((with_reducible refine gate_store (t := 3) (p := 30) rfl ?_); have hc_ := H_cells HH.out (od (by assumption)) (by have h_ : (x5_1 : Int) < (x0_1.length : Int) := (od (by assumption)); exact h_); have hx_ : w9.cell? ⟨go5, (x5_1 : Int).toNat * 4 + 2, none⟩ = some (.int .i64 ((rd_T44 x0_1 x5_1).f2)) := hc_.1 2 _ rfl; have hf_ : w9.frozen? ⟨go5, (x5_1 : Int).toNat * 4 + 2, none⟩ = false := hc_.2 ((x5_1 : Int).toNat * 4 + 2); have hS_ := Kd.H_seg HH.out (od (by assumption)) (by have h_ : (x5_1 : Int) < (x0_1.length : Int) := (od (by assumption)); exact h_) (seg := [.int .i64 (wrap64 (t1 + 1))]) (j := 2) (show 3 ≤ 4 from by decide) (by intro q_ hq_; rw [List.mem_singleton.1 hq_]; rfl); clear hc_; refine store_event (t := 3) (p := 30) (v := ?vo_w10) (w1 := (w9.setCell ⟨go5, (x5_1 : Int).toNat * 4 + 2, none⟩ (.int .i64 (wrap64 (t1 + 1))))) ?hg ?ho ?hn ?hr ?_; (case ho => rfl); (case hg => rfl); (case hn => rfl); (case hr => first | (go_simp; done) | (go_simp; rfl)); intro w10 hw; have hg : w9.grownBy w10 (some go5) := (by rw [hw]; exact hS_.2); have n0_ := aM (show Kd.H k44 44 w10 w0.heap.size (fun k_ => (P0_ k_ ∨ w.heap.size ≤ k_)) (.slice (some ⟨go5, 0, none⟩) x0_1.length co8) x0_1 (x5_1 : Int) OKI_ [ve, .int .i64 t1, .int .i64 (wrap64 (t1 + 1)), .bool ((rd_T44 x0_1 x5_1).f3)] from by rw [hw]; exact hS_.1); have n1_ := aM (Kd.S_grown HE.out hg HN.out); have n2_ := aM (show Below w0.heap.size w0 w10 from by rw [hw]; exact zS HB.out GB5.out); have n3_ := aM (Kept.of_grown (S := (fun k_ => P0_ k_)) hg HK.out (fun k_ e_ => by injection e_ with e_; subst e_; exact HMgo5.out)); clear HH HE HB HK hS_ hx_ hf_ hg hw; have HH := n0_; have HE := n1_; have HB := n2_; have HK := n3_; clear n0_ n1_ n2_ n3_) | ((with_reducible refine gate_store (t := 4) (p := 39) rfl ?_); have hc_ := H_cells HH.out (od (by assumption)) (by have h_ : (x5_1 : Int) < (x0_1.length : Int) := (od (by assumption)); exact h_); have hx_ : w10.cell? ⟨go5, (x5_1 : Int).toNat * 4 + 3, none⟩ = some (.bool ((rd_T44 x0_1 x5_1).f3)) := hc_.1 3 _ rfl; have hf_ : w10.frozen? ⟨go5, (x5_1 : Int).toNat * 4 + 3, none⟩ = false := hc_.2 ((x5_1 : Int).toNat * 4 + 3); have hS_ := Kd.H_seg HH.out (od (by assumption)) (by have h_ : (x5_1 : Int) < (x0_1.length : Int) := (od (by assumption)); exact h_) (seg := [.bool ((Int.tmod (wrap64 ((wrap64 (t1 + 1)) + 1)) 3) == 0)]) (j := 3) (show 4 ≤ 4 from by decide) (by intro q_ hq_; rw [List.mem_singleton.1 hq_]; rfl); clear hc_; refine store_event (t := 4) (p := 39) (v := ?vo_w11) (w1 := (w10.setCell ⟨go5, (x5_1 : Int).toNat * 4 + 3, none⟩ (.bool ((Int.tmod (wrap64 ((wrap64 (t1 + 1)) + 1)) 3) == 0)))) ?hg ?ho ?hn ?hr ?_; (case ho => rfl); (case hg => rfl); (case hn => rfl); (case hr => first | (go_simp; done) | (go_simp; rfl)); intro w11 hw; have hg : w10.grownBy w11 (some go5) := (by rw [hw]; exact hS_.2); have n0_ := aM (show Kd.H k44 44 w11 w0.heap.size (fun k_ => (P0_ k_ ∨ w.heap.size ≤ k_)) (.slice (some ⟨go5, 0, none⟩) x0_1.length co8) x0_1 (x5_1 : Int) OKI_ [ve, .int .i64 t1, .int .i64 (wrap64 (t1 + 1)), .bool ((Int.tmod (wrap64 ((wrap64 (t1 + 1)) + 1)) 3) == 0)] from by rw [hw]; exact hS_.1); have n1_ := aM (Kd.S_grown HE.out hg HN.out); have n2_ := aM (show Below w0.heap.size w0 w11 from by rw [hw]; exact zS HB.out GB5.out); have n3_ := aM (Kept.of_grown (S := (fun k_ => P0_ k_)) hg HK.out (fun k_ e_ => by injection e_ with e_; subst e_; exact HMgo5.out)); clear HH HE HB HK hS_ hx_ hf_ hg hw; have HH := n0_; have HE := n1_; have HB := n2_; have HK := n3_; clear n0_ n1_ n2_ n3_))
     go_roundg k1
     case measure => have := HK1.out; omega
     case rel => exact ⟨(x0_1.set (x5_1 : Int).toNat (⟨t2, t1, wrap64 (t1 + 1), ((Int.tmod (wrap64 ((wrap64 (t1 + 1)) + 1)) 3) == 0)⟩ : S44)), (wrap64 ((wrap64 ((wrap64 (t1 + 1)) + 1)) + 1)), (wrap64 (x5_1 + 1)), (by first | rfl | simp | simp [*]), (by first | rfl | simp | simp [*]), H', ⟨by have := HK1.out; omega⟩, ⟨Kd.H_back HH.out (k44_mkM _ _ _ (⟨t2, t1, wrap64 (t1 + 1), ((Int.tmod (wrap64 ((wrap64 (t1 + 1)) + 1)) 3) == 0)⟩ : S44) HE.out) (fun _ h_ => h_)⟩, ⟨HK.out⟩, ⟨HB.out⟩⟩
   · rw [if_neg c3] at H
     (have c3b0 := decide_eq_false c3); clear c3; (simp only [Option.some.injEq, Prod.mk.injEq] at H); (obtain ⟨rfl, rfl⟩ := H); (obtain ⟨Ao15, co15, eo15⟩ := Kd.S_slice HO_0.out); subst eo15
     go_wp2
     go_ret
     exact ⟨by first | rfl | (simp [errW_none, errW_some] <;> rfl) | (simp [*, errW_none, errW_some] <;> rfl), HO_0.out, HB.out, HK.out⟩

/-! ### laws_markIntS: function 13 -/
def laws_markIntS.l0 : Nat → List Int → Int → Int → Option (Int × List Int)
 | 0, _, _, _ => none
 | k + 1, x0, x1, x5 => if x5 < (x0.length : Int) then (if 0 ≤ x5 then (laws_markIntS.l0 k (x0.set (x5 : Int).toNat x1) (wrap64 (x1 + 1)) (wrap64 (x5 + 1))) else (none)) else (some (x1, x0))
def laws_markIntS.f (k : Nat) (l0 : List Int) (a1 : Int) : Option (Int × List Int) := laws_markIntS.l0 k l0 a1 0
set_option maxHeartbeats 8000000 in
set_option maxRecDepth 100000 in
theorem laws_markIntS.calls (k : Nat) (P0_ : Nat → Prop) (u9000_ : Value) (l0 : List Int) (a1 : Int) (r1 : Int) (r2 : List Int) (w0 w : World) (hB : Below w0.heap.size w0 w) (ho0 : Kd.R (Kd.int .i64) 3 w w0.heap.size P0_ u9000_ l0) (h : laws_markIntS.f k l0 a1 = some (r1, r2)) :
 Calls Try.prog 13 #[u9000_, .int .i64 a1] w fun e w' => e = .returned (.int .i64 r1) ∧ Kd.R (Kd.int .i64) 3 w' w0.heap.size (fun k_ => (P0_ k_ ∨ w.heap.size ≤ k_)) u9000_ r2 ∧ Below w0.heap.size w0 w' ∧ Kept w w' (fun k_ => P0_ k_) := by
 have HO0 := aM (show Kd.R (Kd.int .i64) 3 w w0.heap.size (fun k_ => (P0_ k_ ∨ w.heap.size ≤ k_)) u9000_ l0 from Kd.R_mono ho0 (fun k_ hk => (.inl hk)))
 have HK := aM (Kept.refl w (fun k_ => P0_ k_))
 have HW0 := aM hB.size
 have HB := aM hB
 clear hB
 have H : (laws_markIntS.l0 k l0 a1 0) = some (r1, r2) := h
 clear h
 have H' := aM H
 clear H
 go_enter Try.func13, Try.ntmps13
 go_wp2
 go_loopg [1, 5] k (fun kq v1 v5 w' => ∃ (x0_1 : List Int) (x1_1 : Int) (x5_1 : Int), v1 = .int .i64 x1_1 ∧ v5 = .int .i64 x5_1 ∧ Aside0 (laws_markIntS.l0 kq x0_1 x1_1 x5_1 = some (r1, r2)) ∧ Aside0 (kq ≤ k) ∧ Aside0 (Kd.R (Kd.int .i64) 3 w' w0.heap.size (fun k_ => (P0_ k_ ∨ w.heap.size ≤ k_)) u9000_ x0_1) ∧ Aside0 (Kept w w' (fun k_ => P0_ k_)) ∧ Aside0 (Below w0.heap.size w0 w'))
 case atStart => exact ⟨(l0), (a1), (0), (by first | rfl | simp | simp [*]), (by first | rfl | simp | simp [*]), H', ⟨Nat.le_refl _⟩, ⟨by exact HO0.out⟩, ⟨by repeat (first | (with_reducible first | exact HK.out | apply Kept.alloc | apply Kept.drewN | apply Kept.drew) | exact HK.out)⟩, ⟨by repeat (with_reducible first | exact HB.out | apply zA | apply zN | apply zD)⟩⟩
 case round =>
  clear H'; (obtain ⟨x0_1, x1_1, x5_1, rfl, rfl, HA, HK1, HO_0, HK, HB⟩ := hrel)
  cases gk with
  | zero => exact absurd HA.out (by simp [laws_markIntS.l0])
  | succ k1 =>
   have H := HA.out; clear HA; (simp only [laws_markIntS.l0] at H)
   by_cases c3 : x5_1 < (x0_1.length : Int)
   · rw [if_pos c3] at H
     (have c3b0 := decide_eq_true c3); clear c3; (obtain ⟨c4, H⟩ := of_ite_none11 H); (have c4b0 := decide_eq_true c4); clear c4; (obtain ⟨y304, hy304⟩ : ∃ y_ : List Int, y_ = (x0_1.set (x5_1 : Int).toNat x1_1) := ⟨_, rfl⟩); (replace H : (laws_markIntS.l0 k1 y304 (wrap64 (x1_1 + 1)) (wrap64 (x5_1 + 1))) = some (r1, r2) := by first | (rw [hy304]; with_reducible exact H) | (have H2_ := (Option.bind_some _ _).symm.trans H; rw [hy304]; with_reducible exact H2_) | (have H2_ := (Option.bind_some _ _).symm.trans H; with_reducible exact H2_) | with_reducible exact H | (rw [hy304]; exact H) | exact H); (have Ny304 := aM hy304); clear hy304; (have H' := aM H); clear H; (obtain ⟨Ao6, co6, eo6⟩ := Kd.R_slice HO_0.out); subst eo6; (have p5 : 0 ≤ (x5_1 : Int) := od (by assumption)); (have q5 : (x5_1 : Int) < ((x0_1.length : Int) : Int) := od (by assumption)); (obtain ⟨go5, co5, eo5, gb5, gl5, cl5, HG5⟩ := Kd.R_form HO_0.out (by omega))
     (first | cases eo5 | (injection eo5 with ea_ en_ ec_; (first | subst ea_ | (injection ea_ with ea_; subst ea_)); subst ec_; clear en_))
     (have GB5 := aM gb5); (have GG5 := aM HG5); clear gb5 gl5 HG5; (have HMgo5 := aM (show (P0_ go5 ∨ w.heap.size ≤ go5) from (HO_0.out.1 _ rfl))); (obtain ⟨hx5_0, hf5_0⟩ := Kd.R_celln 0 HO_0.out (x5_1 : Int) p5 q5); (replace p5 := eq_true p5); (replace q5 := eq_true q5); (have HP7 := Kd.R_putg HO_0.out (x5_1 : Int) x1_1)
     go_wp2_with (first | ((with_reducible refine gate_store (t := 3) (p := 15) rfl ?_); refine store_event (t := 3) (p := 15) (v := ?vo_w8) (w1 := (wr.setCell ⟨go5, (x5_1 : Int).toNat, none⟩ (.int .i64 x1_1))) ?hg ?ho ?hn ?hr ?_; (case ho => rfl); (case hg => rfl); (case hn => rfl); (case hr => first | (go_simp; done) | (go_simp; rfl)); intro w8 hw; have hg : wr.grownBy w8 (some go5) := (by rw [hw]; exact HP7.2); have hp_ : Kd.R (Kd.int .i64) 3 w8 w0.heap.size (fun k_ => (P0_ k_ ∨ w.heap.size ≤ k_)) (.slice (some ⟨go5, 0, none⟩) x0_1.length co6) y304 := (by rw [hw, Ny304.out]; exact HP7.1); clear HP7; have n0_ := aM (hp_); have n1_ := aM ((by rw [hw]; exact zS (HB.out) GB5.out : Below w0.heap.size w0 w8)); have n2_ := aM (Kept.of_grown (S := (fun k_ => P0_ k_)) hg (by repeat (first | (with_reducible first | exact HK.out | apply Kept.alloc | apply Kept.drewN | apply Kept.drew) | exact HK.out)) (fun k_ e_ => (HO_0.out.1 k_ e_))); clear HO_0; clear HB; clear HK; have HO_0 := n0_; have HB := n1_; have HK := n2_; clear n0_ n1_ n2_; clear hg hw hp_))
     go_roundg k1
     case measure => have := HK1.out; omega
     case rel => exact ⟨(y304), (wrap64 (x1_1 + 1)), (wrap64 (x5_1 + 1)), (by first | rfl | simp | simp [*]), (by first | rfl | simp | simp [*]), H', ⟨by have := HK1.out; omega⟩, ⟨by exact HO_0.out⟩, ⟨by repeat (first | (with_reducible first | exact HK.out | apply Kept.alloc | apply Kept.drewN | apply Kept.drew) | exact HK.out)⟩, ⟨by repeat (with_reducible first | exact HB.out | apply zA | apply zN | apply zD)⟩⟩
   · rw [if_neg c3] at H
     (have c3b0 := decide_eq_false c3); clear c3; (simp only [Option.some.injEq, Prod.mk.injEq] at H); (obtain ⟨rfl, rfl⟩ := H); (obtain ⟨Ao9, co9, eo9⟩ := Kd.R_slice HO_0.out); subst eo9
     go_wp2
     go_ret
     exact ⟨by first | rfl | (simp [errW_none, errW_some] <;> rfl) | (simp [*, errW_none, errW_some] <;> rfl), by exact HO_0.out, by repeat (with_reducible first | exact HB.out | apply zA | apply zN | apply zD), by repeat (first | (with_reducible first | exact HK.out | apply Kept.alloc | apply Kept.drewN | apply Kept.drew) | exact HK.out)⟩

/-! ### laws_markSentS: function 14 -/
def laws_markSentS.l0 : Nat → List (S53) → Int → Int → Option (Int × (List (S53)))
 | 0, _, _, _ => none
 | k + 1, x0, x1, x5 => if x5 < (x0.length : Int) then (if 0 ≤ x5 then ((some (x0.set (x5 : Int).toNat (⟨x1, (rd_T53 x0 x5).f1, (rd_T53 x0 x5).f2, (rd_T53 x0 x5).f3⟩ : S53) : List (S53))).bind fun y305 => ((some (y305.set (x5 : Int).toNat (⟨(rd_T53 y305 x5).f0, wrap64 (x1 + 1), (rd_T53 y305 x5).f2, (rd_T53 y305 x5).f3⟩ : S53) : List (S53))).bind fun y306 => ((some (y306.set (x5 : Int).toNat (⟨(rd_T53 y306 x5).f0, (rd_T53 y306 x5).f1, wrap64 ((wrap64 (x1 + 1)) + 1), (rd_T53 y306 x5).f3⟩ : S53) : List (S53))).bind fun y307 => (laws_markSentS.l0 k (y307.set (x5 : Int).toNat (⟨(rd_T53 y307 x5).f0, (rd_T53 y307 x5).f1, (rd_T53 y307 x5).f2, ((Int.tmod (wrap64 ((wrap64 ((wrap64 (x1 + 1)) + 1)) + 1)) 3) == 0)⟩ : S53)) (wrap64 ((wrap64 ((wrap64 ((wrap64 (x1 + 1)) + 1)) + 1)) + 1)) (wrap64 (x5 + 1)))))) else (none)) else (some (x1, x0))
def laws_markSentS.f (k : Nat) (l0 : List (S53)) (a1 : Int) : Option (Int × (List (S53))) := laws_markSentS.l0 k l0 a1 0
set_option maxHeartbeats 8000000 in
set_option maxRecDepth 100000 in
theorem laws_markSentS.calls (k : Nat) (P0_ : Nat → Prop) (u9000_ : Value) (l0 : List (S53)) (a1 : Int) (r1 : Int) (r2 : List (S53)) (w0 w : World) (hB : Below w0.heap.size w0 w) (ho0 : Kd.R k53 53 w w0.heap.size P0_ u9000_ l0) (h : laws_markSentS.f k l0 a1 = some (r1, r2)) :
 Calls Try.prog 14 #[u9000_, .int .i64 a1] w fun e w' => e = .returned (.int .i64 r1) ∧ Kd.R k53 53 w' w0.heap.size (fun k_ => (P0_ k_ ∨ w.heap.size ≤ k_)) u9000_ r2 ∧ Below w0.heap.size w0 w' ∧ Kept w w' (fun k_ => P0_ k_) := by
 have HO0 := aM (show Kd.R k53 53 w w0.heap.size (fun k_ => (P0_ k_ ∨ w.heap.size ≤ k_)) u9000_ l0 from Kd.R_mono ho0 (fun k_ hk => (.inl hk)))
 have HK := aM (Kept.refl w (fun k_ => P0_ k_))
 have HW0 := aM hB.size
 have HB := aM hB
 clear hB
 have H : (laws_markSentS.l0 k l0 a1 0) = some (r1, r2) := h
 clear h
 have H' := aM H
 clear H
 go_enter Try.func14, Try.ntmps14
 go_wp2
 go_loopg [1, 5] k (fun kq v1 v5 w' => ∃ (x0_1 : List (S53)) (x1_1 : Int) (x5_1 : Int), v1 = .int .i64 x1_1 ∧ v5 = .int .i64 x5_1 ∧ Aside0 (laws_markSentS.l0 kq x0_1 x1_1 x5_1 = some (r1, r2)) ∧ Aside0 (kq ≤ k) ∧ Aside0 (Kd.R k53 53 w' w0.heap.size (fun k_ => (P0_ k_ ∨ w.heap.size ≤ k_)) u9000_ x0_1) ∧ Aside0 (Kept w w' (fun k_ => P0_ k_)) ∧ Aside0 (Below w0.heap.size w0 w'))
 case atStart => exact ⟨(l0), (a1), (0), (by first | rfl | simp | simp [*]), (by first | rfl | simp | simp [*]), H', ⟨Nat.le_refl _⟩, ⟨by exact HO0.out⟩, ⟨by repeat (first | (with_reducible first | exact HK.out | apply Kept.alloc | apply Kept.drewN | apply Kept.drew) | exact HK.out)⟩, ⟨by repeat (with_reducible first | exact HB.out | apply zA | apply zN | apply zD)⟩⟩
 case round =>
  clear H'; (obtain ⟨x0_1, x1_1, x5_1, rfl, rfl, HA, HK1, HO_0, HK, HB⟩ := hrel)
  cases gk with
  | zero => exact absurd HA.out (by simp [laws_markSentS.l0])
  | succ k1 =>
   have H := HA.out; clear HA; (simp only [laws_markSentS.l0] at H)
   by_cases c3 : x5_1 < (x0_1.length : Int)
   · rw [if_pos c3] at H
     (have c3b0 := decide_eq_true c3); clear c3; (obtain ⟨c4, H⟩ := of_ite_none11 H); (have c4b0 := decide_eq_true c4); clear c4; (obtain ⟨y305, hy305⟩ : ∃ y_ : List (S53), y_ = (x0_1.set (x5_1 : Int).toNat (⟨x1_1, (rd_T53 x0_1 x5_1).f1, (rd_T53 x0_1 x5_1).f2, (rd_T53 x0_1 x5_1).f3⟩ : S53)) := ⟨_, rfl⟩); (replace H : ((some (y305.set (x5_1 : Int).toNat (⟨(rd_T53 y305 x5_1).f0, wrap64 (x1_1 + 1), (rd_T53 y305 x5_1).f2, (rd_T53 y305 x5_1).f3⟩ : S53) : List (S53))).bind fun y306 => ((some (y306.set (x5_1 : Int).toNat (⟨(rd_T53 y306 x5_1).f0, (rd_T53 y306 x5_1).f1, wrap64 ((wrap64 (x1_1 + 1)) + 1), (rd_T53 y306 x5_1).f3⟩ : S53) : List (S53))).bind fun y307 => (laws_markSentS.l0 k1 (y307.set (x5_1 : Int).toNat (⟨(rd_T53 y307 x5_1).f0, (rd_T53 y307 x5_1).f1, (rd_T53 y307 x5_1).f2, ((Int.tmod (wrap64 ((wrap64 ((wrap64 (x1_1 + 1)) + 1)) + 1)) 3) == 0)⟩ : S53)) (wrap64 ((wrap64 ((wrap64 ((wrap64 (x1_1 + 1)) + 1)) + 1)) + 1)) (wrap64 (x5_1 + 1))))) = some (r1, r2) := by first | (rw [hy305]; with_reducible exact H) | (have H2_ := (Option.bind_some _ _).symm.trans H; rw [hy305]; with_reducible exact H2_) | (have H2_ := (Option.bind_some _ _).symm.trans H; with_reducible exact H2_) | with_reducible exact H | (rw [hy305]; exact H) | exact H); (have Ny305 := aM hy305); clear hy305; (obtain ⟨y306, hy306⟩ : ∃ y_ : List (S53), y_ = (y305.set (x5_1 : Int).toNat (⟨(rd_T53 y305 x5_1).f0, wrap64 (x1_1 + 1), (rd_T53 y305 x5_1).f2, (rd_T53 y305 x5_1).f3⟩ : S53)) := ⟨_, rfl⟩)
     (replace H : ((some (y306.set (x5_1 : Int).toNat (⟨(rd_T53 y306 x5_1).f0, (rd_T53 y306 x5_1).f1, wrap64 ((wrap64 (x1_1 + 1)) + 1), (rd_T53 y306 x5_1).f3⟩ : S53) : List (S53))).bind fun y307 => (laws_markSentS.l0 k1 (y307.set (x5_1 : Int).toNat (⟨(rd_T53 y307 x5_1).f0, (rd_T53 y307 x5_1).f1, (rd_T53 y307 x5_1).f2, ((Int.tmod (wrap64 ((wrap64 ((wrap64 (x1_1 + 1)) + 1)) + 1)) 3) == 0)⟩ : S53)) (wrap64 ((wrap64 ((wrap64 ((wrap64 (x1_1 + 1)) + 1)) + 1)) + 1)) (wrap64 (x5_1 + 1)))) = some (r1, r2) := by first | (rw [hy306]; with_reducible exact H) | (have H2_ := (Option.bind_some _ _).symm.trans H; rw [hy306]; with_reducible exact H2_) | (have H2_ := (Option.bind_some _ _).symm.trans H; with_reducible exact H2_) | with_reducible exact H | (rw [hy306]; exact H) | exact H); (have Ny306 := aM hy306); clear hy306; (obtain ⟨y307, hy307⟩ : ∃ y_ : List (S53), y_ = (y306.set (x5_1 : Int).toNat (⟨(rd_T53 y306 x5_1).f0, (rd_T53 y306 x5_1).f1, wrap64 ((wrap64 (x1_1 + 1)) + 1), (rd_T53 y306 x5_1).f3⟩ : S53)) := ⟨_, rfl⟩)
     (replace H : (laws_markSentS.l0 k1 (y307.set (x5_1 : Int).toNat (⟨(rd_T53 y307 x5_1).f0, (rd_T53 y307 x5_1).f1, (rd_T53 y307 x5_1).f2, ((Int.tmod (wrap64 ((wrap64 ((wrap64 (x1_1 + 1)) + 1)) + 1)) 3) == 0)⟩ : S53)) (wrap64 ((wrap64 ((wrap64 ((wrap64 (x1_1 + 1)) + 1)) + 1)) + 1)) (wrap64 (x5_1 + 1))) = some (r1, r2) := by first | (rw [hy307]; with_reducible exact H) | (have H2_ := (Option.bind_some _ _).symm.trans H; rw [hy307]; with_reducible exact H2_) | (have H2_ := (Option.bind_some _ _).symm.trans H; with_reducible exact H2_) | with_reducible exact H | (rw [hy307]; exact H) | exact H); (have Ny307 := aM hy307); clear hy307; (obtain ⟨y308, hy308⟩ : ∃ y_ : List (S53), y_ = (y307.set (x5_1 : Int).toNat (⟨(rd_T53 y307 x5_1).f0, (rd_T53 y307 x5_1).f1, (rd_T53 y307 x5_1).f2, ((Int.tmod (wrap64 ((wrap64 ((wrap64 (x1_1 + 1)) + 1)) + 1)) 3) == 0)⟩ : S53)) := ⟨_, rfl⟩); (replace H : (laws_markSentS.l0 k1 y308 (wrap64 ((wrap64 ((wrap64 ((wrap64 (x1_1 + 1)) + 1)) + 1)) + 1)) (wrap64 (x5_1 + 1))) = some (r1, r2) := by first | (rw [hy308]; with_reducible exact H) | (have H2_ := (Option.bind_some _ _).symm.trans H; rw [hy308]; with_reducible exact H2_) | (have H2_ := (Option.bind_some _ _).symm.trans H; with_reducible exact H2_) | with_reducible exact H | (rw [hy308]; exact H) | exact H); (have Ny308 := aM hy308); clear hy308; (have H' := aM H); clear H; (obtain ⟨Ao9, co9, eo9⟩ := Kd.R_slice HO_0.out); subst eo9; (have p5 : 0 ≤ (x5_1 : Int) := od (by assumption))
     (have q5 : (x5_1 : Int) < ((x0_1.length : Int) : Int) := od (by assumption)); (obtain ⟨go5, co5, eo5, gb5, gl5, cl5, HG5⟩ := Kd.R_form HO_0.out (by omega))
     (first | cases eo5 | (injection eo5 with ea_ en_ ec_; (first | subst ea_ | (injection ea_ with ea_; subst ea_)); subst ec_; clear en_))
     (have GB5 := aM gb5); (have GG5 := aM HG5); clear gb5 gl5 HG5; (have HMgo5 := aM (show (P0_ go5 ∨ w.heap.size ≤ go5) from (HO_0.out.1 _ rfl))); (obtain ⟨ce5, hcl5, hM5, hcc5, hfr5⟩ := Kd.R_elem HO_0.out z53 (x5_1 : Int) p5 q5); (obtain rfl := k53_openM hM5); (have hx5_0 : wr.cell? ⟨go5, (x5_1 : Int).toNat * 4, none⟩ = some (.int .i64 ((rd_T53 x0_1 x5_1).f0)) := hcc5 0 _ rfl); (have hx5_1 : wr.cell? ⟨go5, (x5_1 : Int).toNat * 4 + 1, none⟩ = some (.int .i64 ((rd_T53 x0_1 x5_1).f1)) := hcc5 1 _ rfl); (have hx5_2 : wr.cell? ⟨go5, (x5_1 : Int).toNat * 4 + 2, none⟩ = some (.int .i64 ((rd_T53 x0_1 x5_1).f2)) := hcc5 2 _ rfl); (have hx5_3 : wr.cell? ⟨go5, (x5_1 : Int).toNat * 4 + 3, none⟩ = some (.bool ((rd_T53 x0_1 x5_1).f3)) := hcc5 3 _ rfl); (have hf5_0 : wr.frozen? ⟨go5, (x5_1 : Int).toNat * 4, none⟩ = false := hfr5 0); (have hf5_1 : wr.frozen? ⟨go5, (x5_1 : Int).toNat * 4 + 1, none⟩ = false := hfr5 1); (have hf5_2 : wr.frozen? ⟨go5, (x5_1 : Int).toNat * 4 + 2, none⟩ = false := hfr5 2); (have hf5_3 : wr.frozen? ⟨go5, (x5_1 : Int).toNat * 4 + 3, none⟩ = false := hfr5 3); (clear hcl5 hcc5 hfr5;); (replace p5 := eq_true p5); (replace q5 := eq_true q5); (have HX10 := aM (show Kd.R k53 53 wr w0.heap.size (fun k_ => (P0_ k_ ∨ w.heap.size ≤ k_)) (.slice (some ⟨go5, 0, none⟩) x0_1.length co9) x0_1 from HO_0.out))
     (obtain ⟨ce10, hcl10, hM10, hcc10, hfr10⟩ := Kd.R_elem HX10.out z53 (x5_1 : Int) (od (by assumption)) (by have h_ : (x5_1 : Int) < ((x0_1.length : Int) : Int) := od (by assumption); first | exact h_ | (have e_ := (Kd.R_reads' HO_0.out).1; omega) | simpa using h_)); (obtain rfl := k53_openM hM10); (have HP10 := Kd.R_seg HX10.out (x5_1 : Int) (od (by assumption)) (by have h_ : (x5_1 : Int) < ((x0_1.length : Int) : Int) := od (by assumption); first | exact h_ | (have e_ := (Kd.R_reads' HO_0.out).1; omega) | simpa using h_) (seg := [.int .i64 x1_1]) (j := 0) hcl10 hcc10 (show 1 ≤ 4 from by decide) (x' := (⟨x1_1, (rd_T53 x0_1 x5_1).f1, (rd_T53 x0_1 x5_1).f2, (rd_T53 x0_1 x5_1).f3⟩ : S53)) (k53_mkM _ _ _ (⟨x1_1, (rd_T53 x0_1 x5_1).f1, (rd_T53 x0_1 x5_1).f2, (rd_T53 x0_1 x5_1).f3⟩ : S53) ) (fun _ hk => hk)); (have hx10_0 := hcc10 0 _ rfl); ((try simp only [show (k53).sz = 4 from rfl, Nat.mul_one, Nat.add_zero] at hx10_0)); (have hf10_0 := hfr10 0); ((try simp only [show (k53).sz = 4 from rfl, Nat.mul_one, Nat.add_zero] at hf10_0)); (clear hcl10 hcc10 hfr10;)
     go_wp2_with (first | ((with_reducible refine gate_store (t := 3) (p := 16) rfl ?_); refine store_event (t := 3) (p := 16) (v := ?vo_w11) (w1 := (wr.setCell ⟨go5, (x5_1 : Int).toNat * 4, none⟩ (.int .i64 x1_1))) ?hg ?ho ?hn ?hr ?_; (case ho => rfl); (case hg => rfl); (case hn => rfl); (case hr => first | (go_simp; done) | (go_simp; rfl)); intro w11 hw; have hg : wr.grownBy w11 (some go5) := (by rw [hw]; exact HP10.2); have hp_ : Kd.R k53 53 w11 w0.heap.size (fun k_ => (P0_ k_ ∨ w.heap.size ≤ k_)) (.slice (some ⟨go5, 0, none⟩) x0_1.length co9) y305 := (by rw [hw, Ny305.out]; exact HP10.1); clear HP10; have n0_ := aM (hp_); have n1_ := aM ((by rw [hw]; exact zS (HB.out) GB5.out : Below w0.heap.size w0 w11)); have n2_ := aM (Kept.of_grown (S := (fun k_ => P0_ k_)) hg (by repeat (first | (with_reducible first | exact HK.out | apply Kept.alloc | apply Kept.drewN | apply Kept.drew) | exact HK.out)) (fun k_ e_ => (HO_0.out.1 k_ e_))); clear HO_0; clear HB; clear HK; have HO_0 := n0_; have HB := n1_; have HK := n2_; clear n0_ n1_ n2_; clear hg hw hp_; have p6 : 0 ≤ (x5_1 : Int) := od (by assumption); have q6 : (x5_1 : Int) < ((x0_1.length : Int) : Int) := od (by assumption); obtain ⟨ce6, hcl6, hM6, hcc6, hfr6⟩ := Kd.R_elem HO_0.out z53 (x5_1 : Int) p6 q6; obtain rfl := k53_openM hM6; have hx6_0 : w11.cell? ⟨go5, (x5_1 : Int).toNat * 4, none⟩ = some (.int .i64 ((rd_T53 y305 x5_1).f0)) := hcc6 0 _ rfl; have hx6_1 : w11.cell? ⟨go5, (x5_1 : Int).toNat * 4 + 1, none⟩ = some (.int .i64 ((rd_T53 y305 x5_1).f1)) := hcc6 1 _ rfl; have hx6_2 : w11.cell? ⟨go5, (x5_1 : Int).toNat * 4 + 2, none⟩ = some (.int .i64 ((rd_T53 y305 x5_1).f2)) := hcc6 2 _ rfl; have hx6_3 : w11.cell? ⟨go5, (x5_1 : Int).toNat * 4 + 3, none⟩ = some (.bool ((rd_T53 y305 x5_1).f3)) := hcc6 3 _ rfl; have hf6_0 : w11.frozen? ⟨go5, (x5_1 : Int).toNat * 4, none⟩ = false := hfr6 0; have hf6_1 : w11.frozen? ⟨go5, (x5_1 : Int).toNat * 4 + 1, none⟩ = false := hfr6 1; have hf6_2 : w11.frozen? ⟨go5, (x5_1 : Int).toNat * 4 + 2, none⟩ = false := hfr6 2; have hf6_3 : w11.frozen? ⟨go5, (x5_1 : Int).toNat * 4 + 3, none⟩ = false := hfr6 3; clear hcl6 hcc6 hfr6; replace p6 := eq_true p6; replace q6 := eq_true q6; have HX12 := aM (show Kd.R k53 53 w11 w0.heap.size (fun k_ => (P0_ k_ ∨ w.heap.size ≤ k_)) (.slice (some ⟨go5, 0, none⟩) x0_1.length co9) y305 from HO_0.out); obtain ⟨ce12, hcl12, hM12, hcc12, hfr12⟩ := Kd.R_elem HX12.out z53 (x5_1 : Int) (od (by assumption)) (by have h_ : (x5_1 : Int) < ((x0_1.length : Int) : Int) := od (by assumption); first | exact h_ | (have e_ := (Kd.R_reads' HO_0.out).1; omega) | simpa using h_); obtain rfl := k53_openM hM12; have HP12 := Kd.R_seg HX12.out (x5_1 : Int) (od (by assumption)) (by have h_ : (x5_1 : Int) < ((x0_1.length : Int) : Int) := od (by assumption); first | exact h_ | (have e_ := (Kd.R_reads' HO_0.out).1; omega) | simpa using h_) (seg := [.int .i64 (wrap64 (x1_1 + 1))]) (j := 1) hcl12 hcc12 (show 2 ≤ 4 from by decide) (x' := (⟨(rd_T53 y305 x5_1).f0, wrap64 (x1_1 + 1), (rd_T53 y305 x5_1).f2, (rd_T53 y305 x5_1).f3⟩ : S53)) (k53_mkM _ _ _ (⟨(rd_T53 y305 x5_1).f0, wrap64 (x1_1 + 1), (rd_T53 y305 x5_1).f2, (rd_T53 y305 x5_1).f3⟩ : S53) ) (fun _ hk => hk); have hx12_1 := hcc12 1 _ rfl; (try simp only [show (k53).sz = 4 from rfl, Nat.mul_one, Nat.add_zero] at hx12_1); have hf12_1 := hfr12 1; (try simp only [show (k53).sz = 4 from rfl, Nat.mul_one, Nat.add_zero] at hf12_1); clear hcl12 hcc12 hfr12; ) | ((with_reducible refine gate_store (t := 3) (p := 23) rfl ?_); refine store_event (t := 3) (p := 23) (v := ?vo_w13) (w1 := (w11.setCell ⟨go5, (x5_1 : Int).toNat * 4 + 1, none⟩ (.int .i64 (wrap64 (x1_1 + 1))))) ?hg ?ho ?hn ?hr ?_; (case ho => rfl); (case hg => rfl); (case hn => rfl); (case hr => first | (go_simp; done) | (go_simp; rfl)); intro w13 hw; have hg : w11.grownBy w13 (some go5) := (by rw [hw]; exact HP12.2); have hp_ : Kd.R k53 53 w13 w0.heap.size (fun k_ => (P0_ k_ ∨ w.heap.size ≤ k_)) (.slice (some ⟨go5, 0, none⟩) x0_1.length co9) y306 := (by rw [hw, Ny306.out]; exact HP12.1); clear HP12; have n0_ := aM (hp_); have n1_ := aM ((by rw [hw]; exact zS (HB.out) GB5.out : Below w0.heap.size w0 w13)); have n2_ := aM (Kept.of_grown (S := (fun k_ => P0_ k_)) hg (by repeat (first | (with_reducible first | exact HK.out | apply Kept.alloc | apply Kept.drewN | apply Kept.drew) | exact HK.out)) (fun k_ e_ => (HO_0.out.1 k_ e_))); clear HO_0; clear HB; clear HK; have HO_0 := n0_; have HB := n1_; have HK := n2_; clear n0_ n1_ n2_; clear hg hw hp_; have p7 : 0 ≤ (x5_1 : Int) := od (by assumption); have q7 : (x5_1 : Int) < ((x0_1.length : Int) : Int) := od (by assumption); obtain ⟨ce7, hcl7, hM7, hcc7, hfr7⟩ := Kd.R_elem HO_0.out z53 (x5_1 : Int) p7 q7; obtain rfl := k53_openM hM7; have hx7_0 : w13.cell? ⟨go5, (x5_1 : Int).toNat * 4, none⟩ = some (.int .i64 ((rd_T53 y306 x5_1).f0)) := hcc7 0 _ rfl; have hx7_1 : w13.cell? ⟨go5, (x5_1 : Int).toNat * 4 + 1, none⟩ = some (.int .i64 ((rd_T53 y306 x5_1).f1)) := hcc7 1 _ rfl; have hx7_2 : w13.cell? ⟨go5, (x5_1 : Int).toNat * 4 + 2, none⟩ = some (.int .i64 ((rd_T53 y306 x5_1).f2)) := hcc7 2 _ rfl; have hx7_3 : w13.cell? ⟨go5, (x5_1 : Int).toNat * 4 + 3, none⟩ = some (.bool ((rd_T53 y306 x5_1).f3)) := hcc7 3 _ rfl; have hf7_0 : w13.frozen? ⟨go5, (x5_1 : Int).toNat * 4, none⟩ = false := hfr7 0; have hf7_1 : w13.frozen? ⟨go5, (x5_1 : Int).toNat * 4 + 1, none⟩ = false := hfr7 1; have hf7_2 : w13.frozen? ⟨go5, (x5_1 : Int).toNat * 4 + 2, none⟩ = false := hfr7 2; have hf7_3 : w13.frozen? ⟨go5, (x5_1 : Int).toNat * 4 + 3, none⟩ = false := hfr7 3; clear hcl7 hcc7 hfr7; replace p7 := eq_true p7; replace q7 := eq_true q7; have HX14 := aM (show Kd.R k53 53 w13 w0.heap.size (fun k_ => (P0_ k_ ∨ w.heap.size ≤ k_)) (.slice (some ⟨go5, 0, none⟩) x0_1.length co9) y306 from HO_0.out); obtain ⟨ce14, hcl14, hM14, hcc14, hfr14⟩ := Kd.R_elem HX14.out z53 (x5_1 : Int) (od (by assumption)) (by have h_ : (x5_1 : Int) < ((x0_1.length : Int) : Int) := od (by assumption); first | exact h_ | (have e_ := (Kd.R_reads' HO_0.out).1; omega) | simpa using h_); obtain rfl := k53_openM hM14; have HP14 := Kd.R_seg HX14.out (x5_1 : Int) (od (by assumption)) (by have h_ : (x5_1 : Int) < ((x0_1.length : Int) : Int) := od (by assumption); first | exact h_ | (have e_ := (Kd.R_reads' HO_0.out).1; omega) | simpa using h_) (seg := [.int .i64 (wrap64 ((wrap64 (x1_1 + 1)) + 1))]) (j := 2) hcl14 hcc14 (show 3 ≤ 4 from by decide) (x' := (⟨(rd_T53 y306 x5_1).f0, (rd_T53 y306 x5_1).f1, wrap64 ((wrap64 (x1_1 + 1)) + 1), (rd_T53 y306 x5_1).f3⟩ : S53)) (k53_mkM _ _ _ (⟨(rd_T53 y306 x5_1).f0, (rd_T53 y306 x5_1).f1, wrap64 ((wrap64 (x1_1 + 1)) + 1), (rd_T53 y306 x5_1).f3⟩ : S53) ) (fun _ hk => hk); have hx14_2 := hcc14 2 _ rfl; (try simp only [show (k53).sz = 4 from rfl, Nat.mul_one, Nat.add_zero] at hx14_2); have hf14_2 := hfr14 2; (try simp only [show (k53).sz = 4 from rfl, Nat.mul_one, Nat.add_zero] at hf14_2); clear hcl14 hcc14 hfr14; ) | ((with_reducible refine gate_store (t := 3) (p := 30) rfl ?_); refine store_event (t := 3) (p := 30) (v := ?vo_w15) (w1 := (w13.setCell ⟨go5, (x5_1 : Int).toNat * 4 + 2, none⟩ (.int .i64 (wrap64 ((wrap64 (x1_1 + 1)) + 1))))) ?hg ?ho ?hn ?hr ?_; (case ho => rfl); (case hg => rfl); (case hn => rfl); (case hr => first | (go_simp; done) | (go_simp; rfl)); intro w15 hw; have hg : w13.grownBy w15 (some go5) := (by rw [hw]; exact HP14.2); have hp_ : Kd.R k53 53 w15 w0.heap.size (fun k_ => (P0_ k_ ∨ w.heap.size ≤ k_)) (.slice (some ⟨go5, 0, none⟩) x0_1.length co9) y307 := (by rw [hw, Ny307.out]; exact HP14.1); clear HP14; have n0_ := aM (hp_); have n1_ := aM ((by rw [hw]; exact zS (HB.out) GB5.out : Below w0.heap.size w0 w15)); have n2_ := aM (Kept.of_grown (S := (fun k_ => P0_ k_)) hg (by repeat (first | (with_reducible first | exact HK.out | apply Kept.alloc | apply Kept.drewN | apply Kept.drew) | exact HK.out)) (fun k_ e_ => (HO_0.out.1 k_ e_))); clear HO_0; clear HB; clear HK; have HO_0 := n0_; have HB := n1_; have HK := n2_; clear n0_ n1_ n2_; clear hg hw hp_; have p8 : 0 ≤ (x5_1 : Int) := od (by assumption); have q8 : (x5_1 : Int) < ((x0_1.length : Int) : Int) := od (by assumption); obtain ⟨ce8, hcl8, hM8, hcc8, hfr8⟩ := Kd.R_elem HO_0.out z53 (x5_1 : Int) p8 q8; obtain rfl := k53_openM hM8; have hx8_0 : w15.cell? ⟨go5, (x5_1 : Int).toNat * 4, none⟩ = some (.int .i64 ((rd_T53 y307 x5_1).f0)) := hcc8 0 _ rfl; have hx8_1 : w15.cell? ⟨go5, (x5_1 : Int).toNat * 4 + 1, none⟩ = some (.int .i64 ((rd_T53 y307 x5_1).f1)) := hcc8 1 _ rfl; have hx8_2 : w15.cell? ⟨go5, (x5_1 : Int).toNat * 4 + 2, none⟩ = some (.int .i64 ((rd_T53 y307 x5_1).f2)) := hcc8 2 _ rfl; have hx8_3 : w15.cell? ⟨go5, (x5_1 : Int).toNat * 4 + 3, none⟩ = some (.bool ((rd_T53 y307 x5_1).f3)) := hcc8 3 _ rfl; have hf8_0 : w15.frozen? ⟨go5, (x5_1 : Int).toNat * 4, none⟩ = false := hfr8 0; have hf8_1 : w15.frozen? ⟨go5, (x5_1 : Int).toNat * 4 + 1, none⟩ = false := hfr8 1; have hf8_2 : w15.frozen? ⟨go5, (x5_1 : Int).toNat * 4 + 2, none⟩ = false := hfr8 2; have hf8_3 : w15.frozen? ⟨go5, (x5_1 : Int).toNat * 4 + 3, none⟩ = false := hfr8 3; clear hcl8 hcc8 hfr8; replace p8 := eq_true p8; replace q8 := eq_true q8; have HX16 := aM (show Kd.R k53 53 w15 w0.heap.size (fun k_ => (P0_ k_ ∨ w.heap.size ≤ k_)) (.slice (some ⟨go5, 0, none⟩) x0_1.length co9) y307 from HO_0.out); obtain ⟨ce16, hcl16, hM16, hcc16, hfr16⟩ := Kd.R_elem HX16.out z53 (x5_1 : Int) (od (by assumption)) (by have h_ : (x5_1 : Int) < ((x0_1.length : Int) : Int) := od (by assumption); first | exact h_ | (have e_ := (Kd.R_reads' HO_0.out).1; omega) | simpa using h_); obtain rfl := k53_openM hM16; have HP16 := Kd.R_seg HX16.out (x5_1 : Int) (od (by assumption)) (by have h_ : (x5_1 : Int) < ((x0_1.length : Int) : Int) := od (by assumption); first | exact h_ | (have e_ := (Kd.R_reads' HO_0.out).1; omega) | simpa using h_) (seg := [.bool ((Int.tmod (wrap64 ((wrap64 ((wrap64 (x1_1 + 1)) + 1)) + 1)) 3) == 0)]) (j := 3) hcl16 hcc16 (show 4 ≤ 4 from by decide) (x' := (⟨(rd_T53 y307 x5_1).f0, (rd_T53 y307 x5_1).f1, (rd_T53 y307 x5_1).f2, ((Int.tmod (wrap64 ((wrap64 ((wrap64 (x1_1 + 1)) + 1)) + 1)) 3) == 0)⟩ : S53)) (k53_mkM _ _ _ (⟨(rd_T53 y307 x5_1).f0, (rd_T53 y307 x5_1).f1, (rd_T53 y307 x5_1).f2, ((Int.tmod (wrap64 ((wrap64 ((wrap64 (x1_1 + 1)) + 1)) + 1)) 3) == 0)⟩ : S53) ) (fun _ hk => hk); have hx16_3 := hcc16 3 _ rfl; (try simp only [show (k53).sz = 4 from rfl, Nat.mul_one, Nat.add_zero] at hx16_3); have hf16_3 := hfr16 3; (try simp only [show (k53).sz = 4 from rfl, Nat.mul_one, Nat.add_zero] at hf16_3); clear hcl16 hcc16 hfr16; ) | ((with_reducible refine gate_store (t := 4) (p := 39) rfl ?_); refine store_event (t := 4) (p := 39) (v := ?vo_w17) (w1 := (w15.setCell ⟨go5, (x5_1 : Int).toNat * 4 + 3, none⟩ (.bool ((Int.tmod (wrap64 ((wrap64 ((wrap64 (x1_1 + 1)) + 1)) + 1)) 3) == 0)))) ?hg ?ho ?hn ?hr ?_; (case ho => rfl); (case hg => rfl); (case hn => rfl); (case hr => first | (go_simp; done) | (go_simp; rfl)); intro w17 hw; have hg : w15.grownBy w17 (some go5) := (by rw [hw]; exact HP16.2); have hp_ : Kd.R k53 53 w17 w0.heap.size (fun k_ => (P0_ k_ ∨ w.heap.size ≤ k_)) (.slice (some ⟨go5, 0, none⟩) x0_1.length co9) y308 := (by rw [hw, Ny308.out]; exact HP16.1); clear HP16; have n0_ := aM (hp_); have n1_ := aM ((by rw [hw]; exact zS (HB.out) GB5.out : Below w0.heap.size w0 w17)); have n2_ := aM (Kept.of_grown (S := (fun k_ => P0_ k_)) hg (by repeat (first | (with_reducible first | exact HK.out | apply Kept.alloc | apply Kept.drewN | apply Kept.drew) | exact HK.out)) (fun k_ e_ => (HO_0.out.1 k_ e_))); clear HO_0; clear HB; clear HK; have HO_0 := n0_; have HB := n1_; have HK := n2_; clear n0_ n1_ n2_; clear hg hw hp_))
     go_roundg k1
     case measure => have := HK1.out; omega
     case rel => exact ⟨(y308), (wrap64 ((wrap64 ((wrap64 ((wrap64 (x1_1 + 1)) + 1)) + 1)) + 1)), (wrap64 (x5_1 + 1)), (by first | rfl | simp | simp [*]), (by first | rfl | simp | simp [*]), H', ⟨by have := HK1.out; omega⟩, ⟨by exact HO_0.out⟩, ⟨by repeat (first | (with_reducible first | exact HK.out | apply Kept.alloc | apply Kept.drewN | apply Kept.drew) | exact HK.out)⟩, ⟨by repeat (with_reducible first | exact HB.out | apply zA | apply zN | apply zD)⟩⟩
   · rw [if_neg c3] at H
     (have c3b0 := decide_eq_false c3); clear c3; (simp only [Option.some.injEq, Prod.mk.injEq] at H); (obtain ⟨rfl, rfl⟩ := H); (obtain ⟨Ao18, co18, eo18⟩ := Kd.R_slice HO_0.out); subst eo18
     go_wp2
     go_ret
     exact ⟨by first | rfl | (simp [errW_none, errW_some] <;> rfl) | (simp [*, errW_none, errW_some] <;> rfl), by exact HO_0.out, by repeat (with_reducible first | exact HB.out | apply zA | apply zN | apply zD), by repeat (first | (with_reducible first | exact HK.out | apply Kept.alloc | apply Kept.drewN | apply Kept.drew) | exact HK.out)⟩

/-! ### laws_heldSentS: function 15 -/
def laws_heldSentS.l0 : Nat → List (S53) → Int → Int → Option (Int)
 | 0, _, _, _ => none
 | k + 1, x0, x1, x5 => if x5 < (x0.length : Int) then (if 0 ≤ x5 then (if ((rd_T53 x0 x5).f0) = x1 then (if ((rd_T53 x0 x5).f1) = (wrap64 (x1 + 1)) then (if ((rd_T53 x0 x5).f2) = (wrap64 ((wrap64 (x1 + 1)) + 1)) then (if (((rd_T53 x0 x5).f3) != ((Int.tmod (wrap64 ((wrap64 ((wrap64 (x1 + 1)) + 1)) + 1)) 3) == 0)) = true then (some (-1)) else (laws_heldSentS.l0 k x0 (wrap64 ((wrap64 ((wrap64 ((wrap64 (x1 + 1)) + 1)) + 1)) + 1)) (wrap64 (x5 + 1)))) else (some (-1))) else (some (-1))) else (some (-1))) else (none)) else (some x1)
def laws_heldSentS.f (k : Nat) (l0 : List (S53)) (a1 : Int) : Option (Int) := laws_heldSentS.l0 k l0 a1 0
set_option maxHeartbeats 8000000 in
set_option maxRecDepth 100000 in
theorem laws_heldSentS.calls (k : Nat) (A0 : Option Addr) (c0 : Nat) (l0 : List (S53)) (a1 : Int) (r : Int) (w : World) (hr0 : Kd.C k53 w A0 l0.length l0) (hc0 : l0.length ≤ c0) (h : laws_heldSentS.f k l0 a1 = some r) :
 Calls Try.prog 15 #[.slice A0 l0.length c0, .int .i64 a1] w fun e w' => e = .returned (.int .i64 r) ∧ Drawn0 w w' := by
 have HR0 := aM hr0
 have HC0 := aM hc0
 clear hr0 hc0
 have H : (laws_heldSentS.l0 k l0 a1 0) = some r := h
 clear h
 have H' := aM H
 clear H
 go_enter Try.func15, Try.ntmps15
 go_wp2
 go_loopg [1, 5] k (fun kq v1 v5 w' => ∃ (x1_1 : Int) (x5_1 : Int), v1 = .int .i64 x1_1 ∧ v5 = .int .i64 x5_1 ∧ Aside0 (laws_heldSentS.l0 kq l0 x1_1 x5_1 = some r) ∧ Aside0 (kq ≤ k) ∧ Drawn0 w w')
 case atStart => exact ⟨(a1), (0), (by first | rfl | simp | simp [*]), (by first | rfl | simp | simp [*]), H', ⟨Nat.le_refl _⟩, by repeat (first | exact Drawn0.refl _ | apply Drawn0.step)⟩
 case round =>
  clear H'; (obtain ⟨x1_1, x5_1, rfl, rfl, HA, HK1, ⟨m1, rfl⟩⟩ := hrel)
  cases gk with
  | zero => exact absurd HA.out (by simp [laws_heldSentS.l0])
  | succ k1 =>
   have H := HA.out; clear HA; (simp only [laws_heldSentS.l0] at H)
   by_cases c3 : x5_1 < (l0.length : Int)
   · rw [if_pos c3] at H
     (have c3b0 := decide_eq_true c3); clear c3; (obtain ⟨c4, H⟩ := of_ite_none11 H); (have c4b0 := decide_eq_true c4); clear c4
     by_cases c5 : ((rd_T53 l0 x5_1).f0) = x1_1
     · rw [if_pos c5] at H
       (have c5b0 : (((rd_T53 l0 x5_1).f0) == x1_1) = true := beq_iff_eq.mpr c5); (have c5b1 : (((rd_T53 l0 x5_1).f0) != x1_1) = false := bne_eq_false_iff_eq.mpr c5); clear c5
       by_cases c6 : ((rd_T53 l0 x5_1).f1) = (wrap64 (x1_1 + 1))
       · rw [if_pos c6] at H
         (have c6b0 : (((rd_T53 l0 x5_1).f1) == (wrap64 (x1_1 + 1))) = true := beq_iff_eq.mpr c6); (have c6b1 : (((rd_T53 l0 x5_1).f1) != (wrap64 (x1_1 + 1))) = false := bne_eq_false_iff_eq.mpr c6); clear c6
         by_cases c7 : ((rd_T53 l0 x5_1).f2) = (wrap64 ((wrap64 (x1_1 + 1)) + 1))
         · rw [if_pos c7] at H
           (have c7b0 : (((rd_T53 l0 x5_1).f2) == (wrap64 ((wrap64 (x1_1 + 1)) + 1))) = true := beq_iff_eq.mpr c7); (have c7b1 : (((rd_T53 l0 x5_1).f2) != (wrap64 ((wrap64 (x1_1 + 1)) + 1))) = false := bne_eq_false_iff_eq.mpr c7); clear c7
           by_cases c8 : (((rd_T53 l0 x5_1).f3) != ((Int.tmod (wrap64 ((wrap64 ((wrap64 (x1_1 + 1)) + 1)) + 1)) 3) == 0)) = true
           · rw [if_pos c8] at H
             (have c8b0 : (((rd_T53 l0 x5_1).f3) != ((Int.tmod (wrap64 ((wrap64 ((wrap64 (x1_1 + 1)) + 1)) + 1)) 3) == 0)) = true := c8); ((try (have c8b1 : decide (((rd_T53 l0 x5_1).f3) = ((Int.tmod (wrap64 ((wrap64 ((wrap64 (x1_1 + 1)) + 1)) + 1)) 3) == 0)) = false := by simpa using c8))); ((try (have c8b2 : (((rd_T53 l0 x5_1).f3) == ((Int.tmod (wrap64 ((wrap64 ((wrap64 (x1_1 + 1)) + 1)) + 1)) 3) == 0)) = false := by simpa using c8))); ((try (have c8b3 : ¬ (((rd_T53 l0 x5_1).f3) = ((Int.tmod (wrap64 ((wrap64 ((wrap64 (x1_1 + 1)) + 1)) + 1)) 3) == 0)) := by simpa using c8))); clear c8; (obtain rfl := Option.some.inj H); (have p309 : 0 ≤ (x5_1 : Int) := od (by assumption)); (have q309 : x5_1 < (l0.length : Int) := od (by assumption)); (obtain ⟨ad309, e309, hx309_0, hx309_1, hx309_2, hx309_3⟩ := at_T53 HR0.out x5_1 p309 q309)
             cases e309
             (replace p309 := eq_true p309); (replace q309 := eq_true q309); (have p310 : 0 ≤ (x5_1 : Int) := od (by assumption)); (have q310 : x5_1 < (l0.length : Int) := od (by assumption)); (obtain ⟨ad310, e310, hx310_0, hx310_1, hx310_2, hx310_3⟩ := at_T53 HR0.out x5_1 p310 q310); (obtain rfl : ad309 = ad310 := (by injection e310)); (replace p310 := eq_true p310); (replace q310 := eq_true q310); (have p311 : 0 ≤ (x5_1 : Int) := od (by assumption)); (have q311 : x5_1 < (l0.length : Int) := od (by assumption)); (obtain ⟨ad311, e311, hx311_0, hx311_1, hx311_2, hx311_3⟩ := at_T53 HR0.out x5_1 p311 q311); (obtain rfl : ad309 = ad311 := (by injection e311)); (replace p311 := eq_true p311); (replace q311 := eq_true q311); (have p312 : 0 ≤ (x5_1 : Int) := od (by assumption)); (have q312 : x5_1 < (l0.length : Int) := od (by assumption)); (obtain ⟨ad312, e312, hx312_0, hx312_1, hx312_2, hx312_3⟩ := at_T53 HR0.out x5_1 p312 q312); (obtain rfl : ad309 = ad312 := (by injection e312)); (replace p312 := eq_true p312); (replace q312 := eq_true q312)
             go_wp2
             go_ret
             exact ⟨by first | rfl | (simp; done) | (simp [*]; done), by repeat (first | exact Drawn0.refl _ | apply Drawn0.step)⟩
           · rw [if_neg c8] at H
             (have c8b0 : (((rd_T53 l0 x5_1).f3) != ((Int.tmod (wrap64 ((wrap64 ((wrap64 (x1_1 + 1)) + 1)) + 1)) 3) == 0)) = false := by simpa using c8); ((try (have c8b1 : decide (((rd_T53 l0 x5_1).f3) = ((Int.tmod (wrap64 ((wrap64 ((wrap64 (x1_1 + 1)) + 1)) + 1)) 3) == 0)) = true := by simpa using c8))); ((try (have c8b2 : (((rd_T53 l0 x5_1).f3) == ((Int.tmod (wrap64 ((wrap64 ((wrap64 (x1_1 + 1)) + 1)) + 1)) 3) == 0)) = true := by simpa using c8))); clear c8; (have H' := aM H); clear H; (have p309 : 0 ≤ (x5_1 : Int) := od (by assumption)); (have q309 : x5_1 < (l0.length : Int) := od (by assumption)); (obtain ⟨ad309, e309, hx309_0, hx309_1, hx309_2, hx309_3⟩ := at_T53 HR0.out x5_1 p309 q309)
             cases e309
             (replace p309 := eq_true p309); (replace q309 := eq_true q309); (have p310 : 0 ≤ (x5_1 : Int) := od (by assumption)); (have q310 : x5_1 < (l0.length : Int) := od (by assumption)); (obtain ⟨ad310, e310, hx310_0, hx310_1, hx310_2, hx310_3⟩ := at_T53 HR0.out x5_1 p310 q310); (obtain rfl : ad309 = ad310 := (by injection e310)); (replace p310 := eq_true p310); (replace q310 := eq_true q310); (have p311 : 0 ≤ (x5_1 : Int) := od (by assumption)); (have q311 : x5_1 < (l0.length : Int) := od (by assumption)); (obtain ⟨ad311, e311, hx311_0, hx311_1, hx311_2, hx311_3⟩ := at_T53 HR0.out x5_1 p311 q311); (obtain rfl : ad309 = ad311 := (by injection e311)); (replace p311 := eq_true p311); (replace q311 := eq_true q311); (have p312 : 0 ≤ (x5_1 : Int) := od (by assumption)); (have q312 : x5_1 < (l0.length : Int) := od (by assumption)); (obtain ⟨ad312, e312, hx312_0, hx312_1, hx312_2, hx312_3⟩ := at_T53 HR0.out x5_1 p312 q312); (obtain rfl : ad309 = ad312 := (by injection e312)); (replace p312 := eq_true p312); (replace q312 := eq_true q312)
             go_wp2
             go_roundg k1
             case measure => have := HK1.out; omega
             case rel => exact ⟨(wrap64 ((wrap64 ((wrap64 ((wrap64 (x1_1 + 1)) + 1)) + 1)) + 1)), (wrap64 (x5_1 + 1)), (by first | rfl | simp | simp [*]), (by first | rfl | simp | simp [*]), H', ⟨by have := HK1.out; omega⟩, by repeat (first | exact Drawn0.refl _ | apply Drawn0.step)⟩
         · rw [if_neg c7] at H
           (have c7b0 : (((rd_T53 l0 x5_1).f2) == (wrap64 ((wrap64 (x1_1 + 1)) + 1))) = false := beq_eq_false_iff_ne.mpr c7); (have c7b1 : (((rd_T53 l0 x5_1).f2) != (wrap64 ((wrap64 (x1_1 + 1)) + 1))) = true := bne_iff_ne.mpr c7); (obtain rfl := Option.some.inj H); (have p309 : 0 ≤ (x5_1 : Int) := od (by assumption)); (have q309 : x5_1 < (l0.length : Int) := od (by assumption)); (obtain ⟨ad309, e309, hx309_0, hx309_1, hx309_2, hx309_3⟩ := at_T53 HR0.out x5_1 p309 q309)
           cases e309
           (replace p309 := eq_true p309); (replace q309 := eq_true q309); (have p310 : 0 ≤ (x5_1 : Int) := od (by assumption)); (have q310 : x5_1 < (l0.length : Int) := od (by assumption)); (obtain ⟨ad310, e310, hx310_0, hx310_1, hx310_2, hx310_3⟩ := at_T53 HR0.out x5_1 p310 q310); (obtain rfl : ad309 = ad310 := (by injection e310)); (replace p310 := eq_true p310); (replace q310 := eq_true q310); (have p311 : 0 ≤ (x5_1 : Int) := od (by assumption)); (have q311 : x5_1 < (l0.length : Int) := od (by assumption)); (obtain ⟨ad311, e311, hx311_0, hx311_1, hx311_2, hx311_3⟩ := at_T53 HR0.out x5_1 p311 q311); (obtain rfl : ad309 = ad311 := (by injection e311)); (replace p311 := eq_true p311); (replace q311 := eq_true q311)
           go_wp2
           go_ret
           exact ⟨by first | rfl | (simp; done) | (simp [*]; done), by repeat (first | exact Drawn0.refl _ | apply Drawn0.step)⟩
       · rw [if_neg c6] at H
         (have c6b0 : (((rd_T53 l0 x5_1).f1) == (wrap64 (x1_1 + 1))) = false := beq_eq_false_iff_ne.mpr c6); (have c6b1 : (((rd_T53 l0 x5_1).f1) != (wrap64 (x1_1 + 1))) = true := bne_iff_ne.mpr c6); (obtain rfl := Option.some.inj H); (have p309 : 0 ≤ (x5_1 : Int) := od (by assumption)); (have q309 : x5_1 < (l0.length : Int) := od (by assumption)); (obtain ⟨ad309, e309, hx309_0, hx309_1, hx309_2, hx309_3⟩ := at_T53 HR0.out x5_1 p309 q309)
         cases e309
         (replace p309 := eq_true p309); (replace q309 := eq_true q309); (have p310 : 0 ≤ (x5_1 : Int) := od (by assumption)); (have q310 : x5_1 < (l0.length : Int) := od (by assumption)); (obtain ⟨ad310, e310, hx310_0, hx310_1, hx310_2, hx310_3⟩ := at_T53 HR0.out x5_1 p310 q310); (obtain rfl : ad309 = ad310 := (by injection e310)); (replace p310 := eq_true p310); (replace q310 := eq_true q310)
         go_wp2
         go_ret
         exact ⟨by first | rfl | (simp; done) | (simp [*]; done), by repeat (first | exact Drawn0.refl _ | apply Drawn0.step)⟩
     · rw [if_neg c5] at H
       (have c5b0 : (((rd_T53 l0 x5_1).f0) == x1_1) = false := beq_eq_false_iff_ne.mpr c5); (have c5b1 : (((rd_T53 l0 x5_1).f0) != x1_1) = true := bne_iff_ne.mpr c5); (obtain rfl := Option.some.inj H); (have p309 : 0 ≤ (x5_1 : Int) := od (by assumption)); (have q309 : x5_1 < (l0.length : Int) := od (by assumption)); (obtain ⟨ad309, e309, hx309_0, hx309_1, hx309_2, hx309_3⟩ := at_T53 HR0.out x5_1 p309 q309)
       cases e309
       (replace p309 := eq_true p309); (replace q309 := eq_true q309)
       go_wp2
       go_ret
       exact ⟨by first | rfl | (simp; done) | (simp [*]; done), by repeat (first | exact Drawn0.refl _ | apply Drawn0.step)⟩
   · rw [if_neg c3] at H
     (have c3b0 := decide_eq_false c3); clear c3; (obtain rfl := Option.some.inj H)
     go_wp2
     go_ret
     exact ⟨by first | rfl | (simp; done) | (simp [*]; done), by repeat (first | exact Drawn0.refl _ | apply Drawn0.step)⟩

/-! ### laws_heldByteS: function 39 -/
def laws_heldByteS.l0 : Nat → List Int → Int → Int → Option (Int)
 | 0, _, _, _ => none
 | k + 1, x0, x1, x5 => if x5 < (x0.length : Int) then (if 0 ≤ x5 then (if (rd x0 x5) = ((x1) % 256) then (laws_heldByteS.l0 k x0 (wrap64 (x1 + 1)) (wrap64 (x5 + 1))) else (some (-1))) else (none)) else (some x1)
def laws_heldByteS.f (k : Nat) (l0 : List Int) (a1 : Int) : Option (Int) := laws_heldByteS.l0 k l0 a1 0
set_option maxHeartbeats 8000000 in
set_option maxRecDepth 100000 in
theorem laws_heldByteS.calls (k : Nat) (A0 : Option Addr) (c0 : Nat) (l0 : List Int) (a1 : Int) (r : Int) (w : World) (hr0 : Kd.C (Kd.int .u8) w A0 l0.length l0) (hc0 : l0.length ≤ c0) (h : laws_heldByteS.f k l0 a1 = some r) :
 Calls Try.prog 39 #[.slice A0 l0.length c0, .int .i64 a1] w fun e w' => e = .returned (.int .i64 r) ∧ Drawn0 w w' := by
 have HR0 := aM hr0
 have HC0 := aM hc0
 clear hr0 hc0
 have H : (laws_heldByteS.l0 k l0 a1 0) = some r := h
 clear h
 have H' := aM H
 clear H
 go_enter Try.func39, Try.ntmps39
 go_wp2
 go_loopg [1, 5] k (fun kq v1 v5 w' => ∃ (x1_1 : Int) (x5_1 : Int), v1 = .int .i64 x1_1 ∧ v5 = .int .i64 x5_1 ∧ Aside0 (laws_heldByteS.l0 kq l0 x1_1 x5_1 = some r) ∧ Aside0 (kq ≤ k) ∧ Drawn0 w w')
 case atStart => exact ⟨(a1), (0), (by first | rfl | simp | simp [*]), (by first | rfl | simp | simp [*]), H', ⟨Nat.le_refl _⟩, by repeat (first | exact Drawn0.refl _ | apply Drawn0.step)⟩
 case round =>
  clear H'; (obtain ⟨x1_1, x5_1, rfl, rfl, HA, HK1, ⟨m1, rfl⟩⟩ := hrel)
  cases gk with
  | zero => exact absurd HA.out (by simp [laws_heldByteS.l0])
  | succ k1 =>
   have H := HA.out; clear HA; (simp only [laws_heldByteS.l0] at H)
   by_cases c3 : x5_1 < (l0.length : Int)
   · rw [if_pos c3] at H
     (have c3b0 := decide_eq_true c3); clear c3; (obtain ⟨c4, H⟩ := of_ite_none11 H); (have c4b0 := decide_eq_true c4); clear c4
     by_cases c5 : (rd l0 x5_1) = ((x1_1) % 256)
     · rw [if_pos c5] at H
       (have c5b0 : ((rd l0 x5_1) == ((x1_1) % 256)) = true := beq_iff_eq.mpr c5); (have c5b1 : ((rd l0 x5_1) != ((x1_1) % 256)) = false := bne_eq_false_iff_eq.mpr c5); clear c5; (have H' := aM H); clear H; (have p313 : 0 ≤ (x5_1 : Int) := od (by assumption)); (have q313 : x5_1 < (l0.length : Int) := od (by assumption)); (obtain ⟨ad313, e313, hx313_0⟩ := Kd.at_int HR0.out x5_1 p313 q313)
       cases e313
       (replace p313 := eq_true p313); (replace q313 := eq_true q313)
       go_wp2
       go_roundg k1
       case measure => have := HK1.out; omega
       case rel => exact ⟨(wrap64 (x1_1 + 1)), (wrap64 (x5_1 + 1)), (by first | rfl | simp | simp [*]), (by first | rfl | simp | simp [*]), H', ⟨by have := HK1.out; omega⟩, by repeat (first | exact Drawn0.refl _ | apply Drawn0.step)⟩
     · rw [if_neg c5] at H
       (have c5b0 : ((rd l0 x5_1) == ((x1_1) % 256)) = false := beq_eq_false_iff_ne.mpr c5); (have c5b1 : ((rd l0 x5_1) != ((x1_1) % 256)) = true := bne_iff_ne.mpr c5); (obtain rfl := Option.some.inj H); (have p313 : 0 ≤ (x5_1 : Int) := od (by assumption)); (have q313 : x5_1 < (l0.length : Int) := od (by assumption)); (obtain ⟨ad313, e313, hx313_0⟩ := Kd.at_int HR0.out x5_1 p313 q313)
       cases e313
       (replace p313 := eq_true p313); (replace q313 := eq_true q313)
       go_wp2
       go_ret
       exact ⟨by first | rfl | (simp; done) | (simp [*]; done), by repeat (first | exact Drawn0.refl _ | apply Drawn0.step)⟩
   · rw [if_neg c3] at H
     (have c3b0 := decide_eq_false c3); clear c3; (obtain rfl := Option.some.inj H)
     go_wp2
     go_ret
     exact ⟨by first | rfl | (simp; done) | (simp [*]; done), by repeat (first | exact Drawn0.refl _ | apply Drawn0.step)⟩

/-! ### laws_heldFrameS: function 31 -/
def laws_heldFrameS.l0 : Nat → List (S49) → Int → Int → Option (Int)
 | 0, _, _, _ => none
 | k + 1, x0, x1, x5 => if x5 < (x0.length : Int) then (if 0 ≤ x5 then (if ((rd_T49 x0 x5).f0) = x1 then ((laws_heldByteS.f k ((rd_T49 x0 x5).f1) (wrap64 (x1 + 1))).bind fun t316 => (if t316 < 0 then (some (-1)) else (laws_heldFrameS.l0 k x0 t316 (wrap64 (x5 + 1))))) else (some (-1))) else (none)) else (some x1)
def laws_heldFrameS.f (k : Nat) (l0 : List (S49)) (a1 : Int) : Option (Int) := laws_heldFrameS.l0 k l0 a1 0
set_option maxHeartbeats 8000000 in
set_option maxRecDepth 100000 in
theorem laws_heldFrameS.calls (k : Nat) (A0 : Option Addr) (c0 : Nat) (l0 : List (S49)) (a1 : Int) (r : Int) (w : World) (hr0 : Kd.C k49 w A0 l0.length l0) (hc0 : l0.length ≤ c0) (h : laws_heldFrameS.f k l0 a1 = some r) :
 Calls Try.prog 31 #[.slice A0 l0.length c0, .int .i64 a1] w fun e w' => e = .returned (.int .i64 r) ∧ Drawn0 w w' := by
 have HR0 := aM hr0
 have HC0 := aM hc0
 clear hr0 hc0
 have H : (laws_heldFrameS.l0 k l0 a1 0) = some r := h
 clear h
 have H' := aM H
 clear H
 go_enter Try.func31, Try.ntmps31
 go_wp2
 go_loopg [1, 5] k (fun kq v1 v5 w' => ∃ (x1_1 : Int) (x5_1 : Int), v1 = .int .i64 x1_1 ∧ v5 = .int .i64 x5_1 ∧ Aside0 (laws_heldFrameS.l0 kq l0 x1_1 x5_1 = some r) ∧ Aside0 (kq ≤ k) ∧ Drawn0 w w')
 case atStart => exact ⟨(a1), (0), (by first | rfl | simp | simp [*]), (by first | rfl | simp | simp [*]), H', ⟨Nat.le_refl _⟩, by repeat (first | exact Drawn0.refl _ | apply Drawn0.step)⟩
 case round =>
  clear H'; (obtain ⟨x1_1, x5_1, rfl, rfl, HA, HK1, ⟨m1, rfl⟩⟩ := hrel)
  cases gk with
  | zero => exact absurd HA.out (by simp [laws_heldFrameS.l0])
  | succ k1 =>
   have H := HA.out; clear HA; (simp only [laws_heldFrameS.l0] at H)
   by_cases c3 : x5_1 < (l0.length : Int)
   · rw [if_pos c3] at H
     (have c3b0 := decide_eq_true c3); clear c3; (obtain ⟨c4, H⟩ := of_ite_none11 H); (have c4b0 := decide_eq_true c4); clear c4
     by_cases c5 : ((rd_T49 l0 x5_1).f0) = x1_1
     · rw [if_pos c5] at H
       (have c5b0 : (((rd_T49 l0 x5_1).f0) == x1_1) = true := beq_iff_eq.mpr c5); (have c5b1 : (((rd_T49 l0 x5_1).f0) != x1_1) = false := bne_eq_false_iff_eq.mpr c5); clear c5; (replace H := Option.bind_eq_some_iff.mp H); (obtain ⟨t316, A60, H⟩ := H); (replace H : (if t316 < 0 then (some (-1)) else (laws_heldFrameS.l0 k1 l0 t316 (wrap64 (x5_1 + 1)))) = some r := H); (have A6 := aM A60); clear A60
       by_cases c7 : t316 < 0
       · rw [if_pos c7] at H
         (have c7b0 := decide_eq_true c7); clear c7; (obtain rfl := Option.some.inj H); (have p314 : 0 ≤ (x5_1 : Int) := od (by assumption)); (have q314 : x5_1 < (l0.length : Int) := od (by assumption)); (obtain ⟨ad314, A314_1, c314_1, e314, hx314_0, hx314_1, hl314_1, hi314_1⟩ := at_T49 HR0.out x5_1 p314 q314)
         cases e314
         (have HR314_1 := aM hi314_1); (have HC314_1 := aM hl314_1); clear hi314_1 hl314_1; (replace p314 := eq_true p314); (replace q314 := eq_true q314); (have p315 : 0 ≤ (x5_1 : Int) := od (by assumption)); (have q315 : x5_1 < (l0.length : Int) := od (by assumption)); (obtain ⟨ad315, A315_1, c315_1, e315, hx315_0, hx315_1, hl315_1, hi315_1⟩ := at_T49 HR0.out x5_1 p315 q315); (obtain rfl : ad314 = ad315 := (by injection e315)); (have HR315_1 := aM hi315_1); (have HC315_1 := aM hl315_1); clear hi315_1 hl315_1; (replace p315 := eq_true p315); (replace q315 := eq_true q315); (have ea_ := Option.some.inj (hx314_1.symm.trans hx315_1))
         injection ea_ with ea_ en_ ec_
         subst ea_; subst ec_; clear en_
         go_wp2_with (first | ((with_reducible refine gate_callee (f := 39) rfl ?_); refine goesL_ (some 27) rfl rfl Try.func39 (by kernel_rfl) rfl #[.slice A314_1 ((rd_T49 l0 x5_1).f1).length c314_1, .int .i64 (wrap64 (x1_1 + 1))] rfl (by simp only [List.map_toArray, List.map_cons, List.map_nil]; rfl) ?_; (with_reducible refine (laws_heldByteS.calls k1 _ _ ((rd_T49 l0 x5_1).f1) (wrap64 (x1_1 + 1)) t316 _ ?side1 ?side2 A6.out).mono ?_); (case side1 => repeat (first | exact HR315_1.out | (with_reducible first | refine cA ?_ _ | refine cN ?_ _ | refine cD ?_))); (case side2 => exact HC315_1.out); rintro e w' ⟨rfl, ⟨nd, rfl⟩⟩; refine ⟨_, rfl, ?_⟩))
         go_ret
         exact ⟨by first | rfl | (simp; done) | (simp [*]; done), by repeat (first | exact Drawn0.refl _ | apply Drawn0.step)⟩
       · rw [if_neg c7] at H
         (have c7b0 := decide_eq_false c7); clear c7; (have H' := aM H); clear H; (have p314 : 0 ≤ (x5_1 : Int) := od (by assumption)); (have q314 : x5_1 < (l0.length : Int) := od (by assumption)); (obtain ⟨ad314, A314_1, c314_1, e314, hx314_0, hx314_1, hl314_1, hi314_1⟩ := at_T49 HR0.out x5_1 p314 q314)
         cases e314
         (have HR314_1 := aM hi314_1); (have HC314_1 := aM hl314_1); clear hi314_1 hl314_1; (replace p314 := eq_true p314); (replace q314 := eq_true q314); (have p315 : 0 ≤ (x5_1 : Int) := od (by assumption)); (have q315 : x5_1 < (l0.length : Int) := od (by assumption)); (obtain ⟨ad315, A315_1, c315_1, e315, hx315_0, hx315_1, hl315_1, hi315_1⟩ := at_T49 HR0.out x5_1 p315 q315); (obtain rfl : ad314 = ad315 := (by injection e315)); (have HR315_1 := aM hi315_1); (have HC315_1 := aM hl315_1); clear hi315_1 hl315_1; (replace p315 := eq_true p315); (replace q315 := eq_true q315); (have ea_ := Option.some.inj (hx314_1.symm.trans hx315_1))
         injection ea_ with ea_ en_ ec_
         subst ea_; subst ec_; clear en_
         go_wp2_with (first | ((with_reducible refine gate_callee (f := 39) rfl ?_); refine goesL_ (some 27) rfl rfl Try.func39 (by kernel_rfl) rfl #[.slice A314_1 ((rd_T49 l0 x5_1).f1).length c314_1, .int .i64 (wrap64 (x1_1 + 1))] rfl (by simp only [List.map_toArray, List.map_cons, List.map_nil]; rfl) ?_; (with_reducible refine (laws_heldByteS.calls k1 _ _ ((rd_T49 l0 x5_1).f1) (wrap64 (x1_1 + 1)) t316 _ ?side1 ?side2 A6.out).mono ?_); (case side1 => repeat (first | exact HR315_1.out | (with_reducible first | refine cA ?_ _ | refine cN ?_ _ | refine cD ?_))); (case side2 => exact HC315_1.out); rintro e w' ⟨rfl, ⟨nd, rfl⟩⟩; refine ⟨_, rfl, ?_⟩))
         go_roundg k1
         case measure => have := HK1.out; omega
         case rel => exact ⟨(t316), (wrap64 (x5_1 + 1)), (by first | rfl | simp | simp [*]), (by first | rfl | simp | simp [*]), H', ⟨by have := HK1.out; omega⟩, by repeat (first | exact Drawn0.refl _ | apply Drawn0.step)⟩
     · rw [if_neg c5] at H
       (have c5b0 : (((rd_T49 l0 x5_1).f0) == x1_1) = false := beq_eq_false_iff_ne.mpr c5); (have c5b1 : (((rd_T49 l0 x5_1).f0) != x1_1) = true := bne_iff_ne.mpr c5); (obtain rfl := Option.some.inj H); (have p314 : 0 ≤ (x5_1 : Int) := od (by assumption)); (have q314 : x5_1 < (l0.length : Int) := od (by assumption)); (obtain ⟨ad314, A314_1, c314_1, e314, hx314_0, hx314_1, hl314_1, hi314_1⟩ := at_T49 HR0.out x5_1 p314 q314)
       cases e314
       (have HR314_1 := aM hi314_1); (have HC314_1 := aM hl314_1); clear hi314_1 hl314_1; (replace p314 := eq_true p314); (replace q314 := eq_true q314)
       go_wp2
       go_ret
       exact ⟨by first | rfl | (simp; done) | (simp [*]; done), by repeat (first | exact Drawn0.refl _ | apply Drawn0.step)⟩
   · rw [if_neg c3] at H
     (have c3b0 := decide_eq_false c3); clear c3; (obtain rfl := Option.some.inj H)
     go_wp2
     go_ret
     exact ⟨by first | rfl | (simp; done) | (simp [*]; done), by repeat (first | exact Drawn0.refl _ | apply Drawn0.step)⟩

end Go.Proofs.Ytdiibgbekjlmlaa.PFnExactRunBus
