-- slices.Insert at rows of strings, walked by this session's own text.
import Derived.LoopN
import Derived.Lib.Overlaps
import Derived.Lib.JoinLaws
import Derived.Lib.AppendZerosOnto
import Derived.Laws.Externs
import Derived.Shelf.RegionOpenPlain
import Derived.Lib.Walk
import Derived.Laws.IdiomCopy
import Derived.Test.YtglllkbebnlnmaaQFnModesx0
namespace Go.Proofs.Ytglllkbebnlnmaa.PFnModes
open Go.RowKit Go.Proofs.YtglllkbebnlnmaaW.PrintWords Go.Proofs.YtglllkbebnlnmaaW.PrintLast Go.Proofs.YtglllkbebnlnmaaW.PrintMore
set_option linter.unusedVariables false
set_option linter.unusedSimpArgs false
theorem infoS : (Try.prog.info? 9).map (fun i => (i.zero, i.size, i.bytes)) = some (some (.string ⟨#[]⟩), 1, 16) := by kernel_rfl
/-! ### slices.Insert at rows of Booked: the library's text walked, one element put in -/
section
variable {P : Program}
/-- 'copy' of so many elements: all is read ahead of what is written. -/
theorem run_copy_sized (w : World) (dT sT ty elem : TypeId) (b o dLen dCap : Nat) (ad : Addr) (sLen sCap n sz : Nat) (cs : List Value)
    (hu : P.underlying dT = some (.slice elem)) (hs : (P.info? elem).map (·.size) = some sz) (hn : n = Nat.min sLen dLen) (hl : cs.length = n * sz)
    (hsrc : ∀ j v, cs[j]? = some v → w.cell? (ad.add j) = some v) (hc : ∀ j, j < cs.length → (w.cell? ⟨b, o + j, none⟩).isSome = true) (hf : ∀ j, j < cs.length → w.frozen? ⟨b, o + j, none⟩ = false) (h1 : ∀ v ∈ cs, v.oneCell' = true) :
    (Builtin.copy_ #[dT, sT] ty #[.slice (some ⟨b, o, none⟩) dLen dCap, .slice (some ad) sLen sCap]).run P w = .ok (goInt n) (w.setCells b o cs) := by
  have hld := run_loadCells_list (P := P) w ad cs hsrc
  have hst := run_storeCells_cells (P := P) b o cs 0 w (by simpa using hc) (by simpa using hf) h1
  cases hq : P.info? elem with
  | none => simp [hq] at hs
  | some i =>
    have hi : i.size = sz := by simpa [hq] using hs
    simp [Builtin.copy_, run_underlying hu, Builtin.lenOf, Builtin.firstCells, sizeOf, typeInfo, hq, hi, ← hn, ← hl, hld, hst]
theorem wpList_copy_known (w : World) {ops : Array Oper} {rest : List Oper} {o : Oper} {a : Act} {Q : Exit → Act → World → Prop} (hgd : o.guard = none) (d s : Operand) (t t' : TypeId)
    (ho : o.op = .call { callee := .builtin .copy, args := #[d, s], argTypes := #[t, t'] }) (v u : Value) (hd : a.eval d = v) (hs : a.eval s = u) {v' : Value} {w' : World}
    (hr : (Builtin.copy_ #[t, t'] o.type #[v, u]).run P w = .ok v' w') (h : wpList P ops Q rest (a.put o.dst v') w') : wpList P ops Q (o :: rest) a w := by
  refine wpList_plain hgd fun _ hK => ?_
  unfold Oper.wp execOp
  simp only [ho, resolve, invoke, builtin, Sem.run_bind, Sem.run_pure, Result.andThen_ok, List.map_toArray, List.map_cons, List.map_nil, hd, hs, hr]
  exact hK _ _ h
theorem step_copy_known {ops : Array Oper} {o : Oper} {a : Act} {w : World} {K : Act → World → Prop} {Q : Exit → Act → World → Prop} {E : Prop}
    (hg : o.guard = none) (d x : Operand) (dT sT : TypeId) (hop : o.op = Op.call { callee := Callee.builtin Builtin.copy, args := #[d, x], argTypes := #[dT, sT] })
    (v u : Value) (hd : a.eval d = v) (hx : a.eval x = u) {v' : Value} {w' : World} (hr : (Builtin.copy_ #[dT, sT] o.type #[v, u]).run P w = .ok v' w') (hK : K (a.put o.dst v') w') :
    if Region.wanted o (yielded ops a.tmps) = true then Oper.wp P o a w K Q else E := by
  have hw : Region.wanted o (yielded ops a.tmps) = true := by simp [Region.wanted, hg]
  rw [if_pos hw]
  unfold Oper.wp
  simp [execOp, hop, resolve, invoke, builtin, hd, hx, hr, Result.andThen]
  exact hK
end
theorem drew_setCells (b : Nat) : ∀ (vs : List Value) (o : Nat) (w : World), (w.setCells b o vs).drew = w.drew.setCells b o vs
  | [], _, _ => rfl
  | v :: r, o, w => by rw [World.setCells, World.setCells, drew_setCells b r]; rfl
theorem isSome_setCells (b : Nat) (vs : List Value) (o : Nat) (w : World) (h : ∀ j, j < vs.length → (w.cell? ⟨b, o + j, none⟩).isSome = true) (k : Nat) (hk : (w.cell? ⟨b, k, none⟩).isSome = true) : ((w.setCells b o vs).cell? ⟨b, k, none⟩).isSome = true := by
  by_cases hin : o ≤ k ∧ k < o + vs.length
  · have := World.cell?_setCells_in b vs o w h (k - o) (by omega)
    rw [show o + (k - o) = k by omega] at this
    rw [this]; rfl
  · rw [World.cell?_setCells_out b vs o w ⟨b, k, none⟩ (fun _ _ => by show k < o ∨ o + vs.length ≤ k; omega)]
    exact hk
/-- Elements that lead to nothing are what they are in any world. -/
theorem M_any {α : Type} {d : Kd α} (hE : d.E = []) {w w' : World} {base : Nat} {ok ok' : Nat → Prop} {x : α} {cs : List Value} (h : d.M w base ok x cs) : d.M w' base ok' x cs :=
  d.M_mono (ok := fun _ => False) (fun _ hk => hk.elim) (d.M_move (fun _ hk => hk.elim) (d.M_mono (fun k hk => by
    obtain ⟨_, _, _, q, hq, _⟩ := hk
    rw [hE] at hq
    cases hq) (d.M_bound h)))
theorem reps_insert {α : Type} {d : Kd α} (hE : d.E = []) {w w' : World} {base : Nat} {ok0 ok1 ok' : Nat → Prop} {xs ys : List α} {inner news : List Value} (h0 : Reps (d.M w base ok0) d.sz xs inner) (h1 : Reps (d.M w base ok1) d.sz ys news) (i : Nat) (hi : i ≤ xs.length) :
    Reps (d.M w' base ok') d.sz (xs.take i ++ ys ++ xs.drop i) (inner.take (i * d.sz) ++ news ++ inner.drop (i * d.sz)) :=
  Kd.reps_append (Kd.reps_append ((Kd.reps_take h0 hi).imp_ (fun _ _ h => M_any hE h)) (h1.imp_ (fun _ _ h => M_any hE h))) ((Kd.reps_drop h0).imp_ (fun _ _ h => M_any hE h))
theorem reps_one {α : Type} {d : Kd α} {w : World} {base : Nat} {ok : Nat → Prop} (hs0 : 0 < d.sz) {xs : List α} {inner : List Value} (h : Reps (d.M w base ok) d.sz xs inner) : ∀ u ∈ inner, u.oneCell' = true := by
  intro u hu
  obtain ⟨q, hq, rfl⟩ := List.mem_iff_getElem.1 hu
  have hql : q / d.sz < xs.length := by
    rw [Nat.div_lt_iff_lt_mul hs0, ← h.1]
    exact hq
  have hc := h.2 (q / d.sz) _ (List.getElem?_eq_getElem hql)
  refine d.K_one (d.K_of_M hc) _ ?_
  rw [List.mem_iff_getElem?]
  refine ⟨q % d.sz, ?_⟩
  rw [List.getElem?_take, if_pos (Nat.mod_lt _ hs0), List.getElem?_drop, Nat.mul_comm, Nat.div_add_mod, List.getElem?_eq_getElem hq]
def slices_Insert_string_string.f (l0 : List ByteArray) (a1 : Int) (l2 : List ByteArray) : Option (List ByteArray) := if 0 ≤ a1 ∧ a1 ≤ (l0.length : Int) ∧ l2.length = 1 ∧ l0.length ≤ 1000000 then some (l0.take a1.toNat ++ l2 ++ l0.drop a1.toNat) else none
set_option maxHeartbeats 8000000 in
set_option maxRecDepth 100000 in
theorem insert_shift (base b n c i vb vc : Nat) (cur : Array Value) (inner vs : List Value) (vcur : Array Value) (w : World) (hi : i < n) (hroom : n + 1 ≤ c) (hcm : c ≤ maxLen) (hvb : vb ≠ b)
    (hb : w.heap[b]? = some (.cells cur 9 (0, 0))) (hcs : cur.size = c) (hil : inner.length = n) (hin : cur.toList.take (n) = inner) (hone : ∀ v ∈ inner, v.oneCell' = true)
    (hv : w.heap[vb]? = some (.cells vcur 9 (0, 0))) (hvcs : vcur.size = vc) (hvl : vs.length = 1) (hvt : vcur.toList.take 1 = vs) (hvone : ∀ v ∈ vs, v.oneCell' = true) (hvc : 1 ≤ vc) :
    Calls Try.prog 30 #[.slice (some ⟨b, 0, none⟩) n c, .int .i64 i, .slice (some ⟨vb, 0, none⟩) 1 vc] w fun e w' =>
      e = .returned (.slice (some ⟨b, 0, none⟩) (n + 1) c) ∧ w' = (w.drew.setCells b ((i + 1)) (inner.drop (i))).setCells b (i) vs := by
  have hm63 : c ≤ 9223372036854775807 := Nat.le_trans hcm (by decide)
  have hcell : ∀ j, j < c → w.cell? ⟨b, j, none⟩ = cur[j]? := fun j _ => by simp [World.cell?, hb]
  have hcin : ∀ j v, inner[j]? = some v → w.cell? ⟨b, j, none⟩ = some v := fun j v hj => by
    have hjl := (List.getElem?_eq_some_iff.1 hj).1
    rw [hcell j (by omega), ← hj, ← hin, List.getElem?_take, if_pos (by omega), Array.getElem?_toList]
  have hsp : ∀ j, j < c → (w.cell? ⟨b, j, none⟩).isSome = true := fun j hj => by rw [hcell j hj, Array.getElem?_eq_getElem (by omega)]; rfl
  have hfz : ∀ j, w.frozen? ⟨b, j, none⟩ = false := fun j => blk_frozen hb j
  have hvin : ∀ j v, vs[j]? = some v → w.cell? ⟨vb, j, none⟩ = some v := fun j v hj => by
    have hjl := (List.getElem?_eq_some_iff.1 hj).1
    rw [show w.cell? ⟨vb, j, none⟩ = vcur[j]? by simp [World.cell?, hv], ← hj, ← hvt, List.getElem?_take, if_pos (by omega), Array.getElem?_toList]
  have hsa : w.shape? vb = some (9, vc) := by simp [World.shape?, hv, hvcs]
  have hsb : w.shape? b = some (9, c) := by simp [World.shape?, hb, hcs]
  obtain ⟨i0, hi0, _, hsz0, _⟩ := info_parts infoS
  have hsz : (Try.prog.info? 9).map (·.size) = some 1 := by rw [hi0]; simp [hsz0]
  have hsize : ∀ w : World, (Go.sizeOf 9).run Try.prog w = .ok 1 w := fun w => by simp [sizeOf, typeInfo, hi0, hsz0]
  have hov : ∀ o lb cb, (callFunc 48 #[.slice (some ⟨vb, 0, none⟩) 1 vc, .slice (some ⟨b, o, none⟩) lb cb]).run Try.prog w = .ok (.value (.bool false)) w := fun o lb cb => by
    rw [run_callFunc_extern Try.func48 (by kernel_rfl) (by kernel_rfl) (by kernel_rfl) (e := Extern.SlicesOverlaps.overlaps #[24, 24] #[4]) (by kernel_rfl),
      Lib.run_overlaps_apart w 24 4 9 Try.underlying24 1 hsize ⟨vb, 0, none⟩ ⟨b, o, none⟩ 1 vc lb cb hvb 9 9 (vc) (c) hsa hsb (by omega) (blk_frozen hv 0) (blk_frozen hv _)]
    rfl
  have hdl : (inner.drop (i)).length = (n - i) := by rw [List.length_drop, hil] <;> omega
  have hcp1 : ∀ ty dc sc, (Builtin.copy_ #[24, 24] ty #[.slice (some ⟨b, (i + 1), none⟩) (n - i) dc, .slice (some ⟨b, i, none⟩) (n + 1 - i) sc]).run Try.prog w.drew = .ok (goInt ((n - i : Nat) : Int)) (w.drew.setCells b ((i + 1)) (inner.drop (i))) := fun ty dc sc =>
    run_copy_sized w.drew _ _ ty 9 b ((i + 1)) (n - i) dc ⟨b, i, none⟩ (n + 1 - i) sc (n - i) 1 _ Try.underlying24 hsz (by simp only [Nat.min_def]; split <;> omega) (by omega)
      (fun j v hj => by rw [Addr.add_lit]; exact hcin (i + j) v (by rwa [List.getElem?_drop] at hj))
      (fun j hj => hsp _ (by omega)) (fun j _ => hfz _) (fun v hv => hone v (List.mem_of_mem_drop hv))
  obtain ⟨W1, hW1⟩ : ∃ W1, W1 = w.drew.setCells b ((i + 1)) (inner.drop (i)) := ⟨_, rfl⟩
  have hcp2 : ∀ (W : World), (∀ x, W.cell? x = W1.cell? x) → (∀ x, W.frozen? x = W1.frozen? x) → ∀ ty dc, (Builtin.copy_ #[24, 24] ty #[.slice (some ⟨b, i, none⟩) (n + 1 - i) dc, .slice (some ⟨vb, 0, none⟩) 1 vc]).run Try.prog W = .ok (goInt 1) (W.setCells b (i) vs) := fun W hWc hWf ty dc =>
    run_copy_sized W _ _ ty 9 b (i) (n + 1 - i) dc ⟨vb, 0, none⟩ 1 vc 1 1 vs Try.underlying24 hsz (by simp only [Nat.min_def]; split <;> omega) (by omega)
      (fun j v hj => by
        rw [Addr.add_lit, hWc, hW1, World.cell?_setCells_out b _ _ _ _ (fun h _ => absurd h hvb), Nat.zero_add]
        exact hvin j v hj)
      (fun j hj => by rw [hWc, hW1]; exact isSome_setCells b _ ((i + 1)) w.drew (fun t ht => hsp ((i + 1) + t) (by rw [hdl] at ht; omega)) (i + j) (hsp (i + j) (by omega))) (fun j hj => by rw [hWf, hW1, World.frozen?_setCells]; exact hfz _) hvone
  rw [← hW1] at hcp1
  have hs1 : ∀ W : World, (Instr.slice 24 (.slice (some ⟨b, 0, none⟩) n c) (some (.int .i64 i)) none none).run Try.prog W = .ok (.slice (some ⟨b, i, none⟩) (n - i) (c - i)) W := fun W => by
    rw [cut_from (P := Try.prog) 24 9 .i64 Try.underlying24 hi0 1 hsz0 (some ⟨b, 0, none⟩) n c (i : Int) (by omega) (by omega) W]
    simp [show ¬ (c = i) by omega, Addr.add_lit]
  have hs2 : ∀ W : World, (Instr.slice 24 (.slice (some ⟨b, 0, none⟩) n c) none (some (.int .i64 ((n : Int) + 1))) none).run Try.prog W = .ok (.slice (some ⟨b, 0, none⟩) (n + 1) c) W := fun W => by
    have hel : Try.prog.elem 24 = 9 := by simp [Program.elem, Try.underlying24]
    have hu : Try.prog.underlying 24 = some (.slice (Try.prog.elem 24)) := by rw [hel]; exact Try.underlying24
    rw [run_slice_h W 24 (some ⟨b, 0, none⟩) n c hu .i64 ((n : Int) + 1) (by omega) (by omega), hel]
    simp [sizeOf, typeInfo, hi0, sliced, Result.andThen, Addr.add_lit]
  have hs3 : ∀ W : World, (Instr.slice 24 (.slice (some ⟨b, 0, none⟩) (n + 1) c) (some (.int .i64 ((i : Int) + 1))) none none).run Try.prog W = .ok (.slice (some ⟨b, (i + 1), none⟩) (n + 1 - (i + 1)) (c - (i + 1))) W := fun W => by
    rw [cut_from (P := Try.prog) 24 9 .i64 Try.underlying24 hi0 1 hsz0 (some ⟨b, 0, none⟩) (n + 1) c ((i : Int) + 1) (by omega) (by omega) W]
    have ht : ((i : Int) + 1).toNat = i + 1 := by omega
    rw [ht]
    simp [show ¬ (c = i + 1) by omega, Addr.add_lit]
  have hs4 : ∀ W : World, (Instr.slice 24 (.slice (some ⟨b, 0, none⟩) (n + 1) c) (some (.int .i64 i)) none none).run Try.prog W = .ok (.slice (some ⟨b, i, none⟩) (n + 1 - i) (c - i)) W := fun W => by
    rw [cut_from (P := Try.prog) 24 9 .i64 Try.underlying24 hi0 1 hsz0 (some ⟨b, 0, none⟩) (n + 1) c (i : Int) (by omega) (by omega) W]
    simp [show ¬ (c = i) by omega, Addr.add_lit]
  have hz1 : decide ((1 : Int) = 0) = false := by decide
  have mixed : Try.prog.follows .mixedOrders = true := by kernel_rfl
  have hz2 : decide ((i : Int) = (n : Int)) = false := decide_eq_false (by omega)
  have hw1 : IntKind.i64.wrap ((n : Int) + 1) = (n : Int) + 1 := by rw [IntKind.wrap_i64] <;> omega
  have hw2 : IntKind.i64.wrap ((i : Int) + 1) = (i : Int) + 1 := by rw [IntKind.wrap_i64] <;> omega
  have hz3 : decide ((c : Int) < (n : Int) + 1) = false := decide_eq_false (by omega)
  go_enter Try.func30, Try.ntmps30
  go_wp2_with (simp only [hov])
  go_region_law_o (refine step_copy_known rfl _ _ 24 24 rfl _ _ (by simp [Act.eval, Act.put]) (by simp [Act.eval, Act.put]) (hcp1 _ _ _) ?_)
  go_wp2_with (at_builtin; refine wpList_copy_known _ rfl _ _ 24 24 rfl _ _ rfl rfl (hcp2 _ (fun _ => rfl) (fun _ => rfl) _ _) ?_)
  go_ret
  first | exact ⟨rfl, rfl⟩ | exact ⟨rfl, by rw [hW1]⟩
set_option maxHeartbeats 8000000 in
set_option maxRecDepth 100000 in
theorem insert_grow (n c i b vb vc : Nat) (cur : Array Value) (inner vs : List Value) (vcur : Array Value) (w : World) (hi : i < n) (hnc : n ≤ c) (hroom : c < n + 1) (hbig : n ≤ 1000000)
    (hb : w.heap[b]? = some (.cells cur 9 (0, 0))) (hcs : cur.size = c) (hil : inner.length = n) (hin : cur.toList.take (n) = inner) (hone : ∀ v ∈ inner, v.oneCell' = true)
    (hv : w.heap[vb]? = some (.cells vcur 9 (0, 0))) (hvl : vs.length = 1) (hvt : vcur.toList.take 1 = vs) (hvone : ∀ v ∈ vs, v.oneCell' = true) :
    Calls Try.prog 30 #[.slice (some ⟨b, 0, none⟩) n c, .int .i64 i, .slice (some ⟨vb, 0, none⟩) 1 vc] w fun e w' =>
      ∃ G ROW, e = .returned (.slice (some ⟨w.heap.size, 0, none⟩) (n + 1) G) ∧ n + 1 ≤ G ∧ G ≤ maxLen ∧ ROW.size = G ∧ ROW.toList.take (i) = inner.take (i) ∧
      w' = (((w.alloc (.cells ROW 9)).drew.setCells w.heap.size (i) vs).drew).setCells w.heap.size ((i + 1)) (inner.drop (i)) := by
  have hcin : ∀ j v, inner[j]? = some v → w.cell? ⟨b, j, none⟩ = some v := fun j v hj => by
    have hjl := (List.getElem?_eq_some_iff.1 hj).1
    rw [show w.cell? ⟨b, j, none⟩ = cur[j]? by simp [World.cell?, hb], ← hj, ← hin, List.getElem?_take, if_pos (by omega), Array.getElem?_toList]
  have hvin : ∀ j v, vs[j]? = some v → w.cell? ⟨vb, j, none⟩ = some v := fun j v hj => by
    have hjl := (List.getElem?_eq_some_iff.1 hj).1
    rw [show w.cell? ⟨vb, j, none⟩ = vcur[j]? by simp [World.cell?, hv], ← hj, ← hvt, List.getElem?_take, if_pos (by omega), Array.getElem?_toList]
  obtain ⟨i0, hi0, hz0, hsz0, hby0⟩ := info_parts infoS
  have hsz : (Try.prog.info? 9).map (·.size) = some 1 := by rw [hi0]; simp [hsz0]
  have hbw : b < w.heap.size := blk_lt hb
  have hvw : vb < w.heap.size := blk_lt hv
  have hik : i + (n + 1 - i) = n + 1 := by omega
  have hkk : (n : Int) + 1 - (i : Int) = ((n + 1 - i : Nat) : Int) := by omega
  have hold : (Builtin.firstCells i0.size i (.slice (some ⟨b, 0, none⟩) i c)).run Try.prog w.drew = .ok (inner.take (i)).toArray w.drew := by
    rw [hsz0]
    exact run_firstCells_some w.drew 1 i ⟨b, 0, none⟩ i c (inner.take (i)) (by rw [List.length_take] <;> omega) (fun j v hj => by
      rw [Addr.add_lit, Nat.zero_add]
      rw [List.getElem?_take] at hj
      split at hj
      · exact hcin j v hj
      · cases hj)
  have hrz : ∀ ty, (Builtin.append_ #[24, 3] ty #[.slice (some ⟨b, 0, none⟩) i c, .int .i64 ((n : Int) + 1 - (i : Int))]).run Try.prog w =
      .ok (.slice (some ⟨w.heap.size, 0, none⟩) (n + 1) (grownCap w (n + 1) c 9)) (w.drew.alloc (.cells ((inner.take (i)).toArray ++ Builtin.zeroCells (Value.string ⟨#[]⟩).cells (n + 1 - i) ++ Builtin.zeroCells (Value.string ⟨#[]⟩).cells (grownCap w (n + 1) c 9 - (n + 1))) 9)) := fun ty => by
    have h := Lib.run_append_grow_zeros w 24 3 ty 9 i0 _ .i64 .i64 Try.underlying24 Try.underlying3 hi0 hz0 (some ⟨b, 0, none⟩) i c (inner.take (i)) hold (n + 1 - i) (by omega) (by omega) (by omega) (by omega) (by rw [hby0] <;> omega) (by rw [hby0, hik]; exact growslice_fits hroom (by omega))
    rw [hik] at h
    rw [hkk]
    exact h
  obtain ⟨G, hG⟩ : ∃ G, G = grownCap w (n + 1) c 9 := ⟨_, rfl⟩
  obtain ⟨ROW, hROW⟩ : ∃ ROW : Array Value, ROW = (inner.take (i)).toArray ++ Builtin.zeroCells (Value.string ⟨#[]⟩).cells (n + 1 - i) ++ Builtin.zeroCells (Value.string ⟨#[]⟩).cells (G - (n + 1)) := ⟨_, rfl⟩
  rw [← hG] at hrz
  rw [← hROW] at hrz
  have hGn : n + 1 ≤ G := by rw [hG]; exact grownCap_ge w _ _ _
  have hGm : G ≤ maxLen := by
    rw [hG]
    exact grownCap_le_maxLen w (n + 1) c 9 (by unfold maxLen; omega)
  have hG63 : G ≤ 9223372036854775807 := Nat.le_trans hGm (by decide)
  have hzs : ∀ k, (Builtin.zeroCells (Value.string ⟨#[]⟩).cells k).size = k := fun k => by
    simp [Builtin.zeroCells, Value.cells, Nat.mul_comm]
  have hRs : ROW.size = G := by
    rw [hROW, Array.size_append, Array.size_append, hzs, hzs, List.size_toArray, List.length_take]
    omega
  have hRt : ROW.toList.take (i) = inner.take (i) := by
    rw [hROW, Array.toList_append, Array.toList_append, List.append_assoc, List.take_append_of_le_length (by simp; omega)]
    simp [List.take_take]
  obtain ⟨W1, hW1⟩ : ∃ W1, W1 = w.drew.alloc (.cells ROW 9) := ⟨_, rfl⟩
  rw [← hW1] at hrz
  have hN : ∀ j, j < G → (W1.cell? ⟨w.heap.size, j, none⟩).isSome = true := fun j hj => by
    rw [hW1, World.cell?_alloc_at (w := w.drew) ROW _ w.heap.size j rfl, Array.getElem?_eq_getElem (by omega)]; rfl
  have hNf : ∀ j, W1.frozen? ⟨w.heap.size, j, none⟩ = false := fun j => by rw [hW1]; exact World.frozen?_alloc_at (w := w.drew) ROW _ w.heap.size j rfl
  have hOb : ∀ j v, w.cell? ⟨b, j, none⟩ = some v → W1.cell? ⟨b, j, none⟩ = some v := fun j v h => by rw [hW1, World.cell?_alloc_past (w := w.drew) _ b j hbw]; exact h
  have hOv : ∀ j v, w.cell? ⟨vb, j, none⟩ = some v → W1.cell? ⟨vb, j, none⟩ = some v := fun j v h => by rw [hW1, World.cell?_alloc_past (w := w.drew) _ vb j hvw]; exact h
  have hcpA : ∀ (W : World), (∀ x, W.cell? x = W1.cell? x) → (∀ x, W.frozen? x = W1.frozen? x) → ∀ ty dc, (Builtin.copy_ #[24, 24] ty #[.slice (some ⟨w.heap.size, i, none⟩) (n + 1 - i) dc, .slice (some ⟨vb, 0, none⟩) 1 vc]).run Try.prog W = .ok (goInt 1) (W.setCells w.heap.size (i) vs) := fun W hWc hWf ty dc =>
    run_copy_sized W _ _ ty 9 w.heap.size (i) (n + 1 - i) dc ⟨vb, 0, none⟩ 1 vc 1 1 vs Try.underlying24 hsz (by simp only [Nat.min_def]; split <;> omega) (by omega)
      (fun j v hj => by rw [Addr.add_lit, Nat.zero_add, hWc]; exact hOv _ v (hvin j v hj))
      (fun j hj => by rw [hWc]; exact hN _ (by omega)) (fun j hj => by rw [hWf]; exact hNf _) hvone
  have hdl : (inner.drop (i)).length = (n - i) := by rw [List.length_drop, hil] <;> omega
  have hbN : b ≠ w.heap.size := by omega
  have hcpB : ∀ (W : World), (∀ x, W.cell? x = (W1.setCells w.heap.size (i) vs).cell? x) → (∀ x, W.frozen? x = (W1.setCells w.heap.size (i) vs).frozen? x) → ∀ ty dc sc, (Builtin.copy_ #[24, 24] ty #[.slice (some ⟨w.heap.size, (i + 1), none⟩) (n - i) dc, .slice (some ⟨b, i, none⟩) (n - i) sc]).run Try.prog W = .ok (goInt ((n - i : Nat) : Int)) (W.setCells w.heap.size ((i + 1)) (inner.drop (i))) := fun W hWc hWf ty dc sc =>
    run_copy_sized W _ _ ty 9 w.heap.size ((i + 1)) (n - i) dc ⟨b, i, none⟩ (n - i) sc (n - i) 1 (inner.drop (i)) Try.underlying24 hsz (by simp) (by omega)
      (fun j v hj => by
        rw [Addr.add_lit, hWc, World.cell?_setCells_out _ _ _ _ _ (fun h _ => absurd h hbN)]
        exact hOb _ v (hcin (i + j) v (by rwa [List.getElem?_drop] at hj)))
      (fun j hj => by rw [hWc]; exact isSome_setCells _ _ (i) W1 (fun t ht => hN (i + t) (by omega)) ((i + 1) + j) (hN _ (by omega)))
      (fun j hj => by rw [hWf, World.frozen?_setCells]; exact hNf _) (fun v hv => hone v (List.mem_of_mem_drop hv))
  subst hW1
  have hE1 : ∀ x, ((w.alloc (.cells ROW 9)).drew).cell? x = (w.drew.alloc (.cells ROW 9)).cell? x := fun x => rfl
  have hE2 : ∀ x, ((w.alloc (.cells ROW 9)).drew).frozen? x = (w.drew.alloc (.cells ROW 9)).frozen? x := fun x => rfl
  have hF1 : ∀ x, (((w.alloc (.cells ROW 9)).drew.setCells w.heap.size (i) vs).drew).cell? x = ((w.drew.alloc (.cells ROW 9)).setCells w.heap.size (i) vs).cell? x := fun x => rfl
  have hF2 : ∀ x, (((w.alloc (.cells ROW 9)).drew.setCells w.heap.size (i) vs).drew).frozen? x = ((w.drew.alloc (.cells ROW 9)).setCells w.heap.size (i) vs).frozen? x := fun x => rfl
  have mixed : Try.prog.follows .mixedOrders = true := by kernel_rfl
  have hs1 : ∀ W : World, (Instr.slice 24 (.slice (some ⟨b, 0, none⟩) n c) (some (.int .i64 i)) none none).run Try.prog W = .ok (.slice (some ⟨b, i, none⟩) (n - i) (c - i)) W := fun W => by
    rw [cut_from (P := Try.prog) 24 9 .i64 Try.underlying24 hi0 1 hsz0 (some ⟨b, 0, none⟩) n c (i : Int) (by omega) (by omega) W]
    simp [show ¬ (c = i) by omega, Addr.add_lit]
  have hs2 : ∀ W : World, (Instr.slice 24 (.slice (some ⟨b, 0, none⟩) n c) none (some (.int .i64 i)) none).run Try.prog W = .ok (.slice (some ⟨b, 0, none⟩) i c) W := fun W => by
    rw [cut_to (P := Try.prog) 24 9 .i64 Try.underlying24 hi0 (some ⟨b, 0, none⟩) n c (i : Int) (by omega) (by omega) hnc W]
    simp
  have hs3 : ∀ W : World, (Instr.slice 24 (.slice (some ⟨w.heap.size, 0, none⟩) (n + 1) G) (some (.int .i64 ((i : Int) + 1))) none none).run Try.prog W = .ok (.slice (some ⟨w.heap.size, (i + 1), none⟩) (n - i) (G - (i + 1))) W := fun W => by
    rw [cut_from (P := Try.prog) 24 9 .i64 Try.underlying24 hi0 1 hsz0 (some ⟨w.heap.size, 0, none⟩) (n + 1) G ((i : Int) + 1) (by omega) (by omega) W]
    have ht : ((i : Int) + 1).toNat = i + 1 := by omega
    rw [ht]
    simp [show ¬ (G = i + 1) by omega, Addr.add_lit]
  have hs4 : ∀ W : World, (Instr.slice 24 (.slice (some ⟨w.heap.size, 0, none⟩) (n + 1) G) (some (.int .i64 i)) none none).run Try.prog W = .ok (.slice (some ⟨w.heap.size, i, none⟩) (n + 1 - i) (G - i)) W := fun W => by
    rw [cut_from (P := Try.prog) 24 9 .i64 Try.underlying24 hi0 1 hsz0 (some ⟨w.heap.size, 0, none⟩) (n + 1) G (i : Int) (by omega) (by omega) W]
    simp [show ¬ (G = i) by omega, Addr.add_lit]
  have hz1 : decide ((1 : Int) = 0) = false := by decide
  have hz2 : decide ((i : Int) = (n : Int)) = false := decide_eq_false (by omega)
  have hw1 : IntKind.i64.wrap ((n : Int) + 1) = (n : Int) + 1 := by rw [IntKind.wrap_i64] <;> omega
  have hw2 : IntKind.i64.wrap ((i : Int) + 1) = (i : Int) + 1 := by rw [IntKind.wrap_i64] <;> omega
  have hw3 : IntKind.i64.wrap ((n : Int) + 1 - (i : Int)) = (n : Int) + 1 - (i : Int) := by rw [IntKind.wrap_i64] <;> omega
  have hz3 : decide ((c : Int) < (n : Int) + 1) = true := decide_eq_true (by omega)
  clear hkk hik hold hROW hG
  go_enter Try.func30, Try.ntmps30
  go_wp2_with (first
    | (at_builtin; refine Lib.wpList_append_run _ rfl _ _ _ _ rfl _ _ rfl rfl _ _ (hrz _) ?_)
    | (at_builtin; refine wpList_copy_known _ rfl _ _ 24 24 rfl _ _ rfl rfl (hcpA _ hE1 hE2 _ _) ?_)
    | (at_builtin; refine wpList_copy_known _ rfl _ _ 24 24 rfl _ _ rfl rfl (hcpB _ (fun _ => rfl) (fun _ => rfl) _ _ _) ?_))
  go_region_law_o (refine step_copy_known rfl _ _ 24 24 rfl (.slice (some ⟨w.heap.size, (i + 1), none⟩) (n - i) (G - (i + 1))) (.slice (some ⟨b, i, none⟩) (n - i) (c - i)) (by simp [Act.eval, Act.put]) (by simp [Act.eval, Act.put]) (hcpB _ hF1 hF2 3 (G - (i + 1)) (c - i)) ?_)
  go_wp2
  go_ret
  exact ⟨G, ROW, rfl, hGn, hGm, hRs, hRt, rfl⟩
theorem ins_in (C I V : List Value) (i n : Nat) (hC : C.take (n) = I) (hI : I.length = n) (hV : V.length = 1) (hi : i < n) (hl : (n + 1) ≤ C.length) :
    (((C.take ((i + 1)) ++ I.drop (i) ++ C.drop ((i + 1) + (I.drop (i)).length)).take (i) ++ V ++ (C.take ((i + 1)) ++ I.drop (i) ++ C.drop ((i + 1) + (I.drop (i)).length)).drop (i + V.length))).take ((n + 1)) = I.take (i) ++ V ++ I.drop (i) := by
  have h1 : (C.take ((i + 1))).length = (i + 1) := by rw [List.length_take] <;> omega
  have h2 : (I.drop (i)).length = (n - i) := by rw [List.length_drop, hI] <;> omega
  have h3 : (C.take ((i + 1)) ++ I.drop (i) ++ C.drop ((i + 1) + (I.drop (i)).length)).take (i) = I.take (i) := by
    rw [List.append_assoc, List.take_append_of_le_length (by omega), List.take_take, Nat.min_eq_left (by omega), ← hC, List.take_take, Nat.min_eq_left (by omega)]
  have h4 : (C.take ((i + 1)) ++ I.drop (i) ++ C.drop ((i + 1) + (I.drop (i)).length)).drop (i + V.length) = I.drop (i) ++ C.drop ((i + 1) + (I.drop (i)).length) := by
    rw [List.append_assoc]
    exact List.drop_left' (by rw [h1, hV] <;> omega)
  rw [h3, h4, ← List.append_assoc]
  exact List.take_left' (by rw [List.length_append, List.length_append, List.length_take, hI, hV, h2, Nat.min_eq_left (by omega)] <;> omega)
theorem ins_new (R I V : List Value) (i n : Nat) (hR : R.take (i) = I.take (i)) (hI : I.length = n) (hV : V.length = 1) (hi : i < n) (hl : (n + 1) ≤ R.length) :
    (((R.take (i) ++ V ++ R.drop (i + V.length)).take ((i + 1)) ++ I.drop (i) ++ (R.take (i) ++ V ++ R.drop (i + V.length)).drop ((i + 1) + (I.drop (i)).length))).take ((n + 1)) = I.take (i) ++ V ++ I.drop (i) := by
  have h2 : (I.drop (i)).length = (n - i) := by rw [List.length_drop, hI] <;> omega
  have h0 : (R.take (i)).length = i := by rw [List.length_take] <;> omega
  have h3 : (R.take (i) ++ V ++ R.drop (i + V.length)).take ((i + 1)) = I.take (i) ++ V := by
    rw [← hR]
    exact List.take_left' (by rw [List.length_append, h0, hV] <;> omega)
  rw [h3]
  exact List.take_left' (by rw [List.length_append, List.length_append, List.length_take, hI, hV, h2, Nat.min_eq_left (by omega)] <;> omega)
theorem below_cells {w W : World} {g : Nat} (hg : w.heap.size ≤ g) : ∀ (vs : List Value) (o : Nat) {W : World}, Below w.heap.size w W → Below w.heap.size w (W.setCells g o vs)
  | [], _, _, h => h
  | v :: r, o, W, h => by rw [World.setCells]; exact below_cells (W := W) hg r (o + 1) (below_set h hg)
theorem kept_cells {w W : World} {g : Nat} {S : Nat → Prop} (hg : S g ∨ w.heap.size ≤ g) : ∀ (vs : List Value) (o : Nat) {W : World}, Kept w W S → Kept w (W.setCells g o vs) S
  | [], _, _, h => h
  | v :: r, o, W, h => by rw [World.setCells]; exact kept_cells (W := W) hg r (o + 1) (h.setCell hg _)
set_option maxHeartbeats 8000000 in
set_option maxRecDepth 100000 in
theorem slices_Insert_string_string.calls (u v : Value) (l0 : List ByteArray) (a1 : Int) (l2 r : List ByteArray) (P0 P1 : Nat → Prop) (w0 w : World) (hB : Below w0.heap.size w0 w) (ho0 : Kd.R Kd.string 9 w w0.heap.size P0 u l0) (ho1 : Kd.R Kd.string 9 w w0.heap.size P1 v l2)
    (hne : ∀ k, u.ownBlock = some k → v.ownBlock = some k → False) (h : slices_Insert_string_string.f l0 a1 l2 = some r) :
    Calls Try.prog 30 #[u, .int .i64 a1, v] w fun e w' => ∃ v0, e = .returned v0 ∧ Kd.R Kd.string 9 w' w0.heap.size (fun k => P0 k ∨ w.heap.size ≤ k) v0 r ∧ Below w0.heap.size w0 w' ∧ Kept w w' P0 := by
  unfold slices_Insert_string_string.f at h
  by_cases hc : 0 ≤ a1 ∧ a1 ≤ (l0.length : Int) ∧ l2.length = 1 ∧ l0.length ≤ 1000000
  case neg => rw [if_neg hc] at h; cases h
  rw [if_pos hc] at h
  obtain rfl := Option.some.inj h
  obtain ⟨h0, h1, h2, h3⟩ := hc
  obtain ⟨i, rfl⟩ : ∃ i : Nat, a1 = (i : Int) := ⟨a1.toNat, by omega⟩
  have hti : ((i : Int)).toNat = i := by omega
  rw [hti]
  have hR0 := ho0
  have hR1 := ho1
  obtain ⟨hok1, news, ⟨hnl, hnf⟩, hr1⟩ := ho1
  rcases hnf with ⟨hv0, hn0⟩ | ⟨vb, vc, vcur, rfl, hvb, hvh, hvn, hvm, hvs, hvt⟩
  · rw [h2] at hn0; cases hn0
  obtain ⟨i0, hi0, _, hsz0, _⟩ := info_parts infoS
  by_cases hin : i = l0.length
  · subst hin
    obtain ⟨Ao, co, rfl⟩ := Kd.R_slice hR0
    have hs1 := cut_from (P := Try.prog) 24 9 .i64 Try.underlying24 hi0 1 hsz0 Ao l0.length co (l0.length : Int) (by omega) (by omega)
    have hz1 : decide ((1 : Int) = 0) = false := by decide
    rw [List.take_length, List.drop_length, List.append_nil]
    rw [h2]
    have hrd : ReadsRow (Kd.string.M w w0.heap.size (fun _ => False)) Kd.string.sz w (some ⟨vb, 0, none⟩) 1 l2 := by
      have hh := (Kd.R_reads' (Kd.R_tight rfl hR1)).2.2
      rw [h2] at hh
      exact hh.imp_ (Below.refl _ _) (fun x cs hk => hk)
    clear hs1
    have hs1 : ∀ W : World, (Instr.slice 24 (.slice Ao l0.length co) (some (.int .i64 (l0.length : Int))) none none).run Try.prog W = .ok (.slice (if co = l0.length then Ao else Ao.map (·.add (l0.length))) 0 (co - l0.length)) W := fun W => by
      rw [cut_from (P := Try.prog) 24 9 .i64 Try.underlying24 hi0 1 hsz0 Ao l0.length co (l0.length : Int) (by omega) (by omega) W]
      simp
    go_enter Try.func30, Try.ntmps30
    go_wp2_with (at_builtin; refine Kd.R_append_rows Kd.string (Rr := Kd.string.M w w0.heap.size (fun _ => False)) (w0 := w0) w0.heap.size rfl _ _ 24 9 (.string ⟨#[]⟩) 16 rfl Try.underlying24 infoS rfl (by decide) (by omega) (.slice Ao l0.length co) l0 l2 (some ⟨vb, 0, none⟩) 1 vc (fun k => P0 k ∨ w.heap.size ≤ k) (fun _ => False) rfl rfl (Kd.R_mono hR0 (fun _ hk => .inl hk)) hrd (fun _ _ hk => M_any rfl hk) (fun _ hk => hk.elim) (fun _ hk => .inr hk) hB hB.size (by omega) ?_; intro v1 w1 ho hb hg hat)
    all_goals (go_ret; exact ⟨_, rfl, ho, hb, Kept.of_grown hg (Kept.refl _ _) (fun k hk => .inl (hR0.1 k hk))⟩)
  · have hil : i < l0.length := by omega
    obtain ⟨hok0, inner, ⟨hl, hf⟩, hr0⟩ := ho0
    rcases hf with ⟨hv0, hn0⟩ | ⟨b, c, cur, rfl, hbb, hbh, hbn, hbm, hbs, hbt⟩
    · omega
    have hsz : Kd.string.sz = 1 := rfl
    rw [hsz] at hl hbs hbt hnl hvs hvt
    simp only [Nat.mul_one] at hl hbs hbt hnl hvs hvt
    rw [h2] at hnl hvn hvt ⊢
    have hone0 := reps_one (d := Kd.string) (by decide) hr0
    have hone1 := reps_one (d := Kd.string) (by decide) hr1
    have hP0 : P0 b := hok0 b rfl
    have hvbb : vb ≠ b := fun e => hne b rfl (by rw [e]; rfl)
    have hrep := fun (w' : World) (ok' : Nat → Prop) => reps_insert (d := Kd.string) (w' := w') (ok' := ok') rfl hr0 hr1 i (by omega)
    by_cases hroom : l0.length + 1 ≤ c
    · refine (insert_shift w0.heap.size b l0.length c i vb vc cur inner news vcur w hil hroom hbm hvbb hbh hbs hl hbt hone0 hvh hvs (by omega) (by simpa using hvt) hone1 hvn).mono ?_
      rintro e w' ⟨rfl, rfl⟩
      have hD : (inner.drop (i)).length = (l0.length - i) := by rw [List.length_drop, hl] <;> omega
      obtain ⟨c1, e1, s1, t1⟩ := setCells_row (inner.drop (i)) ((i + 1)) w.drew cur hbh (by rw [hD] <;> omega)
      obtain ⟨c2, e2, s2, t2⟩ := setCells_row news (i) _ c1 e1 (by omega)
      refine ⟨_, rfl, ⟨fun k hk => .inl (hok0 k hk), _, ⟨?_, .inr ⟨b, c, c2, ?_, hbb, e2, ?_, hbm, by rw [s2, s1, hbs]; exact (Nat.mul_one _).symm, ?_⟩⟩, hrep _ _⟩, below_cells (W := w) hbb _ _ (below_cells (W := w) hbb _ _ (below_drew1 hB)), kept_cells (W := w) (.inl hP0) _ _ (kept_cells (W := w) (.inl hP0) _ _ (Kept.drew (Kept.refl _ _)))⟩
      · rw [(hrep w (fun _ => True)).1]
      · simp only [List.length_append, List.length_take, List.length_drop]
        rw [h2, show Nat.min i l0.length + 1 + (l0.length - i) = l0.length + 1 by simp only [Nat.min_def]; split <;> omega]
      · simp only [List.length_append, List.length_take, List.length_drop]
        rw [h2]
        simp only [Nat.min_def]; split <;> omega
      · have hll : (l0.take i ++ l2 ++ l0.drop i).length = l0.length + 1 := by
          simp only [List.length_append, List.length_take, List.length_drop]
          rw [h2]
          simp only [Nat.min_def]; split <;> omega
        rw [hll, hsz, Nat.mul_one, t2, t1]
        simp only [Nat.mul_one]
        exact ins_in cur.toList inner news i l0.length hbt hl (by omega) hil (by have he : cur.toList.length = cur.size := Array.length_toList; omega)
    · refine (insert_grow l0.length c i b vb vc cur inner news vcur w hil hbn (by omega) h3 hbh hbs hl hbt hone0 hvh (by omega) (by simpa using hvt) hone1).mono ?_
      rintro e w' ⟨G, ROW, rfl, hG1, hG2, hRs, hRt, rfl⟩
      have hD : (inner.drop (i)).length = (l0.length - i) := by rw [List.length_drop, hl] <;> omega
      have hnew : ((w.alloc (.cells ROW 9)).drew).heap[w.heap.size]? = some (.cells ROW 9 (0, 0)) := heap_alloc_new w (.cells ROW 9)
      obtain ⟨c1, e1, s1, t1⟩ := setCells_row news (i) ((w.alloc (.cells ROW 9)).drew) ROW hnew (by omega)
      obtain ⟨c2, e2, s2, t2⟩ := setCells_row (inner.drop (i)) ((i + 1)) (((w.alloc (.cells ROW 9)).drew.setCells w.heap.size (i) news).drew) c1 e1 (by rw [hD] <;> omega)
      have hbase : w0.heap.size ≤ w.heap.size := hB.size
      refine ⟨_, rfl, ⟨fun k hk => .inr (by simp [Value.ownBlock] at hk; omega), _, ⟨?_, .inr ⟨w.heap.size, G, c2, ?_, hbase, e2, ?_, hG2, by rw [s2, s1, hRs]; exact (Nat.mul_one _).symm, ?_⟩⟩, hrep _ _⟩, below_cells (W := w) hbase _ _ (below_drew1 (below_cells (W := w) hbase _ _ (below_drew1 (below_alloc hB _)))), kept_cells (W := w) (.inr (Nat.le_refl _)) _ _ (Kept.drew (kept_cells (W := w) (.inr (Nat.le_refl _)) _ _ (Kept.drew (Kept.alloc (Kept.refl _ _) _))))⟩
      · rw [(hrep w (fun _ => True)).1]
      · simp only [List.length_append, List.length_take, List.length_drop]
        rw [h2, show Nat.min i l0.length + 1 + (l0.length - i) = l0.length + 1 by simp only [Nat.min_def]; split <;> omega]
      · simp only [List.length_append, List.length_take, List.length_drop]
        rw [h2]
        simp only [Nat.min_def]; split <;> omega
      · have hll : (l0.take i ++ l2 ++ l0.drop i).length = l0.length + 1 := by
          simp only [List.length_append, List.length_take, List.length_drop]
          rw [h2]
          simp only [Nat.min_def]; split <;> omega
        rw [hll, hsz, Nat.mul_one, t2, t1]
        simp only [Nat.mul_one]
        exact ins_new ROW.toList inner news i l0.length hRt hl (by omega) hil (by have he : ROW.toList.length = ROW.size := Array.length_toList; omega)
end Go.Proofs.Ytglllkbebnlnmaa.PFnModes
