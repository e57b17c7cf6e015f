-- slices.Delete at rows of strings, walked by this session's own text.
import Derived.LoopN
import Derived.Lib.SliceRun
import Derived.Lib.JoinLaws
import Derived.Shelf.RegionOpenPlain
import Derived.Lib.Walk
import Derived.Laws.IdiomCopy
import Derived.Deep.RegionLaw
import Derived.Test.YtglllkbebnlnmaaQFnModesx0
namespace Go.Proofs.Ytglllkbebnlnmaa.PFnModes
open Go.RowKit Go.Proofs.YtglllkbebnlnmaaW.PrintWords Go.Proofs.YtglllkbebnlnmaaW.PrintLast Go.Proofs.YtglllkbebnlnmaaW.PrintMore
set_option linter.unusedVariables false
set_option linter.unusedSimpArgs false
theorem infoD : (Try.prog.info? 9).map (fun i => (i.zero, i.size, i.bytes)) = some (some (.string ⟨#[]⟩), 1, 16) := by kernel_rfl
theorem isSomeD (b : Nat) (vs : List Value) (o : Nat) (w : World) (h : ∀ j, j < vs.length → (w.cell? ⟨b, o + j, none⟩).isSome = true) (k : Nat) (hk : (w.cell? ⟨b, k, none⟩).isSome = true) : ((w.setCells b o vs).cell? ⟨b, k, none⟩).isSome = true := by
  by_cases hin : o ≤ k ∧ k < o + vs.length
  · have := World.cell?_setCells_in b vs o w h (k - o) (by omega)
    rw [show o + (k - o) = k by omega] at this
    rw [this]; rfl
  · rw [World.cell?_setCells_out b vs o w ⟨b, k, none⟩ (fun _ _ => by show k < o ∨ o + vs.length ≤ k; omega)]
    exact hk
/-- Elements that lead to nothing are what they are in any world. -/
theorem M_anyD {α : Type} {d : Kd α} (hE : d.E = []) {w w' : World} {base : Nat} {ok ok' : Nat → Prop} {x : α} {cs : List Value} (h : d.M w base ok x cs) : d.M w' base ok' x cs :=
  d.M_mono (ok := fun _ => False) (fun _ hk => hk.elim) (d.M_move (fun _ hk => hk.elim) (d.M_mono (fun k hk => by
    obtain ⟨_, _, _, q, hq, _⟩ := hk
    rw [hE] at hq
    cases hq) (d.M_bound h)))
theorem reps_insertD {α : Type} {d : Kd α} (hE : d.E = []) {w w' : World} {base : Nat} {ok0 ok1 ok' : Nat → Prop} {xs ys : List α} {inner news : List Value} (h0 : Reps (d.M w base ok0) d.sz xs inner) (h1 : Reps (d.M w base ok1) d.sz ys news) (i : Nat) (hi : i ≤ xs.length) :
    Reps (d.M w' base ok') d.sz (xs.take i ++ ys ++ xs.drop i) (inner.take (i * d.sz) ++ news ++ inner.drop (i * d.sz)) :=
  Kd.reps_append (Kd.reps_append ((Kd.reps_take h0 hi).imp_ (fun _ _ h => M_anyD hE h)) (h1.imp_ (fun _ _ h => M_anyD hE h))) ((Kd.reps_drop h0).imp_ (fun _ _ h => M_anyD hE h))
theorem reps_oneD {α : Type} {d : Kd α} {w : World} {base : Nat} {ok : Nat → Prop} (hs0 : 0 < d.sz) {xs : List α} {inner : List Value} (h : Reps (d.M w base ok) d.sz xs inner) : ∀ u ∈ inner, u.oneCell' = true := by
  intro u hu
  obtain ⟨q, hq, rfl⟩ := List.mem_iff_getElem.1 hu
  have hql : q / d.sz < xs.length := by
    rw [Nat.div_lt_iff_lt_mul hs0, ← h.1]
    exact hq
  have hc := h.2 (q / d.sz) _ (List.getElem?_eq_getElem hql)
  refine d.K_one (d.K_of_M hc) _ ?_
  rw [List.mem_iff_getElem?]
  refine ⟨q % d.sz, ?_⟩
  rw [List.getElem?_take, if_pos (Nat.mod_lt _ hs0), List.getElem?_drop, Nat.mul_comm, Nat.div_add_mod, List.getElem?_eq_getElem hq]
theorem below_cellsD {w W : World} {g : Nat} (hg : w.heap.size ≤ g) : ∀ (vs : List Value) (o : Nat) {W : World}, Below w.heap.size w W → Below w.heap.size w (W.setCells g o vs)
  | [], _, _, h => h
  | v :: r, o, W, h => by rw [World.setCells]; exact below_cellsD (W := W) hg r (o + 1) (below_set h hg)
theorem kept_cellsD {w W : World} {g : Nat} {S : Nat → Prop} (hg : S g ∨ w.heap.size ≤ g) : ∀ (vs : List Value) (o : Nat) {W : World}, Kept w W S → Kept w (W.setCells g o vs) S
  | [], _, _, h => h
  | v :: r, o, W, h => by rw [World.setCells]; exact kept_cellsD (W := W) hg r (o + 1) (h.setCell hg _)
/-- slices.Delete of one element of a row of strings, in place. -/
def slices_Delete_string_string.f (l0 : List ByteArray) (a1 a2 : Int) : Option (List ByteArray) := if 0 ≤ a1 ∧ a1 < (l0.length : Int) ∧ a2 = a1 + 1 then some (l0.take a1.toNat ++ l0.drop a2.toNat) else none
set_option maxHeartbeats 8000000 in
set_option maxRecDepth 100000 in
theorem delete_in (b n c i : Nat) (cur : Array Value) (inner : List Value) (w : World) (hi : i < n) (hnc : n ≤ c) (hcm : c ≤ maxLen)
    (hb : w.heap[b]? = some (.cells cur 9 (0, 0))) (hcs : cur.size = c) (hil : inner.length = n) (hin : cur.toList.take n = inner) (hone : ∀ v ∈ inner, v.oneCell' = true) :
    Calls Try.prog 31 #[.slice (some ⟨b, 0, none⟩) n c, .int .i64 i, .int .i64 ((i : Int) + 1)] w fun e w' =>
      e = .returned (.slice (some ⟨b, 0, none⟩) (n - 1) c) ∧ w' = (w.drew.setCells b i (inner.drop (i + 1))).setCells b (n - 1) [.string ⟨#[]⟩] := by
  have hm63 : c ≤ 9223372036854775807 := Nat.le_trans hcm (by decide)
  have hcell : ∀ j, w.cell? ⟨b, j, none⟩ = cur[j]? := fun j => by simp [World.cell?, hb]
  have hcin : ∀ j v, inner[j]? = some v → w.cell? ⟨b, j, none⟩ = some v := fun j v hj => by
    have hjl := (List.getElem?_eq_some_iff.1 hj).1
    rw [hcell j, ← hj, ← hin, List.getElem?_take, if_pos (by omega), Array.getElem?_toList]
  have hsp : ∀ j, j < c → (w.cell? ⟨b, j, none⟩).isSome = true := fun j hj => by rw [hcell j, Array.getElem?_eq_getElem (by omega)]; rfl
  have hfz : ∀ j, w.frozen? ⟨b, j, none⟩ = false := fun j => blk_frozen hb j
  obtain ⟨i0, hi0, _, hsz0, _⟩ := info_parts infoD
  obtain ⟨news, hnews⟩ : ∃ news, news = inner.drop (i + 1) := ⟨_, rfl⟩
  have hlen : news.length = n - (i + 1) := by rw [hnews]; simp [hil]
  obtain ⟨A, hA, hsrc⟩ : ∃ A : Addr, (if c = i + 1 then (some (⟨b, 0, none⟩ : Addr)) else some ⟨b, i + 1, none⟩) = some A ∧ Hid (∀ t u, news[t]? = some u → w.drew.cell? (A.add t) = some u) := by
    by_cases h : c = i + 1
    · refine ⟨⟨b, 0, none⟩, by simp [h], fun t u hu => ?_⟩
      have h0 : news.length = 0 := by omega
      rw [List.length_eq_zero_iff.1 h0] at hu
      simp at hu
    · refine ⟨⟨b, i + 1, none⟩, by simp [h], fun t u hu => ?_⟩
      rw [Addr.add_lit]
      refine hcin _ u ?_
      rw [hnews, List.getElem?_drop] at hu
      exact hu
  have s1 : Hid (news.length = (n - (i + 1)) * 1) := by rw [Nat.mul_one]; exact hlen
  have s2 : Hid (∀ u ∈ news, u.oneCell' = true) := fun u hu => hone u (List.mem_of_mem_drop (by rw [hnews] at hu; exact hu))
  have s3 : Hid (∀ t, t < news.length → (w.drew.cell? ⟨b, 0 + i * 1 + t, none⟩).isSome = true ∧ w.drew.frozen? ⟨b, 0 + i * 1 + t, none⟩ = false) := by
    intro t ht
    rw [Nat.mul_one, Nat.zero_add]
    exact ⟨hsp (i + t) (by omega), hfz _⟩
  obtain ⟨W1, hW1⟩ : ∃ W1, W1 = w.drew.setCells b (0 + i * 1) news := ⟨_, rfl⟩
  have hcl : ∀ ty, (Builtin.clear_ #[24] ty #[.slice (some ⟨b, i + (n - (i + 1)), none⟩) (n - (i + (n - (i + 1)))) (c - (i + (n - (i + 1))))]).run Try.prog W1 = .ok (.tuple #[]) (W1.setCells b (i + (n - (i + 1))) (List.replicate (n - (i + (n - (i + 1)))) (.string ⟨#[]⟩))) := fun ty =>
    Lib.run_clear_slice W1 24 9 ty (.string ⟨#[]⟩) Try.underlying24 (fun w => by kernel_rfl) rfl rfl b _ _ _ (by omega)
      (fun j hj => by
        rw [hW1]
        exact isSomeD b news (0 + i * 1) w.drew (fun t ht => by rw [Nat.mul_one, Nat.zero_add]; exact hsp (i + t) (by omega)) _ (hsp _ (by omega)))
      (fun j hj => by rw [hW1, World.frozen?_setCells]; exact hfz _)
  have hW : Hid (W1 = w.drew.setCells b (0 + i * 1) news) := hW1
  have hic : i ≤ c := by omega
  have hjc : i + 1 ≤ c := by omega
  have mixed : Try.prog.follows .mixedOrders = true := by kernel_rfl
  have hne : decide ((i : Int) = (i : Int) + 1) = false := decide_eq_false (by omega)
  have hb1 := eq_true (show (0 : Int) ≤ (i : Int) + 1 by omega)
  have hb2 := eq_true (show (i : Int) + 1 ≤ (n : Int) by omega)
  have hb3 := eq_true (show (i : Int) ≤ (n : Int) by omega)
  clear hW1 hcin hsp hfz hcell hone hin
  go_enter Try.func31, Try.ntmps31
  go_wp2_with fail
  go_region_law_o (refine step_append_room rfl (.tmp 22) (.tmp 25) 24 rfl 9 i0 1 Try.underlying24 hi0 hsz0 b 0 i c (by simp [Act.eval, Act.put]) A (n - (i + 1)) (c - (i + 1)) news (by simp [Act.eval, Act.put]) s1.out hsrc.out s2.out (by omega) s3.out ?_; rw [← hW.out])
  go_wp2
  go_ret
  have e1 : i + (n - (i + 1)) = n - 1 := by omega
  have e2 : n - (i + (n - (i + 1))) = 1 := by omega
  refine ⟨by rw [e1]; rfl, ?_⟩
  rw [hW.out, e1, show n - (n - 1) = 1 by omega, Nat.mul_one, Nat.zero_add, hnews]
  rfl
theorem del_in (C I : List Value) (z : Value) (i n : Nat) (hC : C.take n = I) (hI : I.length = n) (hi : i < n) (hl : n ≤ C.length) :
    (((C.take i ++ I.drop (i + 1) ++ C.drop (i + (I.drop (i + 1)).length)).take (n - 1) ++ [z] ++ (C.take i ++ I.drop (i + 1) ++ C.drop (i + (I.drop (i + 1)).length)).drop (n - 1 + [z].length))).take (n - 1) = I.take i ++ I.drop (i + 1) := by
  have h1 : (C.take i ++ I.drop (i + 1)).length = n - 1 := by rw [List.length_append, List.length_take, List.length_drop, hI]; omega
  have h2 : (C.take i ++ I.drop (i + 1) ++ C.drop (i + (I.drop (i + 1)).length)).take (n - 1) = C.take i ++ I.drop (i + 1) := List.take_left' h1
  have h3 : C.take i = I.take i := by rw [← hC, List.take_take, Nat.min_eq_left (by omega)]
  rw [h2, List.append_assoc, List.take_left' h1, h3]
set_option maxHeartbeats 8000000 in
set_option maxRecDepth 100000 in
theorem slices_Delete_string_string.calls (u : Value) (l0 : List ByteArray) (a1 a2 : Int) (r : List ByteArray) (P0 : Nat → Prop) (w0 w : World) (hB : Below w0.heap.size w0 w) (ho0 : Kd.R Kd.string 9 w w0.heap.size P0 u l0)
    (h : slices_Delete_string_string.f l0 a1 a2 = some r) :
    Calls Try.prog 31 #[u, .int .i64 a1, .int .i64 a2] w fun e w' => ∃ v0, e = .returned v0 ∧ Kd.R Kd.string 9 w' w0.heap.size (fun k => P0 k ∨ w.heap.size ≤ k) v0 r ∧ Below w0.heap.size w0 w' ∧ Kept w w' P0 := by
  unfold slices_Delete_string_string.f at h
  by_cases hc : 0 ≤ a1 ∧ a1 < (l0.length : Int) ∧ a2 = a1 + 1
  case neg => rw [if_neg hc] at h; cases h
  rw [if_pos hc] at h
  obtain rfl := Option.some.inj h
  obtain ⟨h0, h1, rfl⟩ := hc
  obtain ⟨i, rfl⟩ : ∃ i : Nat, a1 = (i : Int) := ⟨a1.toNat, by omega⟩
  have hti : ((i : Int)).toNat = i := by omega
  have htj : ((i : Int) + 1).toNat = i + 1 := by omega
  rw [hti, htj]
  have hil : i < l0.length := by omega
  obtain ⟨hok0, inner, ⟨hl, hf⟩, hr0⟩ := ho0
  rcases hf with ⟨hv0, hn0⟩ | ⟨b, c, cur, rfl, hbb, hbh, hbn, hbm, hbs, hbt⟩
  · omega
  have hsz : Kd.string.sz = 1 := rfl
  rw [hsz] at hl hbs hbt
  simp only [Nat.mul_one] at hl hbs hbt
  have hone0 := reps_oneD (d := Kd.string) (by decide) hr0
  have hP0 : P0 b := hok0 b rfl
  have hrep := fun (w' : World) (ok' : Nat → Prop) => (Kd.reps_append ((Kd.reps_take hr0 (m := i) (by omega)).imp_ (fun _ _ h => M_anyD (w' := w') (ok' := ok') rfl h)) ((Kd.reps_drop hr0 (m := i + 1)).imp_ (fun _ _ h => M_anyD (w' := w') (ok' := ok') rfl h)))
  refine (delete_in b l0.length c i cur inner w hil hbn hbm hbh hbs hl hbt hone0).mono ?_
  rintro e w' ⟨rfl, rfl⟩
  have hD : (inner.drop (i + 1)).length = l0.length - (i + 1) := by rw [List.length_drop, hl]
  obtain ⟨c1, e1, s1, t1⟩ := setCells_row (inner.drop (i + 1)) i w.drew cur hbh (by rw [hD]; omega)
  obtain ⟨c2, e2, s2, t2⟩ := setCells_row [.string ⟨#[]⟩] (l0.length - 1) _ c1 e1 (by simp; omega)
  have hll : (l0.take i ++ l0.drop (i + 1)).length = l0.length - 1 := by
    simp only [List.length_append, List.length_take, List.length_drop]
    simp only [Nat.min_def]; split <;> omega
  refine ⟨_, rfl, ⟨fun k hk => .inl (hok0 k hk), _, ⟨?_, .inr ⟨b, c, c2, ?_, hbb, e2, ?_, hbm, by rw [s2, s1, hbs]; exact (Nat.mul_one _).symm, ?_⟩⟩, hrep _ _⟩, below_cellsD (w := w0) (W := w) hbb _ _ (below_cellsD (w := w0) (W := w) hbb _ _ (below_drew1 hB)), kept_cellsD (w := w) (W := w) (.inl hP0) _ _ (kept_cellsD (w := w) (W := w) (.inl hP0) _ _ (Kept.drew (Kept.refl _ _)))⟩
  · rw [(hrep w (fun _ => True)).1]
  · rw [hll]
  · rw [hll]; omega
  · rw [hll, hsz, Nat.mul_one, t2, t1]
    simp only [Nat.mul_one]
    exact del_in cur.toList inner _ i l0.length hbt hl hil (by have he : cur.toList.length = cur.size := Array.length_toList; omega)
end Go.Proofs.Ytglllkbebnlnmaa.PFnModes
