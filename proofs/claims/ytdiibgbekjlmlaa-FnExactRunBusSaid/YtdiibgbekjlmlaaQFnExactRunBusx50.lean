import Derived.Test.YtdiibgbekjlmlaaQFnExactRunBusx0
import Derived.Lib.SliceRun
namespace Go.Proofs.Ytdiibgbekjlmlaa.PFnExactRunBus
open Go.RowKit Go.Proofs.YtdiibgbekjlmlaaW.PrintWords Go.Proofs.YtdiibgbekjlmlaaW.PrintLast Go.Proofs.YtdiibgbekjlmlaaW.PrintMore
set_option linter.unusedVariables false
set_option linter.unusedSimpArgs false
/-- A talker whose frames are a queue, told apart. -/
def kT : Kd S44 := Kd.iso (Kd.pair (kQ 49 k49) (Kd.pair (Kd.int .i64) (Kd.pair (Kd.int .i64) Kd.bool))) (fun x : S44 => (x.f0, x.f1, x.f2, x.f3))
theorem kT_openM {w : World} {base : Nat} {ok : Nat → Prop} {x : S44} {cs : List Value} (h : kT.M w base ok x cs) : ∃ v0, cs = [v0, .int .i64 x.f1, .int .i64 x.f2, .bool x.f3] ∧ QS k49 49 w base ok v0 x.f0 := by
  obtain ⟨_, _, rfl, ⟨v0, rfl, g0⟩, ⟨_, _, rfl, rfl, ⟨_, _, rfl, rfl, rfl⟩⟩⟩ := h
  exact ⟨v0, rfl, g0⟩
theorem kT_mkM (w : World) (base : Nat) (ok : Nat → Prop) (x : S44) {v0 : Value} (g0 : QS k49 49 w base ok v0 x.f0) : kT.M w base ok x [v0, .int .i64 x.f1, .int .i64 x.f2, .bool x.f3] := ⟨[v0], [.int .i64 x.f1, .int .i64 x.f2, .bool x.f3], rfl, ⟨v0, rfl, g0⟩, ⟨[.int .i64 x.f1], [.int .i64 x.f2, .bool x.f3], rfl, rfl, ⟨[.int .i64 x.f2], [.bool x.f3], rfl, rfl, rfl⟩⟩⟩
theorem kT_C {w : World} {A : Option Addr} {n : Nat} {xs : List S44} (h : Kd.C kT w A n xs) : Kd.C k44 w A n xs := h

section
variable {α : Type} {d : Kd α} {e e' : Nat} {w w1 W : World} {base : Nat} {ok : Nat → Prop} {u v v1 : Value} {xs : List α}
theorem QS_step (h : QS d e w base ok v xs) (hm : ∀ k, ok k → k < w.heap.size → w1.heap[k]? = w.heap[k]?) : QS d e w1 base ok v xs := QS_mono (QS_move (QS_bound h) (fun k hk => hm k hk.1 hk.2.2.1)) (fun _ hk => hk.1)
theorem QS_below (h : QS d e w base ok v xs) (hb : Below w.heap.size w w1) : QS d e w1 base ok v xs := QS_step h (fun k _ hk => hb.block k hk)
theorem QS_alloc (h : QS d e w base ok v xs) (o : Obj) : QS d e (w.alloc o) base ok v xs := QS_below h (below_alloc (Below.refl _ _) o)
theorem QS_drew (h : QS d e w base ok v xs) : QS d e w.drew base ok v xs := QS_below h (below_drew (Below.refl _ _))
theorem QS_far (h : QS d e w base ok v xs) {p : Addr} (hok : ∀ k, ok k → k ≠ p.block) (u : Value) : QS d e (w.setCell p u) base ok v xs := QS_step h (fun k ho _ => Below.heap_setCell w p u k (hok k ho))
theorem QS_types (h : QS d e w base ok v xs) {g t : Nat} {cells : Array Value} (hb : w.heap[g]? = some (.cells cells t (0, 0))) (ht : ∀ q, q ∈ e :: d.E → q ≠ t) : QS d e w base (fun k => ok k ∧ k ≠ g) v xs := by
  refine QS_mono (QS_bound h) (fun k hk => ⟨hk.1, fun he => ?_⟩)
  subst he
  obtain ⟨_, _, _, q, hq, cells', hc⟩ := hk
  rw [hb] at hc
  injection hc with hc
  injection hc with _ hc
  exact ht q hq hc.symm
theorem QS_over' (h : QS d e W base ok u xs) (hty : ∀ k, v.ownBlock = some k → ∃ cells, W.heap[k]? = some (.cells cells e' (0, 0))) (ht : ∀ q, q ∈ e :: d.E → q ≠ e') (hg : W.grownBy w1 v.ownBlock) : QS d e w1 base ok u xs := by
  refine QS_mono (QS_move (QS_bound h) (fun k hk => hg.block k hk.2.2.1 (fun he => ?_))) (fun _ hk => hk.1)
  obtain ⟨_, _, _, q, hq, cells, hc⟩ := hk
  obtain ⟨cells', hc'⟩ := hty k he.symm
  rw [hc] at hc'
  injection hc' with hc'
  injection hc' with _ hc'
  exact ht q hq hc'
/-- What a copy of a queue is: the same elements in a block of its own. -/
theorem QS_clone {A : Option Addr} {n c : Nat} (h : QS d e w base ok (.slice A n c) xs) :
    n = xs.length ∧ n ≤ c ∧ ∃ rows : List (List Value), rows.length = xs.length ∧ (Kd.raw d.sz).C w A rows.length rows ∧
      ∀ (w1 : World) (v1 : Value) (okn : Nat → Prop), (Kd.raw d.sz).R e w1 base okn v1 rows → (∀ k, k < w.heap.size → w1.heap[k]? = w.heap[k]?) → (∀ k, v1.ownBlock = some k → w.heap.size ≤ k) → Kd.S d e w1 base (fun k => ok k ∨ w.heap.size ≤ k) v1 xs := by
  have hr0 := QS_reads' h
  refine ⟨hr0.1, hr0.2.1, ?_⟩
  obtain ⟨f, off, h0, inner, hq, hr⟩ := h
  have hz : (xs.zipIdx off).length = xs.length := List.length_zipIdx
  have hraw : Reps (fun x cs => cs = x ∧ cs.length = d.sz ∧ ∀ u ∈ cs, u.oneCell' = true) d.sz (Kd.chunks d.sz (xs.zipIdx off).length inner) inner := Kd.reps_raw hr (fun x c hp => ⟨d.K_len (d.K_of_M hp), d.K_one (d.K_of_M hp)⟩)
  have hl : (Kd.chunks d.sz (xs.zipIdx off).length inner).length = xs.length := by rw [Kd.chunks_length, hz]
  have hqr : (Kd.raw d.sz).Q e w base ok (.slice A n c) (Kd.chunks d.sz (xs.zipIdx off).length inner) := ⟨h0, inner, by rw [Kd.chunks_length]; exact hq, hraw⟩
  refine ⟨_, hl, (Kd.Q_reads' hqr).2.2, fun w1 v1 okn hR hold hnew => ?_⟩
  obtain ⟨_, inner1, ho1, hr1⟩ := hR
  refine ⟨fun k => f k - off, fun k hk => .inr (hnew k hk), inner1, by rw [List.length_zipIdx, ← hl]; exact ho1, ?_, fun j p hj => ?_⟩
  · have := hr1.1
    rw [hl] at this
    rw [List.length_zipIdx]
    exact this
  · rw [List.getElem?_zipIdx] at hj
    obtain ⟨x, hx, rfl⟩ := Option.map_eq_some_iff.1 hj
    have hjl : j < xs.length := (List.getElem?_eq_some_iff.1 hx).1
    have hj2 : (xs.zipIdx off)[j]? = some (x, off + j) := by rw [List.getElem?_zipIdx, hx]; rfl
    have hM := hr.2 j _ hj2
    have hc : (Kd.chunks d.sz (xs.zipIdx off).length inner)[j]? = some ((inner.drop (j * d.sz)).take d.sz) := Kd.chunks_at (by rw [hz]; exact hjl)
    have he : (inner1.drop (j * d.sz)).take d.sz = (inner.drop (j * d.sz)).take d.sz := (hr1.2 j _ hc).1
    show d.M w1 base (fun k => ((ok k ∨ w.heap.size ≤ k) ∧ some k ≠ v1.ownBlock) ∧ f k - off = 0 + j) x ((inner1.drop (j * d.sz)).take d.sz)
    rw [he]
    have hM2 : d.M w base (fun k => (ok k ∧ some k ≠ (Value.slice A n c).ownBlock) ∧ f k = off + j) x ((inner.drop (j * d.sz)).take d.sz) := hM
    refine d.M_mono (fun k hk => ?_) (d.M_move (fun k hk => hold k hk.2.2.1) (d.M_bound hM2))
    refine ⟨⟨.inl hk.1.1.1, fun hb => ?_⟩, ?_⟩
    · have := hnew k hb.symm
      have := hk.2.2.1
      omega
    · show f k - off = 0 + j
      rw [hk.1.2]
      omega
end
/-- A row's numbers, all put back to nought. -/
theorem clear_cells {W : World} {base g n cap : Nat} {ok : Nat → Prop} : ∀ (k o : Nat) (W : World) (xs : List Int), o + k = n → Kd.R (Kd.int .i64) 3 W base ok (.slice (some ⟨g, 0, none⟩) n cap) xs →
    Kd.R (Kd.int .i64) 3 (W.setCells g o (List.replicate k (.int .i64 0))) base ok (.slice (some ⟨g, 0, none⟩) n cap) (xs.take o ++ List.replicate k 0) ∧ W.grownBy (W.setCells g o (List.replicate k (.int .i64 0))) (some g)
  | 0, o, W, xs, ho, h => by
    have hn := (Kd.R_reads' h).1
    refine ⟨?_, World.grownBy.refl _ _⟩
    rw [List.take_of_length_le (by omega)]
    simpa [World.setCells] using h
  | k + 1, o, W, xs, ho, h => by
    have hn := (Kd.R_reads' h).1
    have hp := Kd.R_putg h (o : Int) 0
    rw [Int.toNat_natCast] at hp
    have ih := clear_cells (W := W) k (o + 1) _ _ (by omega) hp.1
    rw [List.replicate_succ, World.setCells]
    refine ⟨?_, hp.2.trans ih.2⟩
    have e : xs.take o ++ List.replicate (k + 1) 0 = (xs.set o 0).take (o + 1) ++ List.replicate k 0 := by
      rw [List.take_add_one, List.take_set_of_le (Nat.le_refl _), List.getElem?_set_self (by omega), List.replicate_succ]
      simp
    rw [e]
    exact ih.1
theorem clear_ints {W : World} {base : Nat} {ok : Nat → Prop} {v : Value} {xs : List Int} (ty : TypeId) (h : Kd.R (Kd.int .i64) 3 W base ok v xs) :
    ∃ w1, (Builtin.clear_ #[23] ty #[v]).run Try.prog W = .ok (.tuple #[]) w1 ∧ Kd.R (Kd.int .i64) 3 w1 base ok v (List.replicate xs.length 0) ∧ W.grownBy w1 v.ownBlock := by
  by_cases hp : 0 < xs.length
  · obtain ⟨g, cap, rfl, _, _, _, hg⟩ := Kd.R_form h hp
    have hc := clear_cells (W := W) xs.length 0 W xs (by omega) h
    refine ⟨_, Lib.run_clear_slice W 23 3 ty (.int .i64 0) Try.underlying23 (fun w => by kernel_rfl) rfl rfl g 0 xs.length cap hp (fun j hj => ?_) (fun j _ => ?_), by simpa using hc.1, by simpa [Value.ownBlock] using hc.2⟩
    · have h1 := (Kd.R_celln 0 h (j : Int) (by omega) (by omega)).1
      rw [Int.toNat_natCast] at h1
      rw [Nat.zero_add, h1]
      rfl
    · rw [Nat.zero_add]
      exact blk_frozen hg j
  · have hx : xs = [] := List.length_eq_zero_iff.1 (by omega)
    subst hx
    obtain ⟨A, c, rfl⟩ := Kd.R_slice h
    refine ⟨W, ?_, h, World.grownBy.refl _ _⟩
    have hv : ∀ w, (zeroValue 3).run Try.prog w = .ok (.int .i64 0) w := fun w => by kernel_rfl
    cases A <;> simp [Builtin.clear_, run_underlying Try.underlying23, hv]
theorem C_one {w : World} {g : Nat} {x : Int} (h : w.heap[g]? = some (.cells #[.int .i64 x] 3 (0, 0))) : Kd.C (Kd.int .i64) w (some ⟨g, 0, none⟩) 1 [x] := by
  refine ⟨rfl, by decide, fun _ => ⟨_, rfl, fun j p hj => ?_⟩⟩
  have hj0 : j = 0 := by have := (List.getElem?_eq_some_iff.1 hj).1; simpa using this
  subst hj0
  have hp : x = p := by simpa using hj
  subst hp
  refine ⟨[.int .i64 x], rfl, rfl, fun i u hi => ?_⟩
  have hi0 : i = 0 := by have := (List.getElem?_eq_some_iff.1 hi).1; simpa using this
  subst hi0
  have hu : u = .int .i64 x := by simpa using hi.symm
  subst hu
  exact (blk_cell h 0).trans rfl
/-- What stands while the two lists grow (the round's memory). -/
def G30 (base : Nat) (w0 : World) (gb : Nat) (cs : Array Value) (ve vo vs vq : Value) (xe : List S44) (xo : List S53) (xs : List Int) (xq : List S49) (w : World) (vw vi : Value) (xw xi : List Int) : Prop :=
  Kd.S kT 44 w base (fun k => k ≠ gb) ve xe ∧ Kd.R k53 53 w base (fun _ => True) vo xo ∧ Kd.R (Kd.int .i64) 3 w base (fun k => some k ≠ vw.ownBlock ∧ some k ≠ vi.ownBlock) vs xs ∧
  Kd.R (Kd.int .i64) 3 w base (fun k => some k ≠ vs.ownBlock ∧ some k ≠ vi.ownBlock) vw xw ∧ Kd.R (Kd.int .i64) 3 w base (fun k => some k ≠ vs.ownBlock ∧ some k ≠ vw.ownBlock) vi xi ∧
  (∃ ok, QS k49 49 w base ok vq xq) ∧ w.heap[gb]? = some (.cells cs 44 (0, 0)) ∧ Below base w0 w ∧ base ≤ w.heap.size
section
variable {base g o n c : Nat} {w0 : World} {gb : Nat} {cs : Array Value} {ve vo vs vq : Value} {xe : List S44} {xo : List S53} {xs : List Int} {xq : List S49} {w w1 : World} {vw vi v1 : Value} {xw xi ys : List Int}
theorem G30.swap (h : G30 base w0 gb cs ve vo vs vq xe xo xs xq w vw vi xw xi) : G30 base w0 gb cs ve vo vs vq xe xo xs xq w vi vw xi xw :=
  ⟨h.1, h.2.1, Kd.R_mono h.2.2.1 (fun _ hk => ⟨hk.2, hk.1⟩), h.2.2.2.2.1, h.2.2.2.1, h.2.2.2.2.2⟩
theorem G30.alloc (h : G30 base w0 gb cs ve vo vs vq xe xo xs xq w vw vi xw xi) (o : Obj) : G30 base w0 gb cs ve vo vs vq xe xo xs xq (w.alloc o) vw vi xw xi := by
  obtain ⟨h1, h2, h3, h4, h5, ⟨ok, h6⟩, h7, h8, h9⟩ := h
  exact ⟨Kd.S_alloc h1 o, Kd.R_alloc h2 o, Kd.R_alloc h3 o, Kd.R_alloc h4 o, Kd.R_alloc h5 o, ⟨ok, QS_alloc h6 o⟩, blk_alloc h7 o, h8.alloc h9 o, Nat.le_trans h9 (below_alloc (Below.refl w.heap.size w) o).size⟩
theorem G30.put (h : G30 base w0 gb cs ve vo vs vq xe xo xs xq w vw vi xw xi) (ho : Kd.R (Kd.int .i64) 3 w1 base (fun k => some k ≠ vs.ownBlock ∧ some k ≠ vi.ownBlock) v1 ys) (hb : Below base w0 w1) (hg : w.grownBy w1 vw.ownBlock) (hat : v1.ownBlock = vw.ownBlock ∨ ∃ b, v1.ownBlock = some b ∧ w.heap.size ≤ b) :
    G30 base w0 gb cs ve vo vs vq xe xo xs xq w1 v1 vi ys xi := by
  obtain ⟨h1, h2, h3, h4, h5, ⟨ok, h6⟩, h7, h8, h9⟩ := h
  exact ⟨Kd.S_over' h1 (Kd.R_typed h4) (by decide) hg, Kd.R_over' h2 (Kd.R_typed h4) (by decide) hg, Kd.R_mono (Kd.R_after (ok := fun k => some k ≠ vi.ownBlock) (Kd.R_mono h3 (fun _ hk => ⟨hk.2, hk.1⟩)) hg hat) (fun _ hk => ⟨hk.2, hk.1⟩), ho,
    Kd.R_after (ok := fun k => some k ≠ vs.ownBlock) h5 hg hat, ⟨ok, QS_over' h6 (Kd.R_typed h4) (by decide) hg⟩, blk_grown h7 hg (Kd.R_ne h4 h7 (by decide)), hb, Nat.le_trans h9 hg.size⟩
/-- Where the first frame's number stands. -/
theorem G30.first (h : G30 base w0 gb cs ve vo vs (.slice (some ⟨g, o, none⟩) n c) xe xo xs xq w vw vi xw xi) (hn : 0 < xq.length) : w.cell? ⟨g, o, none⟩ = some (.int .i64 ((rd_T49 xq 0).f0)) := by
  obtain ⟨_, _, _, _, _, ⟨ok, h6⟩, _, _, _⟩ := h
  obtain ⟨ad, A, c', e, h0, _⟩ := at_T49 (QS_reads' h6).2.2 0 (by omega) (by omega)
  cases e
  simpa [Addr.add] using h0
theorem G30.apart (h : G30 base w0 gb cs ve vo vs vq xe xo xs xq w vw vi xw xi) : some w.heap.size ≠ vw.ownBlock := by
  intro he
  have := Kd.R_lt h.2.2.2.1 _ he.symm
  omega
end
theorem QS_at {α : Type} {d : Kd α} {e base n c : Nat} {w : World} {ok : Nat → Prop} {A : Option Addr} {xs : List α} (h : QS d e w base ok (.slice A n c) xs) (hp : 0 < xs.length) : ∃ g o, A = some ⟨g, o, none⟩ := by
  obtain ⟨f, off, _, inner, hq, _⟩ := h
  rcases hq.2 with ⟨h0, _⟩ | ⟨g, o, _, _, hv, _⟩
  · rw [List.length_zipIdx] at h0
    omega
  · injection hv with ha _ _
    exact ⟨g, _, ha⟩
theorem G30.drew {base : Nat} {w0 : World} {gb : Nat} {cs : Array Value} {ve vo vs vq : Value} {xe : List S44} {xo : List S53} {xs : List Int} {xq : List S49} {w : World} {vw vi : Value} {xw xi : List Int} (h : G30 base w0 gb cs ve vo vs vq xe xo xs xq w vw vi xw xi) : G30 base w0 gb cs ve vo vs vq xe xo xs xq w.drew vw vi xw xi := by
  obtain ⟨h1, h2, h3, h4, h5, ⟨ok, h6⟩, h7, h8, h9⟩ := h
  exact ⟨Kd.S_drew h1, Kd.R_drew h2, Kd.R_drew h3, Kd.R_drew h4, Kd.R_drew h5, ⟨ok, QS_drew h6⟩, blk_drew h7, below_drew h8, h9⟩
abbrev G30.on {base : Nat} {w0 : World} {gb : Nat} {cs : Array Value} {ve vo vs vq : Value} {xe : List S44} {xo : List S53} {xs : List Int} {xq : List S49} {w : World} {vw vi : Value} {xw xi : List Int} (_h : G30 base w0 gb cs ve vo vs vq xe xo xs xq w vw vi xw xi) (w' : World) (vw' vi' : Value) (xw' xi' : List Int) : Prop := G30 base w0 gb cs ve vo vs vq xe xo xs xq w' vw' vi' xw' xi'
theorem G30.mk {base : Nat} {w0 : World} {gb : Nat} {cs : Array Value} {ve vo vs vq : Value} {xe : List S44} {xo : List S53} {xs : List Int} {xq : List S49} {w : World} {vw vi : Value} {xw xi : List Int} {okq : Nat → Prop} (h1 : Kd.S kT 44 w base (fun k => k ≠ gb) ve xe) (h2 : Kd.R k53 53 w base (fun _ => True) vo xo) (h3 : Kd.R (Kd.int .i64) 3 w base (fun k => some k ≠ vw.ownBlock ∧ some k ≠ vi.ownBlock) vs xs)
    (h4 : Kd.R (Kd.int .i64) 3 w base (fun k => some k ≠ vs.ownBlock ∧ some k ≠ vi.ownBlock) vw xw) (h5 : Kd.R (Kd.int .i64) 3 w base (fun k => some k ≠ vs.ownBlock ∧ some k ≠ vw.ownBlock) vi xi) (h6 : QS k49 49 w base okq vq xq) (h7 : w.heap[gb]? = some (.cells cs 44 (0, 0))) (h8 : Below base w0 w) (h9 : base ≤ w.heap.size) :
    G30 base w0 gb cs ve vo vs vq xe xo xs xq w vw vi xw xi := ⟨h1, h2, h3, h4, h5, ⟨okq, h6⟩, h7, h8, h9⟩
/-- The cells of the element that is lent. -/
theorem H_cells {α : Type} {d : Kd α} {e base g n cap : Nat} {W : World} {ok oki : Nat → Prop} {xs : List α} {i : Int} {c : List Value} (h : Kd.H d e W base ok (.slice (some ⟨g, 0, none⟩) n cap) xs i oki c) (h0 : 0 ≤ i) (h1 : i < n) :
    (∀ j u, c[j]? = some u → W.cell? ⟨g, i.toNat * d.sz + j, none⟩ = some u) ∧ (∀ j, W.frozen? ⟨g, j, none⟩ = false) := by
  obtain ⟨rows, hl, hR, hc, hone, hcell, _⟩ := Kd.H_raw h h0 h1
  refine ⟨hcell, fun j => ?_⟩
  have hn := (Kd.R_reads' hR).1
  obtain ⟨g', cap', e', _, _, cells, hg⟩ := Kd.R_form hR (by omega)
  cases e'
  exact blk_frozen hg j
theorem QS_grown {α : Type} {d : Kd α} {e base : Nat} {w w1 : World} {ok : Nat → Prop} {v : Value} {xs : List α} (h : QS d e w base ok v xs) {row : Option Nat} (hg : w.grownBy w1 row) (hok : ∀ k, ok k → some k ≠ row) : QS d e w1 base ok v xs := QS_step h (fun k ho hk => hg.block k hk (hok k ho))
/-- What a sent frame leaves of its talker; what a spoilt one leaves. -/
abbrev busGood (x : S44) : S44 := ⟨x.f0.drop 1, x.f1, (if wrap64 (x.f2 - 1) < 0 then 0 else wrap64 (x.f2 - 1)), x.f3⟩
abbrev busBad (x : S44) : S44 := ⟨x.f0, x.f1, (if 255 < wrap64 (x.f2 + 8) then 255 else wrap64 (x.f2 + 8)), ((if 255 < wrap64 (x.f2 + 8) then 255 else wrap64 (x.f2 + 8)) == 255)⟩
/-- A talker whose frames stand in a block of their own (true), or are a queue (false). -/
def kB : Kd (Bool × S44) where
  sz := k44.sz
  E := k44.E
  K := fun w x cs => k44.K w x.2 cs
  M := fun w base ok x cs => match x.1 with | true => k44.M w base ok x.2 cs | false => kT.M w base ok x.2 cs
  K_len := fun h => k44.K_len h
  K_one := fun h => k44.K_one h
  K_below := fun hb h => k44.K_below hb h
  K_of_M := by
    rintro w base ok ⟨_ | _, x⟩ cs h
    · exact kT.K_of_M h
    · exact k44.K_of_M h
  M_mono := by
    rintro w base ok ok' ⟨_ | _, x⟩ cs hok h
    · exact kT.M_mono hok h
    · exact k44.M_mono hok h
  M_bound := by
    rintro w base ok ⟨_ | _, x⟩ cs h
    · exact kT.M_bound h
    · exact k44.M_bound h
  M_move := by
    rintro w w1 base ok ⟨_ | _, x⟩ cs hm h
    · exact kT.M_move hm h
    · exact k44.M_move hm h
  M_lower := by
    rintro w base base' ok ⟨_ | _, x⟩ cs hb h
    · exact kT.M_lower hb h
    · exact k44.M_lower hb h
def marks (m : Nat) (xs : List S44) : List (Bool × S44) := xs.zipIdx.map (fun p => (decide (p.2 < m), p.1))
theorem marks_length (m : Nat) (xs : List S44) : (marks m xs).length = xs.length := by simp [marks]
theorem marks_at (m : Nat) (xs : List S44) (j : Nat) : (marks m xs)[j]? = xs[j]?.map (fun x => (decide (j < m), x)) := by
  simp only [marks, List.getElem?_map, List.getElem?_zipIdx, Option.map_map]
  congr 1
  funext x
  simp
/-- The same row in another kind, told element by element. -/
theorem S_conv {α β : Type} {d : Kd α} {d' : Kd β} {e base : Nat} {w : World} {ok : Nat → Prop} {v : Value} {xs : List α} {ys : List β} (h : Kd.S d e w base ok v xs) (hs : d.sz = d'.sz) (hl : xs.length = ys.length) (hM : ∀ (j : Nat) (x : α) (y : β), xs[j]? = some x → ys[j]? = some y → ∀ o c, d.M w base o x c → d'.M w base o y c) : Kd.S d' e w base ok v ys := by
  obtain ⟨f, h0, inner, ho, hr⟩ := h
  refine ⟨f, h0, inner, ?_, ?_, fun j p hj => ?_⟩
  · rw [List.length_zipIdx, ← hl]
    rw [List.length_zipIdx] at ho
    have e1 : (Kd.tag f d').sz = (Kd.tag f d).sz := hs.symm
    rw [e1]
    exact ho
  · have := hr.1
    rw [List.length_zipIdx] at this
    rw [List.length_zipIdx, ← hl]
    have e1 : (Kd.tag f d').sz = (Kd.tag f d).sz := hs.symm
    rw [e1]
    exact this
  · rw [List.getElem?_zipIdx, Nat.zero_add] at hj
    obtain ⟨y, hy, rfl⟩ := Option.map_eq_some_iff.1 hj
    have hjl : j < xs.length := by have := (List.getElem?_eq_some_iff.1 hy).1; omega
    have hx := List.getElem?_eq_getElem hjl
    have h2 := hr.2 j _ (Kd.zip_at hx)
    have e1 : (Kd.tag f d').sz = (Kd.tag f d).sz := hs.symm
    rw [e1]
    exact hM j _ y hx hy _ _ h2
theorem kB_start {base : Nat} {w : World} {ok : Nat → Prop} {v : Value} {xs : List S44} (h : Kd.S kT 44 w base ok v xs) : Kd.S kB 44 w base ok v (marks 0 xs) :=
  S_conv h rfl (marks_length 0 xs).symm (fun j x y hx hy o c hM => by
    rw [marks_at, hx] at hy
    obtain rfl := Option.some.inj hy
    exact hM)
theorem kB_end {base m : Nat} {w : World} {ok : Nat → Prop} {v : Value} {xs : List S44} (h : Kd.S kB 44 w base ok v (marks m xs)) (hm : xs.length ≤ m) : Kd.S k44 44 w base ok v xs :=
  S_conv h rfl (marks_length m xs) (fun j x y hx hy o c hM => by
    have hj := (List.getElem?_eq_some_iff.1 hy).1
    rw [marks_at, hy] at hx
    obtain rfl := Option.some.inj hx
    simp only [kB, show (decide (j < m)) = true from decide_eq_true (by omega)] at hM
    exact hM)
theorem marks_get (xs : List S44) (i : Int) (h0 : 0 ≤ i) (h1 : i < xs.length) (z : Bool × S44) : (marks i.toNat xs).getD i.toNat z = (false, rd_T44 xs i) := by
  have hx := List.getElem?_eq_getElem (show i.toNat < xs.length by omega)
  rw [List.getD_eq_getElem?_getD, marks_at, hx]
  simp [rd_T44, List.getD_eq_getElem?_getD, hx]
theorem marks_set (xs : List S44) (i : Int) (h0 : 0 ≤ i) (h1 : i < xs.length) : (marks i.toNat xs).set i.toNat (true, rd_T44 xs i) = marks (i.toNat + 1) xs := by
  apply List.ext_getElem?
  intro j
  rw [marks_at]
  by_cases hj : j = i.toNat
  · subst hj
    rw [List.getElem?_set_self (by rw [marks_length]; omega), List.getElem?_eq_getElem (show i.toNat < xs.length by omega)]
    simp [rd_T44, List.getD_eq_getElem?_getD, List.getElem?_eq_getElem (show i.toNat < xs.length by omega)]
  · rw [List.getElem?_set_ne (Ne.symm hj), marks_at]
    congr 1
    funext x
    congr 1
    exact decide_eq_decide.2 (by omega)
set_option maxHeartbeats 8000000 in
set_option maxRecDepth 100000 in
/-- slices.Clone of a queue of frames: the same frames in a block of their own. -/
theorem clone_frames {A : Option Addr} {n c base : Nat} {ok : Nat → Prop} {xs : List S49} (w : World) (h : QS k49 49 w base ok (.slice A n c) xs) (hn : xs.length < 4398046511104) (hbase : base ≤ w.heap.size) :
    Calls Try.prog 27 #[.slice A n c] w fun e w' => ∃ v0_ : Value, e = .returned (v0_) ∧ Kd.S k49 49 w' base (fun k_ => ok k_ ∨ w.heap.size ≤ k_) v0_ xs ∧ Below w.heap.size w w' := by
  obtain ⟨rfl, hnc, rows, hrl, hC, hfin⟩ := QS_clone h
  by_cases hA_ : A = none
  · subst hA_
    have hl_ : xs = [] := by
      by_cases hz : 0 < xs.length
      · obtain ⟨g, o, he⟩ := QS_at h hz
        cases he
      · exact List.length_eq_zero_iff.1 (by omega)
    subst hl_
    have hq_ : ∀ (w : World), (binOp .eql 42 (.slice none 0 c) (.slice none 0 0)).run Try.prog w = .ok (.bool true) w := fun w => Go.Lib.run_eql_slice_nil w 42 _ _ _ _ 0 0 Try.underlying42
    show Calls Try.prog 27 #[.slice none 0 c] w _
    go_enter Try.func27, Try.ntmps27
    go_wp2
    go_ret
    exact ⟨_, rfl, Kd.S_nil _ _ _ _ _, Below.refl _ _⟩
  obtain ⟨a0_, rfl⟩ : ∃ a_, A = some a_ := by
    cases A with
    | none => exact absurd rfl hA_
    | some a => exact ⟨a, rfl⟩
  clear hA_ h
  have hq_ : ∀ (w : World), (binOp .eql 42 (.slice (some a0_) xs.length c) (.slice none 0 0)).run Try.prog w = .ok (.bool false) w := fun w => Go.Lib.run_eql_slice_nil w 42 _ _ _ _ 0 0 Try.underlying42
  have HR0 := Aside0.mk (show Kd.C (Kd.raw 2) w (some a0_) xs.length rows from by rw [← hrl]; exact hC)
  have HF := Aside0.mk hfin
  have LM := Aside0.mk hn
  have HL := Aside0.mk hrl
  have HW := Aside0.mk hbase
  clear hC hfin hn hrl hbase
  have HB := Aside0.mk (Below.refl w.heap.size w)
  go_enter Try.func27, Try.ntmps27
  go_wp2_with (first | ((with_reducible refine gate_dst (N := 5) rfl ?_); refine Kd.R_lit (Kd.raw 2) _ 49 ?hg (N := 5) ?hd (xs := ([] : List (List Value))) (inner := []) (ok := fun _ => True) (okp := fun _ => True) ?hr ?hp (fun _ hk => hk) trivial (Below.refl _ _) (Nat.le_refl _) (by simp) ?_; (case hd => rfl); (case hg => rfl); (case hr => first | (go_simp; done) | (go_simp; rfl)); (case hp => exact (Reps.none _ _)); intro v247 w3 ho4 hb hg_ hnew_; have HV := Aside0.mk hnew_; clear hg_ hnew_; have n0_ := Aside0.mk (Kd.R_lower ho4 (below_size HB.out)); have n1_ := Aside0.mk (below_step HB.out hb); clear HB; have HO248 := n0_; have HB := n1_; clear n0_ n1_; clear hb ho4) | ((with_reducible refine gate_builtin (b := .append) (xs := #[.tmp 5, .tmp 6]) rfl ?_); at_builtin; refine Kd.R_append_rows (Kd.raw 2) (w0 := w) w.heap.size rfl (.tmp 5) (.tmp 6) 42 49 (.agg #[(.int .i64 0), (.slice none 0 0)]) 32 rfl Try.underlying42 info49 rfl (by decide) (by omega) v247 ([] : List (List Value)) rows _ _ _ (fun _ => True) (fun _ => False) rfl rfl ?aO ?aR (fun _ _ h => h) (fun _ h => h.elim) ?aF ?aB ?aS ?aL ?_; (case aR => exact (Kd.C_below HR0.out HB.out)); (case aB => exact HB.out); (case aF => exact (fun _ _ => trivial)); (case aO => exact HO248.out); (case aS => exact (below_size HB.out)); (case aL => have := LM.out; simp only [List.length_nil]; omega); intro v250 w5 ho hb hg hat; have n0_ := Aside0.mk (hb); have n1_ := Aside0.mk (ho); clear HB; clear HO248; have HB := n0_; have HO251 := n1_; clear n0_ n1_; clear ho hb hg hat))
  go_ret
  refine ⟨_, by first | rfl | (simp [errW_none, errW_some] <;> rfl) | (simp [*, errW_none, errW_some] <;> rfl), ?_, HB.out⟩
  have ho := HO251.out
  rw [List.nil_append] at ho
  exact HF.out _ _ _ (Kd.R_lower ho HW.out) (fun k hk => HB.out.block k hk) (fun k hk => Kd.R_base ho k hk)

end Go.Proofs.Ytdiibgbekjlmlaa.PFnExactRunBus
