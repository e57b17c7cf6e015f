-- My own: a map literal of maps (map[string]map[int]int), made in one call, and the look-ups in it.
import Derived.Maps.OwnOps
import Derived.Test.YtglllkbebnlnmaaQFnModesx0
namespace Go.Proofs.Ytglllkbebnlnmaa.PFnModes
open Go.RowKit Go.Proofs.YtglllkbebnlnmaaW.PrintWords Go.Proofs.YtglllkbebnlnmaaW.PrintLast Go.Proofs.YtglllkbebnlnmaaW.PrintMore
open Go.Instr Go.MapKept
set_option linter.unusedVariables false
set_option linter.unusedSimpArgs false

/-- The entries of a map of numbers. -/
def eI : List (Int × Int) → Nat → List MapEntry
  | [], _ => []
  | p :: r, i => ⟨.int .i64 p.1, .int .i64 p.2, i⟩ :: eI r (i + 1)
/-- The entries of the outer map: the inner maps lie behind it, in order. -/
def eO (g : Nat) : List (List UInt8) → Nat → List MapEntry
  | [], _ => []
  | s :: r, i => ⟨.string ⟨s.toArray⟩, .map (some (g + 1 + i)), i⟩ :: eO g r (i + 1)
theorem eI_app (x : List (Int × Int)) (p : Int × Int) : ∀ i, eI (x ++ [p]) i = eI x i ++ [⟨.int .i64 p.1, .int .i64 p.2, i + x.length⟩] := by
  induction x with
  | nil => intro i; simp [eI]
  | cons y r ih => intro i; simp [eI, ih, Nat.add_comm, Nat.add_left_comm]
theorem eO_app (g : Nat) (x : List (List UInt8)) (s : List UInt8) : ∀ i, eO g (x ++ [s]) i = eO g x i ++ [⟨.string ⟨s.toArray⟩, .map (some (g + 1 + (i + x.length))), i + x.length⟩] := by
  induction x with
  | nil => intro i; simp [eO]
  | cons y r ih => intro i; simp [eO, ih, Nat.add_comm, Nat.add_left_comm]
theorem eI_len (x : List (Int × Int)) : ∀ i, (eI x i).length = x.length := by
  induction x with
  | nil => intro i; rfl
  | cons y r ih => intro i; simp [eI, ih]
def inn (x : List (Int × Int)) : Obj := .map (eI x 0).toArray x.length
def out (g : Nat) (ks : List (List UInt8)) : Obj := .map (eO g ks 0).toArray ks.length

/-- What a key finds. -/
def hit (x : List (Int × Int)) (k : Int) : Option Int := match x with
  | [] => none
  | p :: r => if k = p.1 then some p.2 else hit r k
def idx (ks : List (List UInt8)) (s : ByteArray) : Option Nat := match ks with
  | [] => none
  | t :: r => if s.data.toList = t then some 0 else (idx r s).map (· + 1)

theorem ba_eq (s : ByteArray) (t : List UInt8) : s = ⟨t.toArray⟩ ↔ s.data.toList = t := by
  constructor
  · rintro rfl; simp
  · intro h; cases s; simp at h; subst h; simp

theorem findNow_I (k : Int) (x : List (Int × Int)) : ∀ i j, ∃ n, findNow (.int .i64) (.int .i64 k) (eI x i) j = some ((hit x k).map fun v => (n, .int .i64 v)) := by
  induction x with
  | nil => intro i j; exact ⟨0, rfl⟩
  | cons p r ih =>
    intro i j
    by_cases h : k = p.1
    · exact ⟨j, by simp [eI, findNow, sameNow, hit, h]⟩
    · obtain ⟨n, hn⟩ := ih (i + 1) (j + 1)
      refine ⟨n, ?_⟩
      simp only [eI, findNow, sameNow, hit, if_neg h, if_true]
      rw [show (k == p.1) = false from beq_eq_false_iff_ne.mpr h]
      exact hn
theorem findNow_O (g : Nat) (s : ByteArray) (x : List (List UInt8)) : ∀ i j, ∃ n, findNow .string (.string s) (eO g x i) j = some ((idx x s).map fun v => (n, .map (some (g + 1 + (i + v))))) := by
  induction x with
  | nil => intro i j; exact ⟨0, rfl⟩
  | cons p r ih =>
    intro i j
    by_cases h : s.data.toList = p
    · refine ⟨j, ?_⟩
      simp only [eO, findNow, sameNow, idx, if_pos h]
      rw [(bytes_beq s (⟨p.toArray⟩ : ByteArray)).2 ((ba_eq s p).2 h)]
      rfl
    · have h' : ¬ s = ⟨p.toArray⟩ := fun e => h ((ba_eq s p).1 e)
      obtain ⟨n, hn⟩ := ih (i + 1) (j + 1)
      refine ⟨n, ?_⟩
      simp only [eO, findNow, sameNow, idx, if_neg h]
      rw [show (s == (⟨p.toArray⟩ : ByteArray)) = false from Bool.eq_false_iff.mpr (fun e => h' ((bytes_beq _ _).1 e))]
      simp only [hn]
      cases idx r s with
      | none => rfl
      | some v => simp [Nat.add_comm, Nat.add_left_comm]

/-- A world with some blocks more. -/
def pw (w : World) (l : List Obj) : World := { w with heap := w.heap ++ l.toArray }
theorem pw_nil (w : World) : pw w [] = w := by simp [pw]
theorem pw_alloc (w : World) (l : List Obj) (o : Obj) : (pw w l).alloc o = pw w (l ++ [o]) := by
  simp [pw, World.alloc]
theorem pw_size (w : World) (l : List Obj) : (pw w l).heap.size = w.heap.size + l.length := by simp [pw]
theorem pw_at (w : World) (l : List Obj) (i : Nat) : (pw w l).heap[w.heap.size + i]? = l[i]? := by
  simp only [pw, Array.getElem?_append]
  rw [if_neg (by omega)]
  simp
theorem pw_set (w : World) (l : List Obj) (i : Nat) (o : Obj) : Go.ChangeMaps.setBlock (pw w l) (w.heap.size + i) o = pw w (l.set i o) := by
  simp [Go.ChangeMaps.setBlock, pw, Array.setIfInBounds_append_right]
theorem pw_below {w0 w : World} (h : Below w0.heap.size w0 w) (l : List Obj) : Below w0.heap.size w0 (pw w l) := by
  have e : ∀ l : List Obj, Below w0.heap.size w0 (pw w l.reverse) := by
    intro l
    induction l with
    | nil => rw [List.reverse_nil, pw_nil]; exact h
    | cons o r ih => rw [List.reverse_cons, ← pw_alloc]; exact below_alloc ih o
  have := e l.reverse
  rwa [List.reverse_reverse] at this

/-- The literal, as far as it is made. -/
def St (g : Nat) (ks : List (List UInt8)) (xs : List (List (Int × Int))) : List Obj := out g ks :: xs.map inn

theorem run_first (t : TypeId) (w : World) : (makeMap t none).run Try.prog w = .ok (.map (some w.heap.size)) (pw w (St w.heap.size [] [])) := by
  rw [run_makeMap]
  conv => lhs; rw [← pw_nil w]
  rw [pw_alloc, pw_nil]
  rfl
theorem run_next (t : TypeId) (w : World) (ks : List (List UInt8)) (xs : List (List (Int × Int))) :
    (makeMap t none).run Try.prog (pw w (St w.heap.size ks xs)) = .ok (.map (some (w.heap.size + 1 + xs.length))) (pw w (St w.heap.size ks (xs ++ [[]]))) := by
  rw [run_makeMap, pw_alloc, pw_size]
  simp [St, inn, eI, Nat.add_comm, Nat.add_left_comm]

theorem run_int (w : World) (ks : List (List UInt8)) (xs : List (List (Int × Int))) (x : List (Int × Int)) (k v : Int) (hf : hit x k = none) :
    (mapUpdate 61 (.map (some (w.heap.size + 1 + xs.length))) (.int .i64 k) (.int .i64 v)).run Try.prog (pw w (St w.heap.size ks (xs ++ [x])))
      = .ok () (pw w (St w.heap.size ks (xs ++ [x ++ [(k, v)]]))) := by
  have hb : (pw w (St w.heap.size ks (xs ++ [x]))).heap[w.heap.size + 1 + xs.length]? = some (.map (eI x 0).toArray x.length) := by
    rw [Nat.add_assoc, pw_at]
    simp [St, inn, Nat.add_comm 1]
  have hset := pw_set w (St w.heap.size ks (xs ++ [x])) (1 + xs.length) (inn (x ++ [(k, v)]))
  obtain ⟨n, hn⟩ := findNow_I k x 0 0
  rw [hf] at hn
  have hfk := run_findKey (P := Try.prog) (w := pw w (St w.heap.size ks (xs ++ [x]))) Try.underlying3 hn
  have hck := run_checkKey (P := Try.prog) (w := pw w (St w.heap.size ks (xs ++ [x]))) Try.underlying3 (d := .int .i64) (k := .int .i64 k) (by simp [IsKey]) false 9999
  simp [mapUpdate, run_underlying Try.underlying61, MapKept.run_getObj_map hb, hck, hfk, MapKept.run_setObj_map _ hb, Result.andThen]
  have e : inn (x ++ [(k, v)]) = .map (eI x 0 ++ [(⟨.int .i64 k, .int .i64 v, x.length⟩ : MapEntry)]).toArray (x.length + 1) := by
    simp [inn, eI_app]
  rw [← e, Nat.add_assoc]
  refine Eq.trans (show _ = Go.ChangeMaps.setBlock (pw w (St w.heap.size ks (xs ++ [x]))) (w.heap.size + (1 + xs.length)) (inn (x ++ [(k, v)])) from rfl) (hset.trans ?_)
  simp [St, Nat.add_comm 1]

theorem run_str (w : World) (ks : List (List UInt8)) (xs : List (List (Int × Int))) (s : List UInt8) (hf : idx ks ⟨s.toArray⟩ = none) :
    (mapUpdate 62 (.map (some w.heap.size)) (.string ⟨s.toArray⟩) (.map (some (w.heap.size + 1 + ks.length)))).run Try.prog (pw w (St w.heap.size ks xs))
      = .ok () (pw w (St w.heap.size (ks ++ [s]) xs)) := by
  have hb : (pw w (St w.heap.size ks xs)).heap[w.heap.size]? = some (.map (eO w.heap.size ks 0).toArray ks.length) := by
    have := pw_at w (St w.heap.size ks xs) 0
    rw [Nat.add_zero] at this
    rw [this]; rfl
  have hset := pw_set w (St w.heap.size ks xs) 0 (out w.heap.size (ks ++ [s]))
  rw [Nat.add_zero] at hset
  obtain ⟨n, hn⟩ := findNow_O w.heap.size ⟨s.toArray⟩ ks 0 0
  rw [hf] at hn
  have hfk := run_findKey (P := Try.prog) (w := pw w (St w.heap.size ks xs)) Try.underlying9 hn
  have hck := run_checkKey (P := Try.prog) (w := pw w (St w.heap.size ks xs)) Try.underlying9 (d := .string) (k := .string ⟨s.toArray⟩) trivial false 9999
  simp [mapUpdate, run_underlying Try.underlying62, MapKept.run_getObj_map hb, hck, hfk, MapKept.run_setObj_map _ hb, Result.andThen]
  have e : out w.heap.size (ks ++ [s]) = .map (eO w.heap.size ks 0 ++ [(⟨.string ⟨s.toArray⟩, .map (some (w.heap.size + 1 + ks.length)), ks.length⟩ : MapEntry)]).toArray (ks.length + 1) := by
    simp [out, eO_app]
  rw [← e]
  refine Eq.trans (show _ = Go.ChangeMaps.setBlock (pw w (St w.heap.size ks xs)) w.heap.size (out w.heap.size (ks ++ [s])) from rfl) (hset.trans ?_)
  rfl

theorem look_str (w : World) (ks : List (List UInt8)) (xs : List (List (Int × Int))) (s : ByteArray) :
    (lookup 62 (.map (some w.heap.size)) (.string s) false).run Try.prog (pw w (St w.heap.size ks xs)) = .ok (.map ((idx ks s).map fun i => w.heap.size + 1 + i)) (pw w (St w.heap.size ks xs)) := by
  have hb : (pw w (St w.heap.size ks xs)).heap[w.heap.size]? = some (.map (eO w.heap.size ks 0).toArray ks.length) := by
    have := pw_at w (St w.heap.size ks xs) 0
    rw [Nat.add_zero] at this
    rw [this]; rfl
  obtain ⟨n, hn⟩ := findNow_O w.heap.size s ks 0 0
  have hfk := run_findKey (P := Try.prog) (w := pw w (St w.heap.size ks xs)) Try.underlying9 hn
  have hck := fun em => run_checkKey (P := Try.prog) (w := pw w (St w.heap.size ks xs)) Try.underlying9 (d := .string) (k := .string s) trivial em 9999
  have hz : (zeroValue 61).run Try.prog (pw w (St w.heap.size ks xs)) = .ok (.map none) (pw w (St w.heap.size ks xs)) := by kernel_rfl
  cases h : idx ks s with
  | none => rw [h] at hfk; simp [lookup, run_underlying Try.underlying62, MapKept.run_getObj_map hb, hck, hfk, hz, Result.andThen]
  | some i => rw [h] at hfk; simp [lookup, run_underlying Try.underlying62, MapKept.run_getObj_map hb, hck, hfk, hz, Result.andThen]

theorem look_int (w : World) (ks : List (List UInt8)) (xs : List (List (Int × Int))) (i : Nat) (x : List (Int × Int)) (hi : xs[i]? = some x) (k : Int) :
    (lookup 61 (.map (some (w.heap.size + 1 + i))) (.int .i64 k) true).run Try.prog (pw w (St w.heap.size ks xs)) = .ok (.tuple #[.int .i64 ((hit x k).getD 0), .bool (hit x k).isSome]) (pw w (St w.heap.size ks xs)) := by
  have hb : (pw w (St w.heap.size ks xs)).heap[w.heap.size + 1 + i]? = some (.map (eI x 0).toArray x.length) := by
    rw [Nat.add_assoc, pw_at]
    simp [St, hi, inn, Nat.add_comm 1]
  obtain ⟨n, hn⟩ := findNow_I k x 0 0
  have hfk := run_findKey (P := Try.prog) (w := pw w (St w.heap.size ks xs)) Try.underlying3 hn
  have hck := fun em => run_checkKey (P := Try.prog) (w := pw w (St w.heap.size ks xs)) Try.underlying3 (d := .int .i64) (k := .int .i64 k) (by simp [IsKey]) em 9999
  have hz : (zeroValue 3).run Try.prog (pw w (St w.heap.size ks xs)) = .ok (.int .i64 0) (pw w (St w.heap.size ks xs)) := by kernel_rfl
  cases h : hit x k with
  | none => rw [h] at hfk; simp [lookup, run_underlying Try.underlying61, MapKept.run_getObj_map hb, hck, hfk, hz, Result.andThen]
  | some i => rw [h] at hfk; simp [lookup, run_underlying Try.underlying61, MapKept.run_getObj_map hb, hck, hfk, hz, Result.andThen]

theorem look_nil (w : World) (k : Int) :
    (lookup 61 (.map none) (.int .i64 k) true).run Try.prog w = .ok (.tuple #[.int .i64 0, .bool false]) w := by
  have hck := fun em => run_checkKey (P := Try.prog) (w := w) Try.underlying3 (d := .int .i64) (k := .int .i64 k) (by simp [IsKey]) em 9999
  have hfk := run_findKey (P := Try.prog) (w := w) Try.underlying3 (show findNow (.int .i64) (.int .i64 k) [] 0 = some none from rfl)
  have hz : (zeroValue 3).run Try.prog w = .ok (.int .i64 0) w := by kernel_rfl
  simp [lookup, run_underlying Try.underlying61, hck, hfk, hz, Result.andThen]

/-! ### At the operation, for the walk -/
section
variable {ops : Array Oper} {rest : List Oper} {o : Oper} {a : Act} {Q : Exit → Act → World → Prop}
theorem wp_first (w : World) (hg : o.guard = none) (t : TypeId) (hop : o.op = Op.makeMap t none)
    (hK : wpList Try.prog ops Q rest (a.put o.dst (.map (some w.heap.size))) (pw w (St w.heap.size [] []))) : wpList Try.prog ops Q (o :: rest) a w := by
  refine wpList_plain hg fun K' hK' => ?_
  unfold Oper.wp
  simp [execOp, hop, run_first, Result.andThen]
  exact hK' _ _ hK
theorem wp_next (w : World) (ks : List (List UInt8)) (xs X : List (List (Int × Int))) (hX : X = xs ++ [[]]) (hg : o.guard = none) (t : TypeId) (hop : o.op = Op.makeMap t none)
    (hK : wpList Try.prog ops Q rest (a.put o.dst (.map (some (w.heap.size + 1 + xs.length)))) (pw w (St w.heap.size ks X))) : wpList Try.prog ops Q (o :: rest) a (pw w (St w.heap.size ks xs)) := by
  subst hX
  refine wpList_plain hg fun K' hK' => ?_
  unfold Oper.wp
  simp [execOp, hop, run_next, Result.andThen]
  exact hK' _ _ hK
theorem wp_int (w : World) (ks : List (List UInt8)) (xs X X' : List (List (Int × Int))) (x : List (Int × Int)) (k v : Int) (hX : X = xs ++ [x]) (hX' : X' = xs ++ [x ++ [(k, v)]]) (hf : hit x k = none) (hg : o.guard = none) (m kk vv : Operand) (hop : o.op = Op.insert 61 m kk vv)
    (hm : a.eval m = .map (some (w.heap.size + 1 + xs.length))) (hk : a.eval kk = .int .i64 k) (hv : a.eval vv = .int .i64 v)
    (hK : wpList Try.prog ops Q rest (a.put o.dst undef) (pw w (St w.heap.size ks X'))) : wpList Try.prog ops Q (o :: rest) a (pw w (St w.heap.size ks X)) := by
  subst hX; subst hX'
  refine wpList_plain hg fun K' hK' => ?_
  unfold Oper.wp
  simp [execOp, hop, hm, hk, hv, run_int w ks xs x k v hf, Result.andThen]
  exact hK' _ _ hK
theorem wp_str (w : World) (ks ks' : List (List UInt8)) (xs : List (List (Int × Int))) (s : List UInt8) (hks : ks' = ks ++ [s]) (hf : idx ks ⟨s.toArray⟩ = none) (hg : o.guard = none) (m kk vv : Operand) (hop : o.op = Op.insert 62 m kk vv)
    (hm : a.eval m = .map (some w.heap.size)) (hk : a.eval kk = .string ⟨s.toArray⟩) (hv : a.eval vv = .map (some (w.heap.size + 1 + ks.length)))
    (hK : wpList Try.prog ops Q rest (a.put o.dst undef) (pw w (St w.heap.size ks' xs))) : wpList Try.prog ops Q (o :: rest) a (pw w (St w.heap.size ks xs)) := by
  subst hks
  refine wpList_plain hg fun K' hK' => ?_
  unfold Oper.wp
  simp [execOp, hop, hm, hk, hv, run_str w ks xs s hf, Result.andThen]
  exact hK' _ _ hK
theorem wp_look (w : World) (ks : List (List UInt8)) (xs : List (List (Int × Int))) (s : ByteArray) (hg : o.guard = none) (m kk : Operand) (hop : o.op = Op.lookup 62 m kk false)
    (hm : a.eval m = .map (some w.heap.size)) (hk : a.eval kk = .string s)
    (hK : wpList Try.prog ops Q rest (a.put o.dst (.map ((idx ks s).map fun i => w.heap.size + 1 + i))) (pw w (St w.heap.size ks xs))) : wpList Try.prog ops Q (o :: rest) a (pw w (St w.heap.size ks xs)) := by
  refine wpList_plain hg fun K' hK' => ?_
  unfold Oper.wp
  simp [execOp, hop, hm, hk, look_str, Result.andThen]
  exact hK' _ _ hK
/-- What the two look-ups find. -/
def find2 (ks : List (List UInt8)) (xs : List (List (Int × Int))) (s : ByteArray) (k : Int) : Option Int := (idx ks s).bind fun i => (xs[i]?).bind fun x => hit x k
theorem wp_look2 (w : World) (ks : List (List UInt8)) (xs : List (List (Int × Int))) (hl : ks.length ≤ xs.length) (s : ByteArray) (k : Int) (f : Option Int) (hfd : find2 ks xs s k = f) (v : Int) (hv : f.getD 0 = v) (b : Bool) (hbb : f.isSome = b) (hg : o.guard = none) (m kk : Operand) (hop : o.op = Op.lookup 61 m kk true)
    (hm : a.eval m = .map ((idx ks s).map fun i => w.heap.size + 1 + i)) (hk : a.eval kk = .int .i64 k)
    (hK : wpList Try.prog ops Q rest (a.put o.dst (.tuple #[.int .i64 v, .bool b])) (pw w (St w.heap.size ks xs))) : wpList Try.prog ops Q (o :: rest) a (pw w (St w.heap.size ks xs)) := by
  subst hv; subst hbb; subst hfd
  refine wpList_plain hg fun K' hK' => ?_
  unfold Oper.wp
  cases h : idx ks s with
  | none =>
    rw [h] at hm
    have e : find2 ks xs s k = none := by simp [find2, h]
    rw [e] at hK
    have hm' : a.eval m = .map none := hm
    simp [execOp, hop, hm', hk, look_nil, Result.andThen]
    exact hK' _ _ hK
  | some i =>
    rw [h] at hm
    have hi : i < ks.length := by
      clear hm hK hl
      induction ks generalizing i with
      | nil => simp [idx] at h
      | cons t r ih =>
        unfold idx at h
        split at h
        · cases h; simp
        · simp only [Option.map_eq_some_iff] at h
          obtain ⟨j, hj, rfl⟩ := h
          have := ih j hj
          simp; omega
    have hx : xs[i]? = some (xs[i]'(by omega)) := List.getElem?_eq_getElem (by omega)
    have e : find2 ks xs s k = hit (xs[i]'(by omega)) k := by simp [find2, h, hx]
    rw [e] at hK
    have hm' : a.eval m = .map (some (w.heap.size + 1 + i)) := hm
    simp [execOp, hop, hm', hk, look_int w ks xs i _ hx, Result.andThen]
    exact hK' _ _ hK
end


/-- A call of a function value in a plain region. -/
theorem goesV_ {P : Program} {ops : Array Oper} {Q : Exit → Act → World → Prop} {rest : List Oper} {oi : Oper} {a : Act} {w : World} (N : Option Tmp) (hd : oi.dst = N) (hg : oi.guard = none) {f : FuncId} {fn : Func} {ys : Array Operand} {ts : Array TypeId} (hf : P.funcs[f]? = some fn) (hname : (fn.name == "runtime.NumGoroutine") = false) (hb : fn.body.isSome = true) (args : Array Value)
    {x : Operand} {cap : Array Value} (hop : oi.op = .call { callee := .value x, args := ys, argTypes := ts }) (hx : a.eval x = .func (.func f) #[] cap) (hargs : ys.map a.eval ++ cap = args)
    (h : Calls P f args w fun e w' => ∃ v, e = .returned v ∧ wpList P ops Q rest (a.put N v) w') : wpList P ops Q (oi :: rest) a w := by
  refine wpList_plain hg fun K hK => ?_
  have he := enters_ hf hname hb args w
  have hrun : (execOp a.eval oi).run P w = .ok (.enter f args) w := by
    unfold execOp
    simp [hop, resolve, Deferred.ofValue, invoke, hx, hargs, he]
  unfold Oper.wp
  rw [hrun, Oper.upon_enter]
  refine h.mono fun e w'' hh => ?_
  obtain ⟨v, rfl, hk⟩ := hh
  subst hd
  exact hK _ _ hk

end Go.Proofs.Ytglllkbebnlnmaa.PFnModes
