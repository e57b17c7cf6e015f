/-
  No cell of these rows narrows 'for every input' (looked for: loops, veiled, ifaces, maps, wideKeys, modest, calm, conditions, laid).
  DERIVED. THE GIVEN ROWS OF THIS SEAT. 12 by the template 'for every input the law returns true; each argument reads behind the call as it read before'; 0 by the template 'total and deterministic' (their statements: YthalklcgdibnkaaTotals.lean).
  GIVEN WITH THE SEED: the statements are not yours to turn. If you find one false, say at which input.
  Laid BY PROGRAM, IN A SANDBOX (cutbox-rows.mjs): the forced cells as the released guide's own fill.sh prints them over the translation be990c77dc36c281… (all of the seat's roots in one cut). By AI agents, Wed Nov 11 2026. No macro, syntax, notation, axiom, sorry.
-/
import Derived.Test.YthalklcgdibnkaaChecked
import GoSem.Claim
import GoSem.ClaimJoined
import GoSem.ClaimMapViews
import Derived.JoinedTies
import Derived.KernelRfl
namespace Go.Proofs.Ythalklcgdibnkaa
/- THE CELL 'sum', in the pinned program and in every row, IS THE sha256 OF THE DUMP (.gsa) THAT YthalklcgdibnkaaProg.lean LOADS. Nothing in Lean hashes anything: it is a label: what it is worth is what the hold of that sum in a sandbox is worth. -/
noncomputable def Try.pinned : Pinned := { name := "ythalklcgdibnkaa", sum := "be990c77dc36c281bd64a09d975aa76fcceacc6c2e96b243af3e6b58261dd925", checked := Try.checked }
namespace Rows
def none {H : Type} : Left H := { results := [], args := [] }

/-- 'laws.FnExactGoodBooks': WHATEVER THE INPUT: true; the input reads as it did. -/
def fnExactGoodBooksSpec : ChangeSpec := { name := "fnExactGoodBooks", fn := fun _ => fun
  | [d] => { results := [.lit (.bool true)], args := [d] }
  | _ => none }
def fnExactGoodBooksRow : OpenClaim := { program := "ythalklcgdibnkaa", sum := "be990c77dc36c281bd64a09d975aa76fcceacc6c2e96b243af3e6b58261dd925", func := "loop.example/g00047/laws.FnExactGoodBooks", spec := "fnExactGoodBooks", apart := false }
def FnExactGoodBooksSaid : Prop := fnExactGoodBooksRow.holds Try.pinned (OpenSpec.ofChange fnExactGoodBooksSpec)

/-- ITS FALSE NEIGHBOUR: 'it returns false'. Refute it at one input. -/
def fnExactGoodBooksWrong : ChangeSpec := { name := "fnExactGoodBooks", fn := fun _ => fun
  | [d] => { results := [.lit (.bool false)], args := [d] }
  | _ => none }
def FnExactGoodBooksWrongFalsely : Prop := fnExactGoodBooksRow.holds Try.pinned (OpenSpec.ofChange fnExactGoodBooksWrong)

/-- 'laws.FnExactGoodPrices': WHATEVER THE INPUT: true; the input reads as it did. -/
def fnExactGoodPricesSpec : ChangeSpec := { name := "fnExactGoodPrices", fn := fun _ => fun
  | [d] => { results := [.lit (.bool true)], args := [d] }
  | _ => none }
def fnExactGoodPricesRow : OpenClaim := { program := "ythalklcgdibnkaa", sum := "be990c77dc36c281bd64a09d975aa76fcceacc6c2e96b243af3e6b58261dd925", func := "loop.example/g00047/laws.FnExactGoodPrices", spec := "fnExactGoodPrices", apart := false }
def FnExactGoodPricesSaid : Prop := fnExactGoodPricesRow.holds Try.pinned (OpenSpec.ofChange fnExactGoodPricesSpec)

/-- ITS FALSE NEIGHBOUR: 'it returns false'. Refute it at one input. -/
def fnExactGoodPricesWrong : ChangeSpec := { name := "fnExactGoodPrices", fn := fun _ => fun
  | [d] => { results := [.lit (.bool false)], args := [d] }
  | _ => none }
def FnExactGoodPricesWrongFalsely : Prop := fnExactGoodPricesRow.holds Try.pinned (OpenSpec.ofChange fnExactGoodPricesWrong)

/-- 'laws.FnExactFirstFree': WHATEVER THE INPUT: true; the input reads as it did. -/
def fnExactFirstFreeSpec : ChangeSpec := { name := "fnExactFirstFree", fn := fun _ => fun
  | [d1, d2, d3, d4] => { results := [.lit (.bool true)], args := [d1, d2, d3, d4] }
  | _ => none }
def fnExactFirstFreeRow : OpenClaim := { program := "ythalklcgdibnkaa", sum := "be990c77dc36c281bd64a09d975aa76fcceacc6c2e96b243af3e6b58261dd925", func := "loop.example/g00047/laws.FnExactFirstFree", spec := "fnExactFirstFree", apart := false }
def FnExactFirstFreeSaid : Prop := fnExactFirstFreeRow.holds Try.pinned (OpenSpec.ofChange fnExactFirstFreeSpec)

/-- ITS FALSE NEIGHBOUR: 'it returns false'. Refute it at one input. -/
def fnExactFirstFreeWrong : ChangeSpec := { name := "fnExactFirstFree", fn := fun _ => fun
  | [d1, d2, d3, d4] => { results := [.lit (.bool false)], args := [d1, d2, d3, d4] }
  | _ => none }
def FnExactFirstFreeWrongFalsely : Prop := fnExactFirstFreeRow.holds Try.pinned (OpenSpec.ofChange fnExactFirstFreeWrong)

/-- 'laws.FnExactFreeLane': WHATEVER THE INPUT: true; the input reads as it did. -/
def fnExactFreeLaneSpec : ChangeSpec := { name := "fnExactFreeLane", fn := fun _ => fun
  | [d1, d2, d3] => { results := [.lit (.bool true)], args := [d1, d2, d3] }
  | _ => none }
def fnExactFreeLaneRow : OpenClaim := { program := "ythalklcgdibnkaa", sum := "be990c77dc36c281bd64a09d975aa76fcceacc6c2e96b243af3e6b58261dd925", func := "loop.example/g00047/laws.FnExactFreeLane", spec := "fnExactFreeLane", apart := false }
def FnExactFreeLaneSaid : Prop := fnExactFreeLaneRow.holds Try.pinned (OpenSpec.ofChange fnExactFreeLaneSpec)

/-- ITS FALSE NEIGHBOUR: 'it returns false'. Refute it at one input. -/
def fnExactFreeLaneWrong : ChangeSpec := { name := "fnExactFreeLane", fn := fun _ => fun
  | [d1, d2, d3] => { results := [.lit (.bool false)], args := [d1, d2, d3] }
  | _ => none }
def FnExactFreeLaneWrongFalsely : Prop := fnExactFreeLaneRow.holds Try.pinned (OpenSpec.ofChange fnExactFreeLaneWrong)

/-- 'laws.FnExactAssignCost': WHATEVER THE INPUT: true; the input reads as it did. -/
def fnExactAssignCostSpec : ChangeSpec := { name := "fnExactAssignCost", fn := fun _ => fun
  | [d1, d2] => { results := [.lit (.bool true)], args := [d1, d2] }
  | _ => none }
def fnExactAssignCostRow : OpenClaim := { program := "ythalklcgdibnkaa", sum := "be990c77dc36c281bd64a09d975aa76fcceacc6c2e96b243af3e6b58261dd925", func := "loop.example/g00047/laws.FnExactAssignCost", spec := "fnExactAssignCost", apart := false }
def FnExactAssignCostSaid : Prop := fnExactAssignCostRow.holds Try.pinned (OpenSpec.ofChange fnExactAssignCostSpec)

/-- ITS FALSE NEIGHBOUR: 'it returns false'. Refute it at one input. -/
def fnExactAssignCostWrong : ChangeSpec := { name := "fnExactAssignCost", fn := fun _ => fun
  | [d1, d2] => { results := [.lit (.bool false)], args := [d1, d2] }
  | _ => none }
def FnExactAssignCostWrongFalsely : Prop := fnExactAssignCostRow.holds Try.pinned (OpenSpec.ofChange fnExactAssignCostWrong)

/-- 'laws.FnExactBestAssign': WHATEVER THE INPUT: true; the input reads as it did. -/
def fnExactBestAssignSpec : ChangeSpec := { name := "fnExactBestAssign", fn := fun _ => fun
  | [d] => { results := [.lit (.bool true)], args := [d] }
  | _ => none }
def fnExactBestAssignRow : OpenClaim := { program := "ythalklcgdibnkaa", sum := "be990c77dc36c281bd64a09d975aa76fcceacc6c2e96b243af3e6b58261dd925", func := "loop.example/g00047/laws.FnExactBestAssign", spec := "fnExactBestAssign", unfollowed := true, recurses := true, apart := false }
def FnExactBestAssignSaid : Prop := fnExactBestAssignRow.holds Try.pinned (OpenSpec.ofChange fnExactBestAssignSpec)

/-- ITS FALSE NEIGHBOUR: 'it returns false'. Refute it at one input. -/
def fnExactBestAssignWrong : ChangeSpec := { name := "fnExactBestAssign", fn := fun _ => fun
  | [d] => { results := [.lit (.bool false)], args := [d] }
  | _ => none }
def FnExactBestAssignWrongFalsely : Prop := fnExactBestAssignRow.holds Try.pinned (OpenSpec.ofChange fnExactBestAssignWrong)

/-- 'laws.FnExactDuesOf': WHATEVER THE INPUT: true; the input reads as it did. -/
def fnExactDuesOfSpec : ChangeSpec := { name := "fnExactDuesOf", fn := fun _ => fun
  | [d1, d2] => { results := [.lit (.bool true)], args := [d1, d2] }
  | _ => none }
def fnExactDuesOfRow : OpenClaim := { program := "ythalklcgdibnkaa", sum := "be990c77dc36c281bd64a09d975aa76fcceacc6c2e96b243af3e6b58261dd925", func := "loop.example/g00047/laws.FnExactDuesOf", spec := "fnExactDuesOf", unfollowed := true, recurses := true, apart := false }
def FnExactDuesOfSaid : Prop := fnExactDuesOfRow.holds Try.pinned (OpenSpec.ofChange fnExactDuesOfSpec)

/-- ITS FALSE NEIGHBOUR: 'it returns false'. Refute it at one input. -/
def fnExactDuesOfWrong : ChangeSpec := { name := "fnExactDuesOf", fn := fun _ => fun
  | [d1, d2] => { results := [.lit (.bool false)], args := [d1, d2] }
  | _ => none }
def FnExactDuesOfWrongFalsely : Prop := fnExactDuesOfRow.holds Try.pinned (OpenSpec.ofChange fnExactDuesOfWrong)

/-- 'laws.FnExactBookLane': WHATEVER THE INPUT: true; the input reads as it did. -/
def fnExactBookLaneSpec : ChangeSpec := { name := "fnExactBookLane", fn := fun _ => fun
  | [d1, d2] => { results := [.lit (.bool true)], args := [d1, d2] }
  | _ => none }
def fnExactBookLaneRow : OpenClaim := { program := "ythalklcgdibnkaa", sum := "be990c77dc36c281bd64a09d975aa76fcceacc6c2e96b243af3e6b58261dd925", func := "loop.example/g00047/laws.FnExactBookLane", spec := "fnExactBookLane", inPlace := ["slices.overlaps[loop.example/g00047/impl.Booked]"], apart := false }
def FnExactBookLaneSaid : Prop := fnExactBookLaneRow.holds Try.pinned (OpenSpec.ofChange fnExactBookLaneSpec)

/-- ITS FALSE NEIGHBOUR: 'it returns false'. Refute it at one input. -/
def fnExactBookLaneWrong : ChangeSpec := { name := "fnExactBookLane", fn := fun _ => fun
  | [d1, d2] => { results := [.lit (.bool false)], args := [d1, d2] }
  | _ => none }
def FnExactBookLaneWrongFalsely : Prop := fnExactBookLaneRow.holds Try.pinned (OpenSpec.ofChange fnExactBookLaneWrong)

/-- 'laws.FnAssign': WHATEVER THE INPUT: true; the input reads as it did. -/
def fnAssignSpec : ChangeSpec := { name := "fnAssign", fn := fun _ => fun
  | [d] => { results := [.lit (.bool true)], args := [d] }
  | _ => none }
def fnAssignRow : OpenClaim := { program := "ythalklcgdibnkaa", sum := "be990c77dc36c281bd64a09d975aa76fcceacc6c2e96b243af3e6b58261dd925", func := "loop.example/g00047/laws.FnAssign", spec := "fnAssign", unfollowed := true, recurses := true, apart := false }
def FnAssignSaid : Prop := fnAssignRow.holds Try.pinned (OpenSpec.ofChange fnAssignSpec)

/-- ITS FALSE NEIGHBOUR: 'it returns false'. Refute it at one input. -/
def fnAssignWrong : ChangeSpec := { name := "fnAssign", fn := fun _ => fun
  | [d] => { results := [.lit (.bool false)], args := [d] }
  | _ => none }
def FnAssignWrongFalsely : Prop := fnAssignRow.holds Try.pinned (OpenSpec.ofChange fnAssignWrong)

/-- 'laws.FnBooks': WHATEVER THE INPUT: true; the input reads as it did. -/
def fnBooksSpec : ChangeSpec := { name := "fnBooks", fn := fun _ => fun
  | [d1, d2] => { results := [.lit (.bool true)], args := [d1, d2] }
  | _ => none }
def fnBooksRow : OpenClaim := { program := "ythalklcgdibnkaa", sum := "be990c77dc36c281bd64a09d975aa76fcceacc6c2e96b243af3e6b58261dd925", func := "loop.example/g00047/laws.FnBooks", spec := "fnBooks", inPlace := ["slices.overlaps[loop.example/g00047/impl.Booked]"], apart := false }
def FnBooksSaid : Prop := fnBooksRow.holds Try.pinned (OpenSpec.ofChange fnBooksSpec)

/-- ITS FALSE NEIGHBOUR: 'it returns false'. Refute it at one input. -/
def fnBooksWrong : ChangeSpec := { name := "fnBooks", fn := fun _ => fun
  | [d1, d2] => { results := [.lit (.bool false)], args := [d1, d2] }
  | _ => none }
def FnBooksWrongFalsely : Prop := fnBooksRow.holds Try.pinned (OpenSpec.ofChange fnBooksWrong)

/-- 'laws.FnHandOver': WHATEVER THE INPUT: true; the input reads as it did. -/
def fnHandOverSpec : ChangeSpec := { name := "fnHandOver", fn := fun _ => fun
  | [d] => { results := [.lit (.bool true)], args := [d] }
  | _ => none }
def fnHandOverRow : OpenClaim := { program := "ythalklcgdibnkaa", sum := "be990c77dc36c281bd64a09d975aa76fcceacc6c2e96b243af3e6b58261dd925", func := "loop.example/g00047/laws.FnHandOver", spec := "fnHandOver", recurses := true, apart := false }
def FnHandOverSaid : Prop := fnHandOverRow.holds Try.pinned (OpenSpec.ofChange fnHandOverSpec)

/-- ITS FALSE NEIGHBOUR: 'it returns false'. Refute it at one input. -/
def fnHandOverWrong : ChangeSpec := { name := "fnHandOver", fn := fun _ => fun
  | [d] => { results := [.lit (.bool false)], args := [d] }
  | _ => none }
def FnHandOverWrongFalsely : Prop := fnHandOverRow.holds Try.pinned (OpenSpec.ofChange fnHandOverWrong)

/-- 'laws.FnExactHandOver': WHATEVER THE INPUT: true; the input reads as it did. -/
def fnExactHandOverSpec : ChangeSpec := { name := "fnExactHandOver", fn := fun _ => fun
  | [d1, d2, d3] => { results := [.lit (.bool true)], args := [d1, d2, d3] }
  | _ => none }
def fnExactHandOverRow : OpenClaim := { program := "ythalklcgdibnkaa", sum := "be990c77dc36c281bd64a09d975aa76fcceacc6c2e96b243af3e6b58261dd925", func := "loop.example/g00047/laws.FnExactHandOver", spec := "fnExactHandOver", recurses := true, apart := false }
def FnExactHandOverSaid : Prop := fnExactHandOverRow.holds Try.pinned (OpenSpec.ofChange fnExactHandOverSpec)

/-- ITS FALSE NEIGHBOUR: 'it returns false'. Refute it at one input. -/
def fnExactHandOverWrong : ChangeSpec := { name := "fnExactHandOver", fn := fun _ => fun
  | [d1, d2, d3] => { results := [.lit (.bool false)], args := [d1, d2, d3] }
  | _ => none }
def FnExactHandOverWrongFalsely : Prop := fnExactHandOverRow.holds Try.pinned (OpenSpec.ofChange fnExactHandOverWrong)

/- THE SECOND FORM. 'bulk': how many values and letters a reading holds, each counted each time it is reached (what is shared counts as often as it is met; a slice's spare places count too). A statement '..UptoSaid' is the law's where the arguments, and the package variables that the reading takes, are together of bulk at most 1048576: NARROWER than '..Said'. Prove '..Said' where nothing that the law and all that it calls make is longer than what came in: it says more and counts as full. Else prove '..UptoSaid'. A law counts once. -/
mutual
def uptoBulk {H : Type} : DataW H → Nat
  | .lit (.string bytes) => bytes.length + 1
  | .lit _ => 1
  | .nil => 1
  | .ptr d => uptoBulk d + 1
  | .slice elems spare => uptoBulkAll elems + uptoBulkAll spare + 1
  | .agg parts => uptoBulkAll parts + 1
  | .iface _ d => uptoBulk d + 1
  | .map entries => uptoBulkEntries entries + 1
  | .held _ => 1
def uptoBulkAll {H : Type} : List (DataW H) → Nat
  | [] => 0
  | d :: r => uptoBulk d + uptoBulkAll r
def uptoBulkEntries {H : Type} : List (Lit × DataW H) → Nat
  | [] => 0
  | x :: r => uptoBulkEntry x + uptoBulkEntries r
def uptoBulkEntry {H : Type} : Lit × DataW H → Nat
  | (.string bytes, d) => bytes.length + uptoBulk d + 1
  | (_, d) => uptoBulk d + 1
 end
def uptoSmall : (H : Type) → List (DataW H) → Bool := fun _ ds => decide (uptoBulkAll ds ≤ 1048576)
def OpenSpec.upto (s : _root_.Go.ChangeSpec) : _root_.Go.OpenSpec := { _root_.Go.OpenSpec.ofChange s with cond := some uptoSmall }

/-- 'laws.FnExactGoodBooks', WHERE WHAT IT READS IS OF BULK AT MOST 1048576: true; the input reads as it did. -/
def fnExactGoodBooksUptoRow : OpenClaim := { program := "ythalklcgdibnkaa", sum := "be990c77dc36c281bd64a09d975aa76fcceacc6c2e96b243af3e6b58261dd925", func := "loop.example/g00047/laws.FnExactGoodBooks", spec := "fnExactGoodBooks", apart := false, narrowed := true }
def FnExactGoodBooksUptoSaid : Prop := fnExactGoodBooksUptoRow.holds Try.pinned (OpenSpec.upto fnExactGoodBooksSpec)

/-- 'laws.FnExactGoodPrices', WHERE WHAT IT READS IS OF BULK AT MOST 1048576: true; the input reads as it did. -/
def fnExactGoodPricesUptoRow : OpenClaim := { program := "ythalklcgdibnkaa", sum := "be990c77dc36c281bd64a09d975aa76fcceacc6c2e96b243af3e6b58261dd925", func := "loop.example/g00047/laws.FnExactGoodPrices", spec := "fnExactGoodPrices", apart := false, narrowed := true }
def FnExactGoodPricesUptoSaid : Prop := fnExactGoodPricesUptoRow.holds Try.pinned (OpenSpec.upto fnExactGoodPricesSpec)

/-- 'laws.FnExactFirstFree', WHERE WHAT IT READS IS OF BULK AT MOST 1048576: true; the input reads as it did. -/
def fnExactFirstFreeUptoRow : OpenClaim := { program := "ythalklcgdibnkaa", sum := "be990c77dc36c281bd64a09d975aa76fcceacc6c2e96b243af3e6b58261dd925", func := "loop.example/g00047/laws.FnExactFirstFree", spec := "fnExactFirstFree", apart := false, narrowed := true }
def FnExactFirstFreeUptoSaid : Prop := fnExactFirstFreeUptoRow.holds Try.pinned (OpenSpec.upto fnExactFirstFreeSpec)

/-- 'laws.FnExactFreeLane', WHERE WHAT IT READS IS OF BULK AT MOST 1048576: true; the input reads as it did. -/
def fnExactFreeLaneUptoRow : OpenClaim := { program := "ythalklcgdibnkaa", sum := "be990c77dc36c281bd64a09d975aa76fcceacc6c2e96b243af3e6b58261dd925", func := "loop.example/g00047/laws.FnExactFreeLane", spec := "fnExactFreeLane", apart := false, narrowed := true }
def FnExactFreeLaneUptoSaid : Prop := fnExactFreeLaneUptoRow.holds Try.pinned (OpenSpec.upto fnExactFreeLaneSpec)

/-- 'laws.FnExactAssignCost', WHERE WHAT IT READS IS OF BULK AT MOST 1048576: true; the input reads as it did. -/
def fnExactAssignCostUptoRow : OpenClaim := { program := "ythalklcgdibnkaa", sum := "be990c77dc36c281bd64a09d975aa76fcceacc6c2e96b243af3e6b58261dd925", func := "loop.example/g00047/laws.FnExactAssignCost", spec := "fnExactAssignCost", apart := false, narrowed := true }
def FnExactAssignCostUptoSaid : Prop := fnExactAssignCostUptoRow.holds Try.pinned (OpenSpec.upto fnExactAssignCostSpec)

/-- 'laws.FnExactBestAssign', WHERE WHAT IT READS IS OF BULK AT MOST 1048576: true; the input reads as it did. -/
def fnExactBestAssignUptoRow : OpenClaim := { program := "ythalklcgdibnkaa", sum := "be990c77dc36c281bd64a09d975aa76fcceacc6c2e96b243af3e6b58261dd925", func := "loop.example/g00047/laws.FnExactBestAssign", spec := "fnExactBestAssign", unfollowed := true, recurses := true, apart := false, narrowed := true }
def FnExactBestAssignUptoSaid : Prop := fnExactBestAssignUptoRow.holds Try.pinned (OpenSpec.upto fnExactBestAssignSpec)

/-- 'laws.FnExactDuesOf', WHERE WHAT IT READS IS OF BULK AT MOST 1048576: true; the input reads as it did. -/
def fnExactDuesOfUptoRow : OpenClaim := { program := "ythalklcgdibnkaa", sum := "be990c77dc36c281bd64a09d975aa76fcceacc6c2e96b243af3e6b58261dd925", func := "loop.example/g00047/laws.FnExactDuesOf", spec := "fnExactDuesOf", unfollowed := true, recurses := true, apart := false, narrowed := true }
def FnExactDuesOfUptoSaid : Prop := fnExactDuesOfUptoRow.holds Try.pinned (OpenSpec.upto fnExactDuesOfSpec)

/-- 'laws.FnExactBookLane', WHERE WHAT IT READS IS OF BULK AT MOST 1048576: true; the input reads as it did. -/
def fnExactBookLaneUptoRow : OpenClaim := { program := "ythalklcgdibnkaa", sum := "be990c77dc36c281bd64a09d975aa76fcceacc6c2e96b243af3e6b58261dd925", func := "loop.example/g00047/laws.FnExactBookLane", spec := "fnExactBookLane", inPlace := ["slices.overlaps[loop.example/g00047/impl.Booked]"], apart := false, narrowed := true }
def FnExactBookLaneUptoSaid : Prop := fnExactBookLaneUptoRow.holds Try.pinned (OpenSpec.upto fnExactBookLaneSpec)

/-- 'laws.FnAssign', WHERE WHAT IT READS IS OF BULK AT MOST 1048576: true; the input reads as it did. -/
def fnAssignUptoRow : OpenClaim := { program := "ythalklcgdibnkaa", sum := "be990c77dc36c281bd64a09d975aa76fcceacc6c2e96b243af3e6b58261dd925", func := "loop.example/g00047/laws.FnAssign", spec := "fnAssign", unfollowed := true, recurses := true, apart := false, narrowed := true }
def FnAssignUptoSaid : Prop := fnAssignUptoRow.holds Try.pinned (OpenSpec.upto fnAssignSpec)

/-- 'laws.FnBooks', WHERE WHAT IT READS IS OF BULK AT MOST 1048576: true; the input reads as it did. -/
def fnBooksUptoRow : OpenClaim := { program := "ythalklcgdibnkaa", sum := "be990c77dc36c281bd64a09d975aa76fcceacc6c2e96b243af3e6b58261dd925", func := "loop.example/g00047/laws.FnBooks", spec := "fnBooks", inPlace := ["slices.overlaps[loop.example/g00047/impl.Booked]"], apart := false, narrowed := true }
def FnBooksUptoSaid : Prop := fnBooksUptoRow.holds Try.pinned (OpenSpec.upto fnBooksSpec)

/-- 'laws.FnHandOver', WHERE WHAT IT READS IS OF BULK AT MOST 1048576: true; the input reads as it did. -/
def fnHandOverUptoRow : OpenClaim := { program := "ythalklcgdibnkaa", sum := "be990c77dc36c281bd64a09d975aa76fcceacc6c2e96b243af3e6b58261dd925", func := "loop.example/g00047/laws.FnHandOver", spec := "fnHandOver", recurses := true, apart := false, narrowed := true }
def FnHandOverUptoSaid : Prop := fnHandOverUptoRow.holds Try.pinned (OpenSpec.upto fnHandOverSpec)

/-- 'laws.FnExactHandOver', WHERE WHAT IT READS IS OF BULK AT MOST 1048576: true; the input reads as it did. -/
def fnExactHandOverUptoRow : OpenClaim := { program := "ythalklcgdibnkaa", sum := "be990c77dc36c281bd64a09d975aa76fcceacc6c2e96b243af3e6b58261dd925", func := "loop.example/g00047/laws.FnExactHandOver", spec := "fnExactHandOver", recurses := true, apart := false, narrowed := true }
def FnExactHandOverUptoSaid : Prop := fnExactHandOverUptoRow.holds Try.pinned (OpenSpec.upto fnExactHandOverSpec)

end Rows
end Go.Proofs.Ythalklcgdibnkaa
