/-
  NARROWER THAN 'FOR EVERY INPUT', by the rows' own cells (each row's printed sentence says how): FnExactGoodTopic: laid · FnExactResolveTopic: laid · FnExactTopicFits: laid · FnTopics: laid.
  DERIVED. THE GIVEN ROWS OF THIS SEAT. 4 by the template 'for every input the law returns true; each argument reads behind the call as it read before'; 0 by the template 'total and deterministic' (their statements: YtmlejakajcmbdaaDoorTotals.lean).
  GIVEN WITH THE SEED: the statements are not yours to turn. If you find one false, say at which input.
  Laid BY PROGRAM, IN A SANDBOX (cutbox-rows.mjs): the forced cells as the released guide's own fill.sh prints them over the translation b0b8ea4da09028d5… (all of the seat's roots in one cut). By AI agents, Wed Nov 11 2026. No macro, syntax, notation, axiom, sorry.
-/
import Derived.Test.YtmlejakajcmbdaaDoorChecked
import GoSem.PinnedTables
import GoSem.Claim
import GoSem.ClaimJoined
import GoSem.ClaimMapViews
import Derived.JoinedTies
import Derived.KernelRfl
namespace Go.Proofs.YtmlejakajcmbdaaDoor
/- THE CELL 'sum', in the pinned program and in every row, IS THE sha256 OF THE DUMP (.gsa) THAT YtmlejakajcmbdaaDoorProg.lean LOADS. Nothing in Lean hashes anything: it is a label: what it is worth is what the hold of that sum in a sandbox is worth. -/
noncomputable def Tryd.pinned : Pinned := { name := "ytmlejakajcmbdaadoor", sum := "b0b8ea4da09028d526d90d7cf2ace04697ac7c8d67aa12eef6b4ecadb47b6e0e", checked := Tryd.checked }
namespace Rows
def none {H : Type} : Left H := { results := [], args := [] }

/- WHAT THE LISTED PACKAGE-LEVEL VARIABLES READ AS WHEN THE CALL BEGINS. Each datum BY PROGRAM (the guide's laid-datum.mjs) off the statement by which the dump's own 'gosem.cut.vars' lays the variable. In a bare row this is a premise. The card (YtmlejakajcmbdaaDoorCards.lean) ties it to the program's text. -/
def laid_unicode_utf8_acceptRanges {H : Type} : DataW H := .agg [.agg [.lit (.int .u8 128), .lit (.int .u8 191)], .agg [.lit (.int .u8 160), .lit (.int .u8 191)], .agg [.lit (.int .u8 128), .lit (.int .u8 159)], .agg [.lit (.int .u8 144), .lit (.int .u8 191)], .agg [.lit (.int .u8 128), .lit (.int .u8 143)], .agg [.lit (.int .u8 0), .lit (.int .u8 0)], .agg [.lit (.int .u8 0), .lit (.int .u8 0)], .agg [.lit (.int .u8 0), .lit (.int .u8 0)], .agg [.lit (.int .u8 0), .lit (.int .u8 0)], .agg [.lit (.int .u8 0), .lit (.int .u8 0)], .agg [.lit (.int .u8 0), .lit (.int .u8 0)], .agg [.lit (.int .u8 0), .lit (.int .u8 0)], .agg [.lit (.int .u8 0), .lit (.int .u8 0)], .agg [.lit (.int .u8 0), .lit (.int .u8 0)], .agg [.lit (.int .u8 0), .lit (.int .u8 0)], .agg [.lit (.int .u8 0), .lit (.int .u8 0)]]
/-- One of Go's own tables, pinned by name: the form's constant. -/
def laid_unicode_utf8_first : DataW Unit := Go.Pinned.utf8First

/-- 'laws.FnExactGoodTopic': WHATEVER THE INPUT: true; the input reads as it did. -/
def fnExactGoodTopicSpec : ChangeSpec := { name := "fnExactGoodTopic", fn := fun _ => fun
  | [d] => { results := [.lit (.bool true)], args := [d] }
  | _ => none }
def fnExactGoodTopicRow : OpenClaim := { program := "ytmlejakajcmbdaadoor", sum := "b0b8ea4da09028d526d90d7cf2ace04697ac7c8d67aa12eef6b4ecadb47b6e0e", func := "loop.example/g00047/laws.FnExactGoodTopic", spec := "fnExactGoodTopic", inPlace := ["internal/bytealg.CountString", "internal/bytealg.IndexByteString", "internal/bytealg.IndexString"], named := ["unicode/utf8.first", "unicode/utf8.acceptRanges", "internal/bytealg.MaxLen"], apart := false, laid := [("unicode/utf8.acceptRanges", laid_unicode_utf8_acceptRanges), ("unicode/utf8.first", laid_unicode_utf8_first)] }
def FnExactGoodTopicSaid : Prop := fnExactGoodTopicRow.holds Tryd.pinned (OpenSpec.ofChange fnExactGoodTopicSpec)

/-- ITS FALSE NEIGHBOUR: 'it returns false'. Refute it at one input. -/
def fnExactGoodTopicWrong : ChangeSpec := { name := "fnExactGoodTopic", fn := fun _ => fun
  | [d] => { results := [.lit (.bool false)], args := [d] }
  | _ => none }
def FnExactGoodTopicWrongFalsely : Prop := fnExactGoodTopicRow.holds Tryd.pinned (OpenSpec.ofChange fnExactGoodTopicWrong)

/-- 'laws.FnExactResolveTopic': WHATEVER THE INPUT: true; the input reads as it did. -/
def fnExactResolveTopicSpec : ChangeSpec := { name := "fnExactResolveTopic", fn := fun _ => fun
  | [d1, d2] => { results := [.lit (.bool true)], args := [d1, d2] }
  | _ => none }
def fnExactResolveTopicRow : OpenClaim := { program := "ytmlejakajcmbdaadoor", sum := "b0b8ea4da09028d526d90d7cf2ace04697ac7c8d67aa12eef6b4ecadb47b6e0e", func := "loop.example/g00047/laws.FnExactResolveTopic", spec := "fnExactResolveTopic", inPlace := ["internal/bytealg.CountString", "internal/bytealg.IndexByteString", "internal/bytealg.IndexString"], named := ["unicode/utf8.first", "unicode/utf8.acceptRanges", "internal/bytealg.MaxLen"], apart := false, laid := [("unicode/utf8.acceptRanges", laid_unicode_utf8_acceptRanges), ("unicode/utf8.first", laid_unicode_utf8_first)] }
def FnExactResolveTopicSaid : Prop := fnExactResolveTopicRow.holds Tryd.pinned (OpenSpec.ofChange fnExactResolveTopicSpec)

/-- ITS FALSE NEIGHBOUR: 'it returns false'. Refute it at one input. -/
def fnExactResolveTopicWrong : ChangeSpec := { name := "fnExactResolveTopic", fn := fun _ => fun
  | [d1, d2] => { results := [.lit (.bool false)], args := [d1, d2] }
  | _ => none }
def FnExactResolveTopicWrongFalsely : Prop := fnExactResolveTopicRow.holds Tryd.pinned (OpenSpec.ofChange fnExactResolveTopicWrong)

/-- 'laws.FnExactTopicFits': WHATEVER THE INPUT: true; the input reads as it did. -/
def fnExactTopicFitsSpec : ChangeSpec := { name := "fnExactTopicFits", fn := fun _ => fun
  | [d1, d2] => { results := [.lit (.bool true)], args := [d1, d2] }
  | _ => none }
def fnExactTopicFitsRow : OpenClaim := { program := "ytmlejakajcmbdaadoor", sum := "b0b8ea4da09028d526d90d7cf2ace04697ac7c8d67aa12eef6b4ecadb47b6e0e", func := "loop.example/g00047/laws.FnExactTopicFits", spec := "fnExactTopicFits", inPlace := ["internal/bytealg.CountString", "internal/bytealg.IndexByteString", "internal/bytealg.IndexString", "internal/abi.NoEscape", "internal/bytealg.MakeNoZero"], recurses := true, named := ["unicode/utf8.first", "unicode/utf8.acceptRanges", "internal/bytealg.MaxLen"], apart := false, laid := [("unicode/utf8.acceptRanges", laid_unicode_utf8_acceptRanges), ("unicode/utf8.first", laid_unicode_utf8_first)] }
def FnExactTopicFitsSaid : Prop := fnExactTopicFitsRow.holds Tryd.pinned (OpenSpec.ofChange fnExactTopicFitsSpec)

/-- ITS FALSE NEIGHBOUR: 'it returns false'. Refute it at one input. -/
def fnExactTopicFitsWrong : ChangeSpec := { name := "fnExactTopicFits", fn := fun _ => fun
  | [d1, d2] => { results := [.lit (.bool false)], args := [d1, d2] }
  | _ => none }
def FnExactTopicFitsWrongFalsely : Prop := fnExactTopicFitsRow.holds Tryd.pinned (OpenSpec.ofChange fnExactTopicFitsWrong)

/-- 'laws.FnTopics': WHATEVER THE INPUT: true; the input reads as it did. -/
def fnTopicsSpec : ChangeSpec := { name := "fnTopics", fn := fun _ => fun
  | [d1, d2] => { results := [.lit (.bool true)], args := [d1, d2] }
  | _ => none }
def fnTopicsRow : OpenClaim := { program := "ytmlejakajcmbdaadoor", sum := "b0b8ea4da09028d526d90d7cf2ace04697ac7c8d67aa12eef6b4ecadb47b6e0e", func := "loop.example/g00047/laws.FnTopics", spec := "fnTopics", inPlace := ["internal/bytealg.CountString", "internal/bytealg.IndexByteString", "internal/bytealg.IndexString", "internal/abi.NoEscape", "internal/bytealg.MakeNoZero"], recurses := true, named := ["unicode/utf8.first", "unicode/utf8.acceptRanges", "internal/bytealg.MaxLen"], apart := false, laid := [("unicode/utf8.acceptRanges", laid_unicode_utf8_acceptRanges), ("unicode/utf8.first", laid_unicode_utf8_first)] }
def FnTopicsSaid : Prop := fnTopicsRow.holds Tryd.pinned (OpenSpec.ofChange fnTopicsSpec)

/-- ITS FALSE NEIGHBOUR: 'it returns false'. Refute it at one input. -/
def fnTopicsWrong : ChangeSpec := { name := "fnTopics", fn := fun _ => fun
  | [d1, d2] => { results := [.lit (.bool false)], args := [d1, d2] }
  | _ => none }
def FnTopicsWrongFalsely : Prop := fnTopicsRow.holds Tryd.pinned (OpenSpec.ofChange fnTopicsWrong)

/- THE SECOND FORM. 'bulk': how many values and letters a reading holds, each counted each time it is reached (what is shared counts as often as it is met; a slice's spare places count too). A statement '..UptoSaid' is the law's where the arguments, and the package variables that the reading takes, are together of bulk at most 1048576: NARROWER than '..Said'. Prove '..Said' where nothing that the law and all that it calls make is longer than what came in: it says more and counts as full. Else prove '..UptoSaid'. A law counts once. -/
mutual
def uptoBulk {H : Type} : DataW H → Nat
  | .lit (.string bytes) => bytes.length + 1
  | .lit _ => 1
  | .nil => 1
  | .ptr d => uptoBulk d + 1
  | .slice elems spare => uptoBulkAll elems + uptoBulkAll spare + 1
  | .agg parts => uptoBulkAll parts + 1
  | .iface _ d => uptoBulk d + 1
  | .map entries => uptoBulkEntries entries + 1
  | .held _ => 1
def uptoBulkAll {H : Type} : List (DataW H) → Nat
  | [] => 0
  | d :: r => uptoBulk d + uptoBulkAll r
def uptoBulkEntries {H : Type} : List (Lit × DataW H) → Nat
  | [] => 0
  | x :: r => uptoBulkEntry x + uptoBulkEntries r
def uptoBulkEntry {H : Type} : Lit × DataW H → Nat
  | (.string bytes, d) => bytes.length + uptoBulk d + 1
  | (_, d) => uptoBulk d + 1
 end
def uptoSmall : (H : Type) → List (DataW H) → Bool := fun _ ds => decide (uptoBulkAll ds ≤ 1048576)
def OpenSpec.upto (s : _root_.Go.ChangeSpec) : _root_.Go.OpenSpec := { _root_.Go.OpenSpec.ofChange s with cond := some uptoSmall }

/-- 'laws.FnExactGoodTopic', WHERE WHAT IT READS IS OF BULK AT MOST 1048576: true; the input reads as it did. -/
def fnExactGoodTopicUptoRow : OpenClaim := { program := "ytmlejakajcmbdaadoor", sum := "b0b8ea4da09028d526d90d7cf2ace04697ac7c8d67aa12eef6b4ecadb47b6e0e", func := "loop.example/g00047/laws.FnExactGoodTopic", spec := "fnExactGoodTopic", inPlace := ["internal/bytealg.CountString", "internal/bytealg.IndexByteString", "internal/bytealg.IndexString"], named := ["unicode/utf8.first", "unicode/utf8.acceptRanges", "internal/bytealg.MaxLen"], apart := false, laid := [("unicode/utf8.acceptRanges", laid_unicode_utf8_acceptRanges), ("unicode/utf8.first", laid_unicode_utf8_first)], narrowed := true }
def FnExactGoodTopicUptoSaid : Prop := fnExactGoodTopicUptoRow.holds Tryd.pinned (OpenSpec.upto fnExactGoodTopicSpec)

/-- 'laws.FnExactResolveTopic', WHERE WHAT IT READS IS OF BULK AT MOST 1048576: true; the input reads as it did. -/
def fnExactResolveTopicUptoRow : OpenClaim := { program := "ytmlejakajcmbdaadoor", sum := "b0b8ea4da09028d526d90d7cf2ace04697ac7c8d67aa12eef6b4ecadb47b6e0e", func := "loop.example/g00047/laws.FnExactResolveTopic", spec := "fnExactResolveTopic", inPlace := ["internal/bytealg.CountString", "internal/bytealg.IndexByteString", "internal/bytealg.IndexString"], named := ["unicode/utf8.first", "unicode/utf8.acceptRanges", "internal/bytealg.MaxLen"], apart := false, laid := [("unicode/utf8.acceptRanges", laid_unicode_utf8_acceptRanges), ("unicode/utf8.first", laid_unicode_utf8_first)], narrowed := true }
def FnExactResolveTopicUptoSaid : Prop := fnExactResolveTopicUptoRow.holds Tryd.pinned (OpenSpec.upto fnExactResolveTopicSpec)

/-- 'laws.FnExactTopicFits', WHERE WHAT IT READS IS OF BULK AT MOST 1048576: true; the input reads as it did. -/
def fnExactTopicFitsUptoRow : OpenClaim := { program := "ytmlejakajcmbdaadoor", sum := "b0b8ea4da09028d526d90d7cf2ace04697ac7c8d67aa12eef6b4ecadb47b6e0e", func := "loop.example/g00047/laws.FnExactTopicFits", spec := "fnExactTopicFits", inPlace := ["internal/bytealg.CountString", "internal/bytealg.IndexByteString", "internal/bytealg.IndexString", "internal/abi.NoEscape", "internal/bytealg.MakeNoZero"], recurses := true, named := ["unicode/utf8.first", "unicode/utf8.acceptRanges", "internal/bytealg.MaxLen"], apart := false, laid := [("unicode/utf8.acceptRanges", laid_unicode_utf8_acceptRanges), ("unicode/utf8.first", laid_unicode_utf8_first)], narrowed := true }
def FnExactTopicFitsUptoSaid : Prop := fnExactTopicFitsUptoRow.holds Tryd.pinned (OpenSpec.upto fnExactTopicFitsSpec)

/-- 'laws.FnTopics', WHERE WHAT IT READS IS OF BULK AT MOST 1048576: true; the input reads as it did. -/
def fnTopicsUptoRow : OpenClaim := { program := "ytmlejakajcmbdaadoor", sum := "b0b8ea4da09028d526d90d7cf2ace04697ac7c8d67aa12eef6b4ecadb47b6e0e", func := "loop.example/g00047/laws.FnTopics", spec := "fnTopics", inPlace := ["internal/bytealg.CountString", "internal/bytealg.IndexByteString", "internal/bytealg.IndexString", "internal/abi.NoEscape", "internal/bytealg.MakeNoZero"], recurses := true, named := ["unicode/utf8.first", "unicode/utf8.acceptRanges", "internal/bytealg.MaxLen"], apart := false, laid := [("unicode/utf8.acceptRanges", laid_unicode_utf8_acceptRanges), ("unicode/utf8.first", laid_unicode_utf8_first)], narrowed := true }
def FnTopicsUptoSaid : Prop := fnTopicsUptoRow.holds Tryd.pinned (OpenSpec.upto fnTopicsSpec)

end Rows
end Go.Proofs.YtmlejakajcmbdaaDoor
