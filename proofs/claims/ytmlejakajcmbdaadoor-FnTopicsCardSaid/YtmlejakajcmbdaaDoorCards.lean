/-
  DERIVED. GIVEN WITH THE SEED: THE CARDS: each row of YtmlejakajcmbdaaDoorRows.lean that lists a variable, with what it lists TIED to the program's text (the seventh form; the later family's looks); each row that meets fmt, with fmt's text TOLD by the authors' own Lean function (tested against real Go, not proved from fmt's source: count such statements apart). THE CARD IS WHAT COUNTS. Prove the row's statement (the work); the ties are given (YtmlejakajcmbdaaDoorTie.lean); close each card by the builder's one call (the guide's Derived/Test/ToyasCard.lean, 'card_holds'). Laid BY PROGRAM, IN A SANDBOX (cutbox-door.mjs). By AI agents, Wed Nov 11 2026. No macro, syntax, notation, axiom, sorry.
-/
import Derived.Test.YtmlejakajcmbdaaDoorRows
import GoSem.ClaimSeven
namespace Go.Proofs.YtmlejakajcmbdaaDoor
namespace Rows

/-- THE TIED CARD OF 'laws.FnExactGoodTopic'. -/
def fnExactGoodTopicCard : Claim7 := { stood := { row := fnExactGoodTopicRow, standIns := [], harness := (true, "a61569e2220296dd6495cbfd6a10d52ffae645530c9e06d471897bcbd0c7dafe"), looks := false }, kinds := [], alts := [], laidByText := true, laidKinds := [.data, .pinned], laidTests := true, laidLooks := .later }
def FnExactGoodTopicCardSaid : Prop := Claim7.holds Tryd.pinned (.plain (OpenSpec.ofChange fnExactGoodTopicSpec)) fnExactGoodTopicCard

/-- THE TIED CARD OF 'laws.FnExactResolveTopic'. -/
def fnExactResolveTopicCard : Claim7 := { stood := { row := fnExactResolveTopicRow, standIns := [], harness := (true, "a61569e2220296dd6495cbfd6a10d52ffae645530c9e06d471897bcbd0c7dafe"), looks := false }, kinds := [], alts := [], laidByText := true, laidKinds := [.data, .pinned], laidTests := true, laidLooks := .later }
def FnExactResolveTopicCardSaid : Prop := Claim7.holds Tryd.pinned (.plain (OpenSpec.ofChange fnExactResolveTopicSpec)) fnExactResolveTopicCard

/-- THE TIED CARD OF 'laws.FnExactTopicFits'. -/
def fnExactTopicFitsCard : Claim7 := { stood := { row := fnExactTopicFitsRow, standIns := [], harness := (true, "a61569e2220296dd6495cbfd6a10d52ffae645530c9e06d471897bcbd0c7dafe"), looks := false }, kinds := [], alts := [], laidByText := true, laidKinds := [.data, .pinned], laidTests := true, laidLooks := .later }
def FnExactTopicFitsCardSaid : Prop := Claim7.holds Tryd.pinned (.plain (OpenSpec.ofChange fnExactTopicFitsSpec)) fnExactTopicFitsCard

/-- THE TIED CARD OF 'laws.FnTopics'. -/
def fnTopicsCard : Claim7 := { stood := { row := fnTopicsRow, standIns := [], harness := (true, "a61569e2220296dd6495cbfd6a10d52ffae645530c9e06d471897bcbd0c7dafe"), looks := false }, kinds := [], alts := [], laidByText := true, laidKinds := [.data, .pinned], laidTests := true, laidLooks := .later }
def FnTopicsCardSaid : Prop := Claim7.holds Tryd.pinned (.plain (OpenSpec.ofChange fnTopicsSpec)) fnTopicsCard

/-- THE SECOND FORM's CARD OF 'laws.FnExactGoodTopic'. -/
def fnExactGoodTopicUptoCard : Claim7 := { stood := { row := fnExactGoodTopicUptoRow, standIns := [], harness := (true, "a61569e2220296dd6495cbfd6a10d52ffae645530c9e06d471897bcbd0c7dafe"), looks := false }, kinds := [], alts := [], laidByText := true, laidKinds := [.data, .pinned], laidTests := true, laidLooks := .later }
def FnExactGoodTopicUptoCardSaid : Prop := Claim7.holds Tryd.pinned (.plain (OpenSpec.upto fnExactGoodTopicSpec)) fnExactGoodTopicUptoCard

/-- THE SECOND FORM's CARD OF 'laws.FnExactResolveTopic'. -/
def fnExactResolveTopicUptoCard : Claim7 := { stood := { row := fnExactResolveTopicUptoRow, standIns := [], harness := (true, "a61569e2220296dd6495cbfd6a10d52ffae645530c9e06d471897bcbd0c7dafe"), looks := false }, kinds := [], alts := [], laidByText := true, laidKinds := [.data, .pinned], laidTests := true, laidLooks := .later }
def FnExactResolveTopicUptoCardSaid : Prop := Claim7.holds Tryd.pinned (.plain (OpenSpec.upto fnExactResolveTopicSpec)) fnExactResolveTopicUptoCard

/-- THE SECOND FORM's CARD OF 'laws.FnExactTopicFits'. -/
def fnExactTopicFitsUptoCard : Claim7 := { stood := { row := fnExactTopicFitsUptoRow, standIns := [], harness := (true, "a61569e2220296dd6495cbfd6a10d52ffae645530c9e06d471897bcbd0c7dafe"), looks := false }, kinds := [], alts := [], laidByText := true, laidKinds := [.data, .pinned], laidTests := true, laidLooks := .later }
def FnExactTopicFitsUptoCardSaid : Prop := Claim7.holds Tryd.pinned (.plain (OpenSpec.upto fnExactTopicFitsSpec)) fnExactTopicFitsUptoCard

/-- THE SECOND FORM's CARD OF 'laws.FnTopics'. -/
def fnTopicsUptoCard : Claim7 := { stood := { row := fnTopicsUptoRow, standIns := [], harness := (true, "a61569e2220296dd6495cbfd6a10d52ffae645530c9e06d471897bcbd0c7dafe"), looks := false }, kinds := [], alts := [], laidByText := true, laidKinds := [.data, .pinned], laidTests := true, laidLooks := .later }
def FnTopicsUptoCardSaid : Prop := Claim7.holds Tryd.pinned (.plain (OpenSpec.upto fnTopicsSpec)) fnTopicsUptoCard
end Rows
end Go.Proofs.YtmlejakajcmbdaaDoor
