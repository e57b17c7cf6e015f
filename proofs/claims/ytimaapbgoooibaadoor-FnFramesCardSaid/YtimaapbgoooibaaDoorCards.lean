/-
  DERIVED. GIVEN WITH THE SEED: THE CARDS: each row of YtimaapbgoooibaaDoorRows.lean that lists a variable, with what it lists TIED to the program's text (the seventh form; the later family's looks); each row that meets fmt, with fmt's text TOLD by the authors' own Lean function (tested against real Go, not proved from fmt's source: count such statements apart). THE CARD IS WHAT COUNTS. Prove the row's statement (the work); the ties are given (YtimaapbgoooibaaDoorTie.lean); close each card by the builder's one call (the guide's Derived/Test/ToyasCard.lean, 'card_holds'). Laid BY PROGRAM, IN A SANDBOX (cutbox-door.mjs). By AI agents, Wed Nov 11 2026. No macro, syntax, notation, axiom, sorry.
-/
import Derived.Test.YtimaapbgoooibaaDoorRows
import GoSem.ClaimSeven
namespace Go.Proofs.YtimaapbgoooibaaDoor
namespace Rows

/-- THE TIED CARD OF 'laws.FnExactReadFrame'. -/
def fnExactReadFrameCard : Claim7 := { stood := { row := fnExactReadFrameRow, standIns := [], harness := (true, "604306335639bd7013e384a480bd103e4f7275d1793f11115fc547f74c6b2e09"), looks := false }, kinds := [], alts := [], laidByText := true, laidKinds := [.data, .pinned], laidTests := true, laidLooks := .later }
def FnExactReadFrameCardSaid : Prop := Claim7.holds Tryd.pinned (.plain (OpenSpec.ofChange fnExactReadFrameSpec)) fnExactReadFrameCard

/-- THE TIED CARD OF 'laws.FnFrames'. -/
def fnFramesCard : Claim7 := { stood := { row := fnFramesRow, standIns := [], harness := (true, "604306335639bd7013e384a480bd103e4f7275d1793f11115fc547f74c6b2e09"), looks := false }, kinds := [], alts := [], laidByText := true, laidKinds := [.data, .pinned], laidTests := true, laidLooks := .later }
def FnFramesCardSaid : Prop := Claim7.holds Tryd.pinned (.plain (OpenSpec.ofChange fnFramesSpec)) fnFramesCard

/-- THE SECOND FORM's CARD OF 'laws.FnExactReadFrame'. -/
def fnExactReadFrameUptoCard : Claim7 := { stood := { row := fnExactReadFrameUptoRow, standIns := [], harness := (true, "604306335639bd7013e384a480bd103e4f7275d1793f11115fc547f74c6b2e09"), looks := false }, kinds := [], alts := [], laidByText := true, laidKinds := [.data, .pinned], laidTests := true, laidLooks := .later }
def FnExactReadFrameUptoCardSaid : Prop := Claim7.holds Tryd.pinned (.plain (OpenSpec.upto fnExactReadFrameSpec)) fnExactReadFrameUptoCard

/-- THE SECOND FORM's CARD OF 'laws.FnFrames'. -/
def fnFramesUptoCard : Claim7 := { stood := { row := fnFramesUptoRow, standIns := [], harness := (true, "604306335639bd7013e384a480bd103e4f7275d1793f11115fc547f74c6b2e09"), looks := false }, kinds := [], alts := [], laidByText := true, laidKinds := [.data, .pinned], laidTests := true, laidLooks := .later }
def FnFramesUptoCardSaid : Prop := Claim7.holds Tryd.pinned (.plain (OpenSpec.upto fnFramesSpec)) fnFramesUptoCard
end Rows
end Go.Proofs.YtimaapbgoooibaaDoor
