/-
  DERIVED. GIVEN WITH THE SEED: THE CARDS: each row of YtkigjidjbjbjlaaDoorRows.lean that lists a variable, with what it lists TIED to the program's text (the seventh form; the later family's looks); each row that meets fmt, with fmt's text TOLD by the authors' own Lean function (tested against real Go, not proved from fmt's source: count such statements apart). THE CARD IS WHAT COUNTS. Prove the row's statement (the work); the ties are given (YtkigjidjbjbjlaaDoorTie.lean); close each card by the builder's one call (the guide's Derived/Test/ToyasCard.lean, 'card_holds'). Laid BY PROGRAM, IN A SANDBOX (cutbox-door.mjs). By AI agents, Wed Nov 11 2026. No macro, syntax, notation, axiom, sorry.
-/
import Derived.Test.YtkigjidjbjbjlaaDoorRows
import GoSem.ClaimSeven
namespace Go.Proofs.YtkigjidjbjbjlaaDoor
namespace Rows

/-- THE TIED CARD OF 'laws.FnCrc'. -/
def fnCrcCard : Claim7 := { stood := { row := fnCrcRow, standIns := [], harness := (true, "236e8603aed7c8111f0751b07b508348b5853bdf77d92a888e9932b18cfeb4aa"), looks := false }, kinds := [], alts := [], laidByText := true, laidKinds := [.data, .pinned], laidTests := true, laidLooks := .later }
def FnCrcCardSaid : Prop := Claim7.holds Tryd.pinned (.plain (OpenSpec.ofChange fnCrcSpec)) fnCrcCard

/-- THE SECOND FORM's CARD OF 'laws.FnCrc'. -/
def fnCrcUptoCard : Claim7 := { stood := { row := fnCrcUptoRow, standIns := [], harness := (true, "236e8603aed7c8111f0751b07b508348b5853bdf77d92a888e9932b18cfeb4aa"), looks := false }, kinds := [], alts := [], laidByText := true, laidKinds := [.data, .pinned], laidTests := true, laidLooks := .later }
def FnCrcUptoCardSaid : Prop := Claim7.holds Tryd.pinned (.plain (OpenSpec.upto fnCrcSpec)) fnCrcUptoCard
end Rows
end Go.Proofs.YtkigjidjbjbjlaaDoor
