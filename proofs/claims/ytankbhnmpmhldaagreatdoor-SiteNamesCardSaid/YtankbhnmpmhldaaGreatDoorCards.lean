/-
  DERIVED. GIVEN WITH THE SEED: THE CARDS: each row of YtankbhnmpmhldaaGreatDoorRows.lean that lists a variable, with what it lists TIED to the program's text (the seventh form; the later family's looks); each row that meets fmt, with fmt's text TOLD by the authors' own Lean function (tested against real Go, not proved from fmt's source: count such statements apart). THE CARD IS WHAT COUNTS. Prove the row's statement (the work); the ties are given (YtankbhnmpmhldaaGreatDoorTie.lean); close each card by the builder's one call (the guide's Derived/Test/ToyasCard.lean, 'card_holds'). Laid BY PROGRAM, IN A SANDBOX (cutbox-door.mjs). By AI agents, Wed Nov 11 2026. No macro, syntax, notation, axiom, sorry.
-/
import Derived.Test.YtankbhnmpmhldaaGreatDoorRows
import GoSem.ClaimSeven
namespace Go.Proofs.YtankbhnmpmhldaaGreatDoor
namespace Rows

/-- THE TIED CARD OF 'catamaranlaw27.SiteNames'. -/
def siteNamesCard : Claim7 := { stood := { row := siteNamesRow, standIns := [], harness := (true, "5913cdee148c29fa286cde917580e25f68696382630ba546d319577a5679c065"), looks := true }, kinds := [], alts := [], laidByText := true, laidKinds := [.handle], laidTests := true, laidLooks := .later }
def SiteNamesCardSaid : Prop := Claim7.holds Tryz.pinned (.plain (OpenSpec.ofChange siteNamesSpec)) siteNamesCard

/-- THE SECOND FORM's CARD OF 'catamaranlaw27.SiteNames'. -/
def siteNamesUptoCard : Claim7 := { stood := { row := siteNamesUptoRow, standIns := [], harness := (true, "5913cdee148c29fa286cde917580e25f68696382630ba546d319577a5679c065"), looks := true }, kinds := [], alts := [], laidByText := true, laidKinds := [.handle], laidTests := true, laidLooks := .later }
def SiteNamesUptoCardSaid : Prop := Claim7.holds Tryz.pinned (.plain (OpenSpec.upto siteNamesSpec)) siteNamesUptoCard
end Rows
end Go.Proofs.YtankbhnmpmhldaaGreatDoor
