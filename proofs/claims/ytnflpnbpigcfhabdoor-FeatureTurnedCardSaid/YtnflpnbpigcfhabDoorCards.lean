/-
  DERIVED. GIVEN WITH THE SEED: THE CARDS: each row of YtnflpnbpigcfhabDoorRows.lean that lists a variable, with what it lists TIED to the program's text (the seventh form; the later family's looks); each row that meets fmt, with fmt's text TOLD by the authors' own Lean function (tested against real Go, not proved from fmt's source: count such statements apart). THE CARD IS WHAT COUNTS. Prove the row's statement (the work); the ties are given (YtnflpnbpigcfhabDoorTie.lean); close each card by the builder's one call (the guide's Derived/Test/ToyasCard.lean, 'card_holds'). Laid BY PROGRAM, IN A SANDBOX (cutbox-door.mjs). By AI agents, Wed Nov 11 2026. No macro, syntax, notation, axiom, sorry.
-/
import Derived.Test.YtnflpnbpigcfhabDoorRows
import GoSem.ClaimSeven
namespace Go.Proofs.YtnflpnbpigcfhabDoor
namespace Rows

/-- THE TIED CARD OF 'earshotlaw03.FeatureTurned'. -/
def featureTurnedCard : Claim7 := { stood := { row := featureTurnedRow, standIns := [], harness := (true, "aca4e2a10a5231c2a150763437e028df86885eeee1b037947f7dc79d871b8567"), looks := false }, kinds := [], alts := [], laidByText := true, laidKinds := [.data], laidTests := true, laidLooks := .later }
def FeatureTurnedCardSaid : Prop := Claim7.holds Tryd.pinned (.plain (OpenSpec.ofChange featureTurnedSpec)) featureTurnedCard

/-- THE SECOND FORM's CARD OF 'earshotlaw03.FeatureTurned'. -/
def featureTurnedUptoCard : Claim7 := { stood := { row := featureTurnedUptoRow, standIns := [], harness := (true, "aca4e2a10a5231c2a150763437e028df86885eeee1b037947f7dc79d871b8567"), looks := false }, kinds := [], alts := [], laidByText := true, laidKinds := [.data], laidTests := true, laidLooks := .later }
def FeatureTurnedUptoCardSaid : Prop := Claim7.holds Tryd.pinned (.plain (OpenSpec.upto featureTurnedSpec)) featureTurnedUptoCard
end Rows
end Go.Proofs.YtnflpnbpigcfhabDoor
