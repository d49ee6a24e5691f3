/-
  DERIVED. GIVEN WITH THE SEED: THE CARDS: each row of YtnflpnbpigcfhabGreatDoorRows.lean that lists a variable, with what it lists TIED to the program's text (the seventh form; the later family's looks); each row that meets fmt, with fmt's text TOLD by the authors' own Lean function (tested against real Go, not proved from fmt's source: count such statements apart). THE CARD IS WHAT COUNTS. Prove the row's statement (the work); the ties are given (YtnflpnbpigcfhabGreatDoorTie.lean); close each card by the builder's one call (the guide's Derived/Test/ToyasCard.lean, 'card_holds'). Laid BY PROGRAM, IN A SANDBOX (cutbox-door.mjs). By AI agents, Wed Nov 11 2026. No macro, syntax, notation, axiom, sorry.
-/
import Derived.Test.YtnflpnbpigcfhabGreatDoorRows
import GoSem.ClaimSeven
namespace Go.Proofs.YtnflpnbpigcfhabGreatDoor
namespace Rows

/-- THE TIED CARD OF 'earshotlaw03.FeatureExtracts'. -/
def featureExtractsCard : Claim7 := { stood := { row := featureExtractsRow, standIns := [], harness := (true, "2fd5676d1e412680f75b928f5fb45c92f4ee0a710eafdcd6d16639cd601d4c64"), looks := false }, kinds := [], alts := [], laidByText := true, laidKinds := [.data], laidTests := true, laidLooks := .later }
def FeatureExtractsCardSaid : Prop := Claim7.holds Tryz.pinned (.plain (OpenSpec.ofChange featureExtractsSpec)) featureExtractsCard

/-- THE SECOND FORM's CARD OF 'earshotlaw03.FeatureExtracts'. -/
def featureExtractsUptoCard : Claim7 := { stood := { row := featureExtractsUptoRow, standIns := [], harness := (true, "2fd5676d1e412680f75b928f5fb45c92f4ee0a710eafdcd6d16639cd601d4c64"), looks := false }, kinds := [], alts := [], laidByText := true, laidKinds := [.data], laidTests := true, laidLooks := .later }
def FeatureExtractsUptoCardSaid : Prop := Claim7.holds Tryz.pinned (.plain (OpenSpec.upto featureExtractsSpec)) featureExtractsUptoCard
end Rows
end Go.Proofs.YtnflpnbpigcfhabGreatDoor
