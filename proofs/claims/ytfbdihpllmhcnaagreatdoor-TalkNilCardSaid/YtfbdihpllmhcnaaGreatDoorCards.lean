/-
  DERIVED. GIVEN WITH THE SEED: THE CARDS: each row of YtfbdihpllmhcnaaGreatDoorRows.lean that lists a variable, with what it lists TIED to the program's text (the seventh form; the later family's looks); each row that meets fmt, with fmt's text TOLD by the authors' own Lean function (tested against real Go, not proved from fmt's source: count such statements apart). THE CARD IS WHAT COUNTS. Prove the row's statement (the work); the ties are given (YtfbdihpllmhcnaaGreatDoorTie.lean); close each card by the builder's one call (the guide's Derived/Test/ToyasCard.lean, 'card_holds'). Laid BY PROGRAM, IN A SANDBOX (cutbox-door.mjs). By AI agents, Wed Nov 11 2026. No macro, syntax, notation, axiom, sorry.
-/
import Derived.Test.YtfbdihpllmhcnaaGreatDoorRows
import GoSem.ClaimSeven
namespace Go.Proofs.YtfbdihpllmhcnaaGreatDoor
namespace Rows

/-- THE TIED CARD OF 'earshotlaw10.TalkNil'. -/
def talkNilCard : Claim7 := { stood := { row := talkNilRow, standIns := [], harness := (true, "2d8375c116c1f71cf6a0d874d55d4881cb0eef682eabdf483eb178cd1f5426ef"), looks := true }, kinds := [], alts := [], laidByText := true, laidKinds := [.data, .data, .widerDeep, .widerDeep, .pinned], laidTests := true, laidLooks := .later }
def TalkNilCardSaid : Prop := Claim7.holds Tryz.pinned (.plain (OpenSpec.ofChange talkNilSpec)) talkNilCard

/-- THE SECOND FORM's CARD OF 'earshotlaw10.TalkNil'. -/
def talkNilUptoCard : Claim7 := { stood := { row := talkNilUptoRow, standIns := [], harness := (true, "2d8375c116c1f71cf6a0d874d55d4881cb0eef682eabdf483eb178cd1f5426ef"), looks := true }, kinds := [], alts := [], laidByText := true, laidKinds := [.data, .data, .widerDeep, .widerDeep, .pinned], laidTests := true, laidLooks := .later }
def TalkNilUptoCardSaid : Prop := Claim7.holds Tryz.pinned (.plain (OpenSpec.upto talkNilSpec)) talkNilUptoCard
end Rows
end Go.Proofs.YtfbdihpllmhcnaaGreatDoor
