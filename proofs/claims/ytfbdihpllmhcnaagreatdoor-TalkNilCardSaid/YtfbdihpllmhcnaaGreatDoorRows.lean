/-
  NARROWER THAN 'FOR EVERY INPUT', by the rows' own cells (each row's printed sentence says how): TalkNil: laid.
  DERIVED. THE GIVEN ROWS OF THIS SEAT. 1 by the template 'for every input the law returns true; each argument reads behind the call as it read before'; 0 by the template 'total and deterministic' (their statements: YtfbdihpllmhcnaaGreatDoorTotals.lean).
  GIVEN WITH THE SEED: the statements are not yours to turn. If you find one false, say at which input.
  Laid BY PROGRAM, IN A SANDBOX (cutbox-rows.mjs): the forced cells as the released guide's own fill.sh prints them over the translation 5a8c0a5c9d1bdc5f… (all of the seat's roots in one cut). By AI agents, Wed Nov 11 2026. No macro, syntax, notation, axiom, sorry.
-/
import Derived.Test.YtfbdihpllmhcnaaGreatDoorChecked
import GoSem.PinnedTables
import GoSem.Claim
import GoSem.ClaimJoined
import GoSem.ClaimMapViews
import Derived.JoinedTies
import Derived.KernelRfl
namespace Go.Proofs.YtfbdihpllmhcnaaGreatDoor
/- THE CELL 'sum', in the pinned program and in every row, IS THE sha256 OF THE DUMP (.gsa) THAT YtfbdihpllmhcnaaGreatDoorProg.lean LOADS. Nothing in Lean hashes anything: it is a label: what it is worth is what the hold of that sum in a sandbox is worth. -/
noncomputable def Tryz.pinned : Pinned := { name := "ytfbdihpllmhcnaagreatdoor", sum := "5a8c0a5c9d1bdc5f6faf0ff4fdb584ab14f917e94a388f1c0d210403ecd2ca28", checked := Tryz.checked }
namespace Rows
def none {H : Type} : Left H := { results := [], args := [] }

/- WHAT THE LISTED PACKAGE-LEVEL VARIABLES READ AS WHEN THE CALL BEGINS. Each datum BY PROGRAM (the guide's laid-datum.mjs) off the statement by which the dump's own 'gosem.cut.vars' lays the variable. In a bare row this is a premise. The card (YtfbdihpllmhcnaaGreatDoorCards.lean) ties it to the program's text. -/
def laid_earshot_api_Cosines {H : Type} : DataW H := .agg [.lit (.int .i64 16384), .lit (.int .i64 16379), .lit (.int .i64 16364), .lit (.int .i64 16340), .lit (.int .i64 16305), .lit (.int .i64 16261), .lit (.int .i64 16207), .lit (.int .i64 16143), .lit (.int .i64 16069), .lit (.int .i64 15986), .lit (.int .i64 15893), .lit (.int .i64 15791), .lit (.int .i64 15679), .lit (.int .i64 15557), .lit (.int .i64 15426), .lit (.int .i64 15286), .lit (.int .i64 15137), .lit (.int .i64 14978), .lit (.int .i64 14811), .lit (.int .i64 14635), .lit (.int .i64 14449), .lit (.int .i64 14256), .lit (.int .i64 14053), .lit (.int .i64 13842), .lit (.int .i64 13623), .lit (.int .i64 13395), .lit (.int .i64 13160), .lit (.int .i64 12916), .lit (.int .i64 12665), .lit (.int .i64 12406), .lit (.int .i64 12140), .lit (.int .i64 11866), .lit (.int .i64 11585), .lit (.int .i64 11297), .lit (.int .i64 11003), .lit (.int .i64 10702), .lit (.int .i64 10394), .lit (.int .i64 10080), .lit (.int .i64 9760), .lit (.int .i64 9434), .lit (.int .i64 9102), .lit (.int .i64 8765), .lit (.int .i64 8423), .lit (.int .i64 8076), .lit (.int .i64 7723), .lit (.int .i64 7366), .lit (.int .i64 7005), .lit (.int .i64 6639), .lit (.int .i64 6270), .lit (.int .i64 5897), .lit (.int .i64 5520), .lit (.int .i64 5139), .lit (.int .i64 4756), .lit (.int .i64 4370), .lit (.int .i64 3981), .lit (.int .i64 3590), .lit (.int .i64 3196), .lit (.int .i64 2801), .lit (.int .i64 2404), .lit (.int .i64 2006), .lit (.int .i64 1606), .lit (.int .i64 1205), .lit (.int .i64 804), .lit (.int .i64 402), .lit (.int .i64 0)]
def laid_unicode_utf8_acceptRanges {H : Type} : DataW H := .agg [.agg [.lit (.int .u8 128), .lit (.int .u8 191)], .agg [.lit (.int .u8 160), .lit (.int .u8 191)], .agg [.lit (.int .u8 128), .lit (.int .u8 159)], .agg [.lit (.int .u8 144), .lit (.int .u8 191)], .agg [.lit (.int .u8 128), .lit (.int .u8 143)], .agg [.lit (.int .u8 0), .lit (.int .u8 0)], .agg [.lit (.int .u8 0), .lit (.int .u8 0)], .agg [.lit (.int .u8 0), .lit (.int .u8 0)], .agg [.lit (.int .u8 0), .lit (.int .u8 0)], .agg [.lit (.int .u8 0), .lit (.int .u8 0)], .agg [.lit (.int .u8 0), .lit (.int .u8 0)], .agg [.lit (.int .u8 0), .lit (.int .u8 0)], .agg [.lit (.int .u8 0), .lit (.int .u8 0)], .agg [.lit (.int .u8 0), .lit (.int .u8 0)], .agg [.lit (.int .u8 0), .lit (.int .u8 0)], .agg [.lit (.int .u8 0), .lit (.int .u8 0)]]
def laid_earshot_written_powers {H : Type} : DataW H := .agg [.lit (.string []), .lit (.string [116, 104, 111, 117, 115, 97, 110, 100]), .lit (.string [109, 105, 108, 108, 105, 111, 110]), .lit (.string [98, 105, 108, 108, 105, 111, 110])]
def laid_earshot_written_months {H : Type} : DataW H := .agg [.lit (.string [106, 97, 110, 117, 97, 114, 121]), .lit (.string [102, 101, 98, 114, 117, 97, 114, 121]), .lit (.string [109, 97, 114, 99, 104]), .lit (.string [97, 112, 114, 105, 108]), .lit (.string [109, 97, 121]), .lit (.string [106, 117, 110, 101]), .lit (.string [106, 117, 108, 121]), .lit (.string [97, 117, 103, 117, 115, 116]), .lit (.string [115, 101, 112, 116, 101, 109, 98, 101, 114]), .lit (.string [111, 99, 116, 111, 98, 101, 114]), .lit (.string [110, 111, 118, 101, 109, 98, 101, 114]), .lit (.string [100, 101, 99, 101, 109, 98, 101, 114])]
/-- One of Go's own tables, pinned by name: the form's constant. -/
def laid_unicode_utf8_first : DataW Unit := Go.Pinned.utf8First

/-- 'earshotlaw10.TalkNil': WHATEVER THE INPUT: true; the input reads as it did. -/
def talkNilSpec : ChangeSpec := { name := "talkNil", fn := fun _ => fun
  | [d1, d2] => { results := [.lit (.bool true)], args := [d1, d2] }
  | _ => none }
def talkNilRow : OpenClaim := { program := "ytfbdihpllmhcnaagreatdoor", sum := "5a8c0a5c9d1bdc5f6faf0ff4fdb584ab14f917e94a388f1c0d210403ecd2ca28", func := "earshot/earshotlaw10.TalkNil", spec := "talkNil", inPlace := ["internal/abi.NoEscape", "internal/bytealg.MakeNoZero", "internal/bytealg.CountString", "internal/bytealg.IndexByteString", "internal/bytealg.IndexString"], unfollowed := true, recurses := true, named := ["earshot/api.Cosines", "unicode/utf8.first", "unicode/utf8.acceptRanges", "internal/bytealg.MaxLen", "earshot/written.powers", "earshot/written.months", "earshot/written.units", "earshot/written.tens"], plainKeys := false, apart := false, laid := [("earshot/api.Cosines", laid_earshot_api_Cosines), ("unicode/utf8.acceptRanges", laid_unicode_utf8_acceptRanges), ("earshot/written.powers", laid_earshot_written_powers), ("earshot/written.months", laid_earshot_written_months), ("unicode/utf8.first", laid_unicode_utf8_first)] }
def TalkNilSaid : Prop := talkNilRow.holds Tryz.pinned (OpenSpec.ofChange talkNilSpec)

/-- ITS FALSE NEIGHBOUR: 'it returns false'. Refute it at one input. -/
def talkNilWrong : ChangeSpec := { name := "talkNil", fn := fun _ => fun
  | [d1, d2] => { results := [.lit (.bool false)], args := [d1, d2] }
  | _ => none }
def TalkNilWrongFalsely : Prop := talkNilRow.holds Tryz.pinned (OpenSpec.ofChange talkNilWrong)

/- THE SECOND FORM. 'bulk': how many values and letters a reading holds, each counted each time it is reached (what is shared counts as often as it is met; a slice's spare places count too). A statement '..UptoSaid' is the law's where the arguments, and the package variables that the reading takes, are together of bulk at most 1048576: NARROWER than '..Said'. Prove '..Said' where nothing that the law and all that it calls make is longer than what came in: it says more and counts as full. Else prove '..UptoSaid'. A law counts once. -/
mutual
def uptoBulk {H : Type} : DataW H → Nat
  | .lit (.string bytes) => bytes.length + 1
  | .lit _ => 1
  | .nil => 1
  | .ptr d => uptoBulk d + 1
  | .slice elems spare => uptoBulkAll elems + uptoBulkAll spare + 1
  | .agg parts => uptoBulkAll parts + 1
  | .iface _ d => uptoBulk d + 1
  | .map entries => uptoBulkEntries entries + 1
  | .held _ => 1
def uptoBulkAll {H : Type} : List (DataW H) → Nat
  | [] => 0
  | d :: r => uptoBulk d + uptoBulkAll r
def uptoBulkEntries {H : Type} : List (Lit × DataW H) → Nat
  | [] => 0
  | x :: r => uptoBulkEntry x + uptoBulkEntries r
def uptoBulkEntry {H : Type} : Lit × DataW H → Nat
  | (.string bytes, d) => bytes.length + uptoBulk d + 1
  | (_, d) => uptoBulk d + 1
 end
def uptoSmall : (H : Type) → List (DataW H) → Bool := fun _ ds => decide (uptoBulkAll ds ≤ 1048576)
def OpenSpec.upto (s : _root_.Go.ChangeSpec) : _root_.Go.OpenSpec := { _root_.Go.OpenSpec.ofChange s with cond := some uptoSmall }

/-- 'earshotlaw10.TalkNil', WHERE WHAT IT READS IS OF BULK AT MOST 1048576: true; the input reads as it did. -/
def talkNilUptoRow : OpenClaim := { program := "ytfbdihpllmhcnaagreatdoor", sum := "5a8c0a5c9d1bdc5f6faf0ff4fdb584ab14f917e94a388f1c0d210403ecd2ca28", func := "earshot/earshotlaw10.TalkNil", spec := "talkNil", inPlace := ["internal/abi.NoEscape", "internal/bytealg.MakeNoZero", "internal/bytealg.CountString", "internal/bytealg.IndexByteString", "internal/bytealg.IndexString"], unfollowed := true, recurses := true, named := ["earshot/api.Cosines", "unicode/utf8.first", "unicode/utf8.acceptRanges", "internal/bytealg.MaxLen", "earshot/written.powers", "earshot/written.months", "earshot/written.units", "earshot/written.tens"], plainKeys := false, apart := false, laid := [("earshot/api.Cosines", laid_earshot_api_Cosines), ("unicode/utf8.acceptRanges", laid_unicode_utf8_acceptRanges), ("earshot/written.powers", laid_earshot_written_powers), ("earshot/written.months", laid_earshot_written_months), ("unicode/utf8.first", laid_unicode_utf8_first)], narrowed := true }
def TalkNilUptoSaid : Prop := talkNilUptoRow.holds Tryz.pinned (OpenSpec.upto talkNilSpec)

end Rows
end Go.Proofs.YtfbdihpllmhcnaaGreatDoor
