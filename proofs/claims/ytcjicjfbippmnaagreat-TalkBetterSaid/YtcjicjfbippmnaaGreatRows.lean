/-
  No cell of these rows narrows 'for every input' (looked for: loops, veiled, ifaces, maps, wideKeys, modest, calm, conditions, laid).
  DERIVED. THE GIVEN ROWS OF THIS SEAT. 10 by the template 'for every input the law returns true; each argument reads behind the call as it read before'; 0 by the template 'total and deterministic' (their statements: YtcjicjfbippmnaaGreatTotals.lean).
  GIVEN WITH THE SEED: the statements are not yours to turn. If you find one false, say at which input.
  Laid BY PROGRAM, IN A SANDBOX (cutbox-rows.mjs): the forced cells as the released guide's own fill.sh prints them over the translation 7dc129f5648ff091… (all of the seat's roots in one cut). By AI agents, Wed Nov 11 2026. No macro, syntax, notation, axiom, sorry.
-/
import Derived.Test.YtcjicjfbippmnaaGreatChecked
import GoSem.Claim
import GoSem.ClaimJoined
import GoSem.ClaimMapViews
import Derived.JoinedTies
import Derived.KernelRfl
namespace Go.Proofs.YtcjicjfbippmnaaGreat
/- THE CELL 'sum', in the pinned program and in every row, IS THE sha256 OF THE DUMP (.gsa) THAT YtcjicjfbippmnaaGreatProg.lean LOADS. Nothing in Lean hashes anything: it is a label: what it is worth is what the hold of that sum in a sandbox is worth. -/
noncomputable def Tryz.pinned : Pinned := { name := "ytcjicjfbippmnaagreat", sum := "7dc129f5648ff09133ced15d5d22149e1cbc6626fa135fa5bdf43fc76cec050f", checked := Tryz.checked }
namespace Rows
def none {H : Type} : Left H := { results := [], args := [] }

/-- 'earshotlaw10.TalkGaps': WHATEVER THE INPUT: true; the input reads as it did. -/
def talkGapsSpec : ChangeSpec := { name := "talkGaps", fn := fun _ => fun
  | [d1, d2] => { results := [.lit (.bool true)], args := [d1, d2] }
  | _ => none }
def talkGapsRow : OpenClaim := { program := "ytcjicjfbippmnaagreat", sum := "7dc129f5648ff09133ced15d5d22149e1cbc6626fa135fa5bdf43fc76cec050f", func := "earshot/earshotlaw10.TalkGaps", spec := "talkGaps", unfollowed := true, recurses := true, plainKeys := false, apart := false }
def TalkGapsSaid : Prop := talkGapsRow.holds Tryz.pinned (OpenSpec.ofChange talkGapsSpec)

/-- ITS FALSE NEIGHBOUR: 'it returns false'. Refute it at one input. -/
def talkGapsWrong : ChangeSpec := { name := "talkGaps", fn := fun _ => fun
  | [d1, d2] => { results := [.lit (.bool false)], args := [d1, d2] }
  | _ => none }
def TalkGapsWrongFalsely : Prop := talkGapsRow.holds Tryz.pinned (OpenSpec.ofChange talkGapsWrong)

/-- 'earshotlaw10.TalkGrows': WHATEVER THE INPUT: true; the input reads as it did. -/
def talkGrowsSpec : ChangeSpec := { name := "talkGrows", fn := fun _ => fun
  | [d1, d2] => { results := [.lit (.bool true)], args := [d1, d2] }
  | _ => none }
def talkGrowsRow : OpenClaim := { program := "ytcjicjfbippmnaagreat", sum := "7dc129f5648ff09133ced15d5d22149e1cbc6626fa135fa5bdf43fc76cec050f", func := "earshot/earshotlaw10.TalkGrows", spec := "talkGrows", unfollowed := true, recurses := true, plainKeys := false, apart := false }
def TalkGrowsSaid : Prop := talkGrowsRow.holds Tryz.pinned (OpenSpec.ofChange talkGrowsSpec)

/-- ITS FALSE NEIGHBOUR: 'it returns false'. Refute it at one input. -/
def talkGrowsWrong : ChangeSpec := { name := "talkGrows", fn := fun _ => fun
  | [d1, d2] => { results := [.lit (.bool false)], args := [d1, d2] }
  | _ => none }
def TalkGrowsWrongFalsely : Prop := talkGrowsRow.holds Tryz.pinned (OpenSpec.ofChange talkGrowsWrong)

/-- 'earshotlaw10.TalkClusters': WHATEVER THE INPUT: true; the input reads as it did. -/
def talkClustersSpec : ChangeSpec := { name := "talkClusters", fn := fun _ => fun
  | [d1, d2, d3] => { results := [.lit (.bool true)], args := [d1, d2, d3] }
  | _ => none }
def talkClustersRow : OpenClaim := { program := "ytcjicjfbippmnaagreat", sum := "7dc129f5648ff09133ced15d5d22149e1cbc6626fa135fa5bdf43fc76cec050f", func := "earshot/earshotlaw10.TalkClusters", spec := "talkClusters", unfollowed := true, recurses := true, plainKeys := false, apart := false }
def TalkClustersSaid : Prop := talkClustersRow.holds Tryz.pinned (OpenSpec.ofChange talkClustersSpec)

/-- ITS FALSE NEIGHBOUR: 'it returns false'. Refute it at one input. -/
def talkClustersWrong : ChangeSpec := { name := "talkClusters", fn := fun _ => fun
  | [d1, d2, d3] => { results := [.lit (.bool false)], args := [d1, d2, d3] }
  | _ => none }
def TalkClustersWrongFalsely : Prop := talkClustersRow.holds Tryz.pinned (OpenSpec.ofChange talkClustersWrong)

/-- 'earshotlaw10.TalkApart': WHATEVER THE INPUT: true; the input reads as it did. -/
def talkApartSpec : ChangeSpec := { name := "talkApart", fn := fun _ => fun
  | [d1, d2, d3] => { results := [.lit (.bool true)], args := [d1, d2, d3] }
  | _ => none }
def talkApartRow : OpenClaim := { program := "ytcjicjfbippmnaagreat", sum := "7dc129f5648ff09133ced15d5d22149e1cbc6626fa135fa5bdf43fc76cec050f", func := "earshot/earshotlaw10.TalkApart", spec := "talkApart", unfollowed := true, recurses := true, plainKeys := false, apart := false }
def TalkApartSaid : Prop := talkApartRow.holds Tryz.pinned (OpenSpec.ofChange talkApartSpec)

/-- ITS FALSE NEIGHBOUR: 'it returns false'. Refute it at one input. -/
def talkApartWrong : ChangeSpec := { name := "talkApart", fn := fun _ => fun
  | [d1, d2, d3] => { results := [.lit (.bool false)], args := [d1, d2, d3] }
  | _ => none }
def TalkApartWrongFalsely : Prop := talkApartRow.holds Tryz.pinned (OpenSpec.ofChange talkApartWrong)

/-- 'earshotlaw10.TalkHears': WHATEVER THE INPUT: true; the input reads as it did. -/
def talkHearsSpec : ChangeSpec := { name := "talkHears", fn := fun _ => fun
  | [d1, d2] => { results := [.lit (.bool true)], args := [d1, d2] }
  | _ => none }
def talkHearsRow : OpenClaim := { program := "ytcjicjfbippmnaagreat", sum := "7dc129f5648ff09133ced15d5d22149e1cbc6626fa135fa5bdf43fc76cec050f", func := "earshot/earshotlaw10.TalkHears", spec := "talkHears", unfollowed := true, recurses := true, plainKeys := false, apart := false }
def TalkHearsSaid : Prop := talkHearsRow.holds Tryz.pinned (OpenSpec.ofChange talkHearsSpec)

/-- ITS FALSE NEIGHBOUR: 'it returns false'. Refute it at one input. -/
def talkHearsWrong : ChangeSpec := { name := "talkHears", fn := fun _ => fun
  | [d1, d2] => { results := [.lit (.bool false)], args := [d1, d2] }
  | _ => none }
def TalkHearsWrongFalsely : Prop := talkHearsRow.holds Tryz.pinned (OpenSpec.ofChange talkHearsWrong)

/-- 'earshotlaw10.TalkGrounds': WHATEVER THE INPUT: true; the input reads as it did. -/
def talkGroundsSpec : ChangeSpec := { name := "talkGrounds", fn := fun _ => fun
  | [d1, d2] => { results := [.lit (.bool true)], args := [d1, d2] }
  | _ => none }
def talkGroundsRow : OpenClaim := { program := "ytcjicjfbippmnaagreat", sum := "7dc129f5648ff09133ced15d5d22149e1cbc6626fa135fa5bdf43fc76cec050f", func := "earshot/earshotlaw10.TalkGrounds", spec := "talkGrounds", unfollowed := true, recurses := true, plainKeys := false, apart := false }
def TalkGroundsSaid : Prop := talkGroundsRow.holds Tryz.pinned (OpenSpec.ofChange talkGroundsSpec)

/-- ITS FALSE NEIGHBOUR: 'it returns false'. Refute it at one input. -/
def talkGroundsWrong : ChangeSpec := { name := "talkGrounds", fn := fun _ => fun
  | [d1, d2] => { results := [.lit (.bool false)], args := [d1, d2] }
  | _ => none }
def TalkGroundsWrongFalsely : Prop := talkGroundsRow.holds Tryz.pinned (OpenSpec.ofChange talkGroundsWrong)

/-- 'earshotlaw10.TalkSettles': WHATEVER THE INPUT: true; the input reads as it did. -/
def talkSettlesSpec : ChangeSpec := { name := "talkSettles", fn := fun _ => fun
  | [d1, d2, d3] => { results := [.lit (.bool true)], args := [d1, d2, d3] }
  | _ => none }
def talkSettlesRow : OpenClaim := { program := "ytcjicjfbippmnaagreat", sum := "7dc129f5648ff09133ced15d5d22149e1cbc6626fa135fa5bdf43fc76cec050f", func := "earshot/earshotlaw10.TalkSettles", spec := "talkSettles", unfollowed := true, recurses := true, plainKeys := false, apart := false }
def TalkSettlesSaid : Prop := talkSettlesRow.holds Tryz.pinned (OpenSpec.ofChange talkSettlesSpec)

/-- ITS FALSE NEIGHBOUR: 'it returns false'. Refute it at one input. -/
def talkSettlesWrong : ChangeSpec := { name := "talkSettles", fn := fun _ => fun
  | [d1, d2, d3] => { results := [.lit (.bool false)], args := [d1, d2, d3] }
  | _ => none }
def TalkSettlesWrongFalsely : Prop := talkSettlesRow.holds Tryz.pinned (OpenSpec.ofChange talkSettlesWrong)

/-- 'earshotlaw10.TalkLearns': WHATEVER THE INPUT: true; the input reads as it did. -/
def talkLearnsSpec : ChangeSpec := { name := "talkLearns", fn := fun _ => fun
  | [d1, d2] => { results := [.lit (.bool true)], args := [d1, d2] }
  | _ => none }
def talkLearnsRow : OpenClaim := { program := "ytcjicjfbippmnaagreat", sum := "7dc129f5648ff09133ced15d5d22149e1cbc6626fa135fa5bdf43fc76cec050f", func := "earshot/earshotlaw10.TalkLearns", spec := "talkLearns", unfollowed := true, recurses := true, plainKeys := false, apart := false }
def TalkLearnsSaid : Prop := talkLearnsRow.holds Tryz.pinned (OpenSpec.ofChange talkLearnsSpec)

/-- ITS FALSE NEIGHBOUR: 'it returns false'. Refute it at one input. -/
def talkLearnsWrong : ChangeSpec := { name := "talkLearns", fn := fun _ => fun
  | [d1, d2] => { results := [.lit (.bool false)], args := [d1, d2] }
  | _ => none }
def TalkLearnsWrongFalsely : Prop := talkLearnsRow.holds Tryz.pinned (OpenSpec.ofChange talkLearnsWrong)

/-- 'earshotlaw10.TalkUnlearns': WHATEVER THE INPUT: true; the input reads as it did. -/
def talkUnlearnsSpec : ChangeSpec := { name := "talkUnlearns", fn := fun _ => fun
  | [d1, d2, d3] => { results := [.lit (.bool true)], args := [d1, d2, d3] }
  | _ => none }
def talkUnlearnsRow : OpenClaim := { program := "ytcjicjfbippmnaagreat", sum := "7dc129f5648ff09133ced15d5d22149e1cbc6626fa135fa5bdf43fc76cec050f", func := "earshot/earshotlaw10.TalkUnlearns", spec := "talkUnlearns", unfollowed := true, recurses := true, plainKeys := false, apart := false }
def TalkUnlearnsSaid : Prop := talkUnlearnsRow.holds Tryz.pinned (OpenSpec.ofChange talkUnlearnsSpec)

/-- ITS FALSE NEIGHBOUR: 'it returns false'. Refute it at one input. -/
def talkUnlearnsWrong : ChangeSpec := { name := "talkUnlearns", fn := fun _ => fun
  | [d1, d2, d3] => { results := [.lit (.bool false)], args := [d1, d2, d3] }
  | _ => none }
def TalkUnlearnsWrongFalsely : Prop := talkUnlearnsRow.holds Tryz.pinned (OpenSpec.ofChange talkUnlearnsWrong)

/-- 'earshotlaw10.TalkBetter': WHATEVER THE INPUT: true; the input reads as it did. -/
def talkBetterSpec : ChangeSpec := { name := "talkBetter", fn := fun _ => fun
  | [d1, d2, d3] => { results := [.lit (.bool true)], args := [d1, d2, d3] }
  | _ => none }
def talkBetterRow : OpenClaim := { program := "ytcjicjfbippmnaagreat", sum := "7dc129f5648ff09133ced15d5d22149e1cbc6626fa135fa5bdf43fc76cec050f", func := "earshot/earshotlaw10.TalkBetter", spec := "talkBetter", unfollowed := true, recurses := true, plainKeys := false, apart := false }
def TalkBetterSaid : Prop := talkBetterRow.holds Tryz.pinned (OpenSpec.ofChange talkBetterSpec)

/-- ITS FALSE NEIGHBOUR: 'it returns false'. Refute it at one input. -/
def talkBetterWrong : ChangeSpec := { name := "talkBetter", fn := fun _ => fun
  | [d1, d2, d3] => { results := [.lit (.bool false)], args := [d1, d2, d3] }
  | _ => none }
def TalkBetterWrongFalsely : Prop := talkBetterRow.holds Tryz.pinned (OpenSpec.ofChange talkBetterWrong)

/- THE SECOND FORM. 'bulk': how many values and letters a reading holds, each counted each time it is reached (what is shared counts as often as it is met; a slice's spare places count too). A statement '..UptoSaid' is the law's where the arguments, and the package variables that the reading takes, are together of bulk at most 1048576: NARROWER than '..Said'. Prove '..Said' where nothing that the law and all that it calls make is longer than what came in: it says more and counts as full. Else prove '..UptoSaid'. A law counts once. -/
mutual
def uptoBulk {H : Type} : DataW H → Nat
  | .lit (.string bytes) => bytes.length + 1
  | .lit _ => 1
  | .nil => 1
  | .ptr d => uptoBulk d + 1
  | .slice elems spare => uptoBulkAll elems + uptoBulkAll spare + 1
  | .agg parts => uptoBulkAll parts + 1
  | .iface _ d => uptoBulk d + 1
  | .map entries => uptoBulkEntries entries + 1
  | .held _ => 1
def uptoBulkAll {H : Type} : List (DataW H) → Nat
  | [] => 0
  | d :: r => uptoBulk d + uptoBulkAll r
def uptoBulkEntries {H : Type} : List (Lit × DataW H) → Nat
  | [] => 0
  | x :: r => uptoBulkEntry x + uptoBulkEntries r
def uptoBulkEntry {H : Type} : Lit × DataW H → Nat
  | (.string bytes, d) => bytes.length + uptoBulk d + 1
  | (_, d) => uptoBulk d + 1
 end
def uptoSmall : (H : Type) → List (DataW H) → Bool := fun _ ds => decide (uptoBulkAll ds ≤ 1048576)
def OpenSpec.upto (s : _root_.Go.ChangeSpec) : _root_.Go.OpenSpec := { _root_.Go.OpenSpec.ofChange s with cond := some uptoSmall }

/-- 'earshotlaw10.TalkGaps', WHERE WHAT IT READS IS OF BULK AT MOST 1048576: true; the input reads as it did. -/
def talkGapsUptoRow : OpenClaim := { program := "ytcjicjfbippmnaagreat", sum := "7dc129f5648ff09133ced15d5d22149e1cbc6626fa135fa5bdf43fc76cec050f", func := "earshot/earshotlaw10.TalkGaps", spec := "talkGaps", unfollowed := true, recurses := true, plainKeys := false, apart := false, narrowed := true }
def TalkGapsUptoSaid : Prop := talkGapsUptoRow.holds Tryz.pinned (OpenSpec.upto talkGapsSpec)

/-- 'earshotlaw10.TalkGrows', WHERE WHAT IT READS IS OF BULK AT MOST 1048576: true; the input reads as it did. -/
def talkGrowsUptoRow : OpenClaim := { program := "ytcjicjfbippmnaagreat", sum := "7dc129f5648ff09133ced15d5d22149e1cbc6626fa135fa5bdf43fc76cec050f", func := "earshot/earshotlaw10.TalkGrows", spec := "talkGrows", unfollowed := true, recurses := true, plainKeys := false, apart := false, narrowed := true }
def TalkGrowsUptoSaid : Prop := talkGrowsUptoRow.holds Tryz.pinned (OpenSpec.upto talkGrowsSpec)

/-- 'earshotlaw10.TalkClusters', WHERE WHAT IT READS IS OF BULK AT MOST 1048576: true; the input reads as it did. -/
def talkClustersUptoRow : OpenClaim := { program := "ytcjicjfbippmnaagreat", sum := "7dc129f5648ff09133ced15d5d22149e1cbc6626fa135fa5bdf43fc76cec050f", func := "earshot/earshotlaw10.TalkClusters", spec := "talkClusters", unfollowed := true, recurses := true, plainKeys := false, apart := false, narrowed := true }
def TalkClustersUptoSaid : Prop := talkClustersUptoRow.holds Tryz.pinned (OpenSpec.upto talkClustersSpec)

/-- 'earshotlaw10.TalkApart', WHERE WHAT IT READS IS OF BULK AT MOST 1048576: true; the input reads as it did. -/
def talkApartUptoRow : OpenClaim := { program := "ytcjicjfbippmnaagreat", sum := "7dc129f5648ff09133ced15d5d22149e1cbc6626fa135fa5bdf43fc76cec050f", func := "earshot/earshotlaw10.TalkApart", spec := "talkApart", unfollowed := true, recurses := true, plainKeys := false, apart := false, narrowed := true }
def TalkApartUptoSaid : Prop := talkApartUptoRow.holds Tryz.pinned (OpenSpec.upto talkApartSpec)

/-- 'earshotlaw10.TalkHears', WHERE WHAT IT READS IS OF BULK AT MOST 1048576: true; the input reads as it did. -/
def talkHearsUptoRow : OpenClaim := { program := "ytcjicjfbippmnaagreat", sum := "7dc129f5648ff09133ced15d5d22149e1cbc6626fa135fa5bdf43fc76cec050f", func := "earshot/earshotlaw10.TalkHears", spec := "talkHears", unfollowed := true, recurses := true, plainKeys := false, apart := false, narrowed := true }
def TalkHearsUptoSaid : Prop := talkHearsUptoRow.holds Tryz.pinned (OpenSpec.upto talkHearsSpec)

/-- 'earshotlaw10.TalkGrounds', WHERE WHAT IT READS IS OF BULK AT MOST 1048576: true; the input reads as it did. -/
def talkGroundsUptoRow : OpenClaim := { program := "ytcjicjfbippmnaagreat", sum := "7dc129f5648ff09133ced15d5d22149e1cbc6626fa135fa5bdf43fc76cec050f", func := "earshot/earshotlaw10.TalkGrounds", spec := "talkGrounds", unfollowed := true, recurses := true, plainKeys := false, apart := false, narrowed := true }
def TalkGroundsUptoSaid : Prop := talkGroundsUptoRow.holds Tryz.pinned (OpenSpec.upto talkGroundsSpec)

/-- 'earshotlaw10.TalkSettles', WHERE WHAT IT READS IS OF BULK AT MOST 1048576: true; the input reads as it did. -/
def talkSettlesUptoRow : OpenClaim := { program := "ytcjicjfbippmnaagreat", sum := "7dc129f5648ff09133ced15d5d22149e1cbc6626fa135fa5bdf43fc76cec050f", func := "earshot/earshotlaw10.TalkSettles", spec := "talkSettles", unfollowed := true, recurses := true, plainKeys := false, apart := false, narrowed := true }
def TalkSettlesUptoSaid : Prop := talkSettlesUptoRow.holds Tryz.pinned (OpenSpec.upto talkSettlesSpec)

/-- 'earshotlaw10.TalkLearns', WHERE WHAT IT READS IS OF BULK AT MOST 1048576: true; the input reads as it did. -/
def talkLearnsUptoRow : OpenClaim := { program := "ytcjicjfbippmnaagreat", sum := "7dc129f5648ff09133ced15d5d22149e1cbc6626fa135fa5bdf43fc76cec050f", func := "earshot/earshotlaw10.TalkLearns", spec := "talkLearns", unfollowed := true, recurses := true, plainKeys := false, apart := false, narrowed := true }
def TalkLearnsUptoSaid : Prop := talkLearnsUptoRow.holds Tryz.pinned (OpenSpec.upto talkLearnsSpec)

/-- 'earshotlaw10.TalkUnlearns', WHERE WHAT IT READS IS OF BULK AT MOST 1048576: true; the input reads as it did. -/
def talkUnlearnsUptoRow : OpenClaim := { program := "ytcjicjfbippmnaagreat", sum := "7dc129f5648ff09133ced15d5d22149e1cbc6626fa135fa5bdf43fc76cec050f", func := "earshot/earshotlaw10.TalkUnlearns", spec := "talkUnlearns", unfollowed := true, recurses := true, plainKeys := false, apart := false, narrowed := true }
def TalkUnlearnsUptoSaid : Prop := talkUnlearnsUptoRow.holds Tryz.pinned (OpenSpec.upto talkUnlearnsSpec)

/-- 'earshotlaw10.TalkBetter', WHERE WHAT IT READS IS OF BULK AT MOST 1048576: true; the input reads as it did. -/
def talkBetterUptoRow : OpenClaim := { program := "ytcjicjfbippmnaagreat", sum := "7dc129f5648ff09133ced15d5d22149e1cbc6626fa135fa5bdf43fc76cec050f", func := "earshot/earshotlaw10.TalkBetter", spec := "talkBetter", unfollowed := true, recurses := true, plainKeys := false, apart := false, narrowed := true }
def TalkBetterUptoSaid : Prop := talkBetterUptoRow.holds Tryz.pinned (OpenSpec.upto talkBetterSpec)

end Rows
end Go.Proofs.YtcjicjfbippmnaaGreat
