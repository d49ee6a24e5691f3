/- TalkNil -/
import Derived.ProofKit
import Derived.LaidMore
import Derived.Lib.LaidTab
import Derived.Stop.Joined
import Derived.Test.YtfbdihpllmhcnaaGreatDoorRows
set_option maxRecDepth 100000
set_option maxHeartbeats 32000000
namespace Go.Proofs.YtfbdihpllmhcnaaGreatDoor
open Go.ChangeShapes Go.WideShapes Go.RowKit

theorem Zix:ownKnob Tryz.prog.godebug = none:=by kernel_rfl
theorem ZbV:laidOutB Tryz.prog = true:=by kernel_rfl
def ZS:List (DataW Unit) -> List Value
 | []=>[]
 | .lit (.int k z) :: l=>.int k z :: ZS l
 | .lit (.string b) :: l=>.string ⟨b.toArray⟩ :: ZS l
 | .agg [.lit (.int k y),.lit (.int j z)] :: l=>.int k y :: .int j z :: ZS l
 | _ :: l=>ZS l
def ZfE:DataW Unit -> List Value
 | .agg l=>ZS l
 | _=>[]
def lay (d:DataW Unit):Obj -> Obj
 | .cells _ t frozen=>.cells (ZfE d).toArray t frozen
 | o=>o
noncomputable def Qd (os:Os):World:=
 { World.holding Tryz.prog os ⟨#[],#[],[]⟩ with heap:=(((((World.holding Tryz.prog os ⟨#[],#[],[]⟩).heap.modify 5 (lay Rows.laid_earshot_api_Cosines)).modify 7 (lay Rows.laid_unicode_utf8_acceptRanges)).modify 0 (lay Rows.laid_earshot_written_powers)).modify 1 (lay Rows.laid_earshot_written_months)).modify 6 (lay Rows.laid_unicode_utf8_first) }
theorem ZdJ (os:Os) (args:Array Value):laidMetH Tryz.prog Rows.talkNilRow.laid ((Qd os).forCall (fun _ _=>0) ⟨#[],args,[]⟩).memory:=by
 rw [MakeChecks.laidMetH_plain _ _ _ (by kernel_rfl)]
 exact laidMet_of_run' 8 (by kernel_rfl) (by kernel_rfl)
end Go.Proofs.YtfbdihpllmhcnaaGreatDoor
