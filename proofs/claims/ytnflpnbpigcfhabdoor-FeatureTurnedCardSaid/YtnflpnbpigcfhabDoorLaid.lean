/- the listed variable: from what the row lists to the table's cells; a world in which it lies -/
import Derived.Test.YtnflpnbpigcfhabDoorMb
import Derived.ProofKit
import Derived.LaidMore
import Derived.Lib.LaidTab
import Derived.ChangeSame
import Derived.ChangeVars
import Derived.LaidLaws
import Derived.LaidHandle
import Derived.Stop.Joined
namespace Go.Proofs.YtnflpnbpigcfhabDoor
open Go.ChangeShapes Go.WideShapes Go.RowKit Ear

theorem own : ownKnob Tryd.prog.godebug = none := by kernel_rfl
theorem laidOut : laidOutB Tryd.prog = true := by kernel_rfl
/-- what the rows list -/
def cosLaid : List (String × DataW Unit) := [("earshot/api.Cosines", Rows.laid_earshot_api_Cosines)]
theorem gCos : Tryd.prog.globalNamed "earshot/api.Cosines" = some 0 := by kernel_rfl
theorem gCosType : (Tryd.prog.globals[0]?).map (·.type) = some 75 := by kernel_rfl
theorem cos_of_laid {W : World} (h : laidMetH Tryd.prog cosLaid W) : CosOk W := by
  rw [MakeChecks.laidMetH_plain _ _ _ (by kernel_rfl)] at h
  have ht : Lib.TabIs Tryd.prog W "earshot/api.Cosines" .i64 cosTab := Lib.tabIs_of_head gCos gCosType Tryd.underlying75 Tryd.underlying3 (by kernel_rfl) (by kernel_rfl) (rest := []) h
  refine fun h0 => ⟨0, 0, rfl, ?_, fun k u hu => ?_⟩
  · exact World.block_lt_of_cell? W ⟨0, 0, none⟩ (ht.cell gCos 0 (by decide))
  · have hk : k < cosTab.length := by have := (List.getElem?_eq_some_iff.1 hu).1; simpa using this
    rw [Nat.zero_add, ht.cell gCos k hk]
    rw [List.getElem?_map, List.getElem?_eq_getElem hk] at hu
    rw [← hu, List.getD_eq_getElem?_getD, List.getElem?_eq_getElem hk]; rfl
/-- a world in which it lies -/
noncomputable def laidWorld (os : Os) : World :=
  { World.holding Tryd.prog os ⟨#[], #[], []⟩ with heap := (World.holding Tryd.prog os ⟨#[], #[], []⟩).heap.modify 0 fun
      | .cells _ t frozen => .cells (cosTab.map fun z => Value.int .i64 z).toArray t frozen
      | o => o }
theorem laid_met (os : Os) (args : Array Value) : laidMetH Tryd.prog cosLaid ((laidWorld os).forCall (fun _ _ => 0) ⟨#[], args, []⟩).memory := by
  rw [MakeChecks.laidMetH_plain _ _ _ (by kernel_rfl)]
  exact laidMet_of_run' 8 (by kernel_rfl) (by kernel_rfl)
end Go.Proofs.YtnflpnbpigcfhabDoor
