/- a closed fact on the program, proved once for the seat (it takes much memory: a text of its own) -/
import Derived.Test.YtnflpnbpigcfhabGreatDoorRows
import Derived.JoinedOf
namespace Go.Proofs.YtnflpnbpigcfhabGreatDoor
theorem fact2 : ((Rows.featureExtractsRow.lifted == Tryz.pinned.checked.prog.liftsFinal)) = true := by kernel_rfl
end Go.Proofs.YtnflpnbpigcfhabGreatDoor
