/- a closed fact on the program, proved once for the seat (it takes much memory: a text of its own) -/
import Derived.Test.YtnflpnbpigcfhabDoorRows
import Derived.JoinedOf
namespace Go.Proofs.YtnflpnbpigcfhabDoor
theorem fact2 : ((Rows.featureTurnedRow.lifted == Tryd.pinned.checked.prog.liftsFinal)) = true := by kernel_rfl
end Go.Proofs.YtnflpnbpigcfhabDoor
