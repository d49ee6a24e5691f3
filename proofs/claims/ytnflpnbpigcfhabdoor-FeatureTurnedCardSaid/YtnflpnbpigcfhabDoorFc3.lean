/- a closed fact on the program, proved once for the seat (it takes much memory: a text of its own) -/
import Derived.Test.YtnflpnbpigcfhabDoorRows
import Derived.JoinedOf
namespace Go.Proofs.YtnflpnbpigcfhabDoor
theorem fact3 : ((Tryd.pinned.checked.prog.make == some Rows.featureTurnedRow.make)) = true := by kernel_rfl
end Go.Proofs.YtnflpnbpigcfhabDoor
