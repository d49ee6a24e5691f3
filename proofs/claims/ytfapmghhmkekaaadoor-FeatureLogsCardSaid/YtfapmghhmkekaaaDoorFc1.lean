/- a closed fact on the program, proved once for the seat (it takes much memory: a text of its own) -/
import Derived.Test.YtfapmghhmkekaaaDoorRows
import Derived.JoinedOf
namespace Go.Proofs.YtfapmghhmkekaaaDoor
theorem fact1 : (Tryd.pinned.checked.prog.mayEnter) = true := by kernel_rfl
end Go.Proofs.YtfapmghhmkekaaaDoor
