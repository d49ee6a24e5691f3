/- a closed fact on the program, proved once for the seat (it takes much memory: a text of its own) -/
import Derived.Test.YtnflpnbpigcfhabDoorRows
import Derived.SevenTiedAt
namespace Go.Proofs.YtnflpnbpigcfhabDoor
theorem fact4 : false = Tryd.pinned.checked.prog.looks [] := by kernel_rfl
end Go.Proofs.YtnflpnbpigcfhabDoor
