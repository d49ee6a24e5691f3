/- a closed fact on the program, proved once for the seat (it takes much memory: a text of its own) -/
import Derived.Test.YtnflpnbpigcfhabGreatDoorRows
import Derived.SevenTiedAt
namespace Go.Proofs.YtnflpnbpigcfhabGreatDoor
theorem fact4 : false = Tryz.pinned.checked.prog.looks [] := by kernel_rfl
end Go.Proofs.YtnflpnbpigcfhabGreatDoor
