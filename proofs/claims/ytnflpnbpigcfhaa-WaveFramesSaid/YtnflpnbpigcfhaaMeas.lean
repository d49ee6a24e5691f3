/- changes of sign and peak: the program's and the reference's -/
import Derived.Test.YtnflpnbpigcfhaaSame
import Derived.Test.YtnflpnbpigcfhaaPMeas
namespace Go.Proofs.Ytnflpnbpigcfhaa
open Go.RowKit Ear

/-- a number comes back; nothing is written -/
def RetInt (v : Int) (w : World) (e : Ending) (w' : World) : Prop := e = .returned (.int .i64 v) ∧ ∃ n, w' = w.drewN n
/-- a number and an error -/
def RetIntErr (v err : Int) (w : World) (e : Ending) (w' : World) : Prop := e = .returned (.tuple #[.int .i64 v, .int .i64 err]) ∧ ∃ n, w' = w.drewN n
theorem ret_int2 {k : IntKind} {a b : Int} {x : Value} (h : a = b) : Ending.returned (.tuple #[.int k a, x]) = .returned (.tuple #[.int k b, x]) := by rw [h]

end Go.Proofs.Ytnflpnbpigcfhaa
