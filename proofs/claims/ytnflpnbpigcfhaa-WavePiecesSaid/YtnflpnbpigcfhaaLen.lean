/- bits.Len32: how many bits a number has (the library's own text walked; the lines were laid by the kit's shelf for this program) -/
import Derived.Test.YtnflpnbpigcfhaaChecked
import Derived.Lib.Strings
import Derived.Lib.Slices
import Derived.Lib.Small
import Derived.Lib.Walk
import Derived.Lib.BitFns
namespace Go.Proofs.Ytnflpnbpigcfhaa

end Go.Proofs.Ytnflpnbpigcfhaa
