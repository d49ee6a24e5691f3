/- energy (both), short -/
import Derived.Test.YtnflpnbpigcfhaaEnr
import Derived.Test.YtnflpnbpigcfhaaMeas
namespace Go.Proofs.Ytnflpnbpigcfhaa
open Go.RowKit Ear

/-- what is wrong with a list whose energy is asked for -/
def echk (l : List Int) : Int := if 200000 < l.length then 5 else if allR (-65536) 65535 l = true then 0 else 2

set_option maxHeartbeats 400000 in
theorem short_any (n : Int) (w : World) (b : Bool) (hb : Hid (decide (n ≤ 3000 ∨ (200000 < n ∧ n < 250000)) = b)) :
    Calls Try.prog 5 #[.int .i64 n] w fun e w' => e = .returned (.bool b) ∧ w = w' := by
  have hb' := hb.out
  clear hb
  subst hb'
  by_cases h1 : n ≤ 3000
  · go_enter Try.func5, Try.ntmps5
    go_wp2_with fail
    go_ret
    exact ⟨ret_bool (by simp [h1]), rfl⟩
  by_cases h2 : 200000 < n
  · by_cases h3 : n < 250000
    all_goals
      go_enter Try.func5, Try.ntmps5
      go_wp2_with fail
      go_ret
      exact ⟨ret_bool (by simp <;> omega), rfl⟩
  · go_enter Try.func5, Try.ntmps5
    go_wp2_with fail
    go_ret
    exact ⟨ret_bool (by simp; omega), rfl⟩

end Go.Proofs.Ytnflpnbpigcfhaa
