/- the reference's Emphasis -/
import Derived.Test.YtnflpnbpigcfhabDoorRWin
import Derived.Test.YtnflpnbpigcfhabDoorPEmpLaw
namespace Go.Proofs.YtnflpnbpigcfhabDoor
open Go.RowKit Ear

set_option maxHeartbeats 400000 in
theorem Shape_any (num den : Int) (w : World) (b : Bool) (hb : Hid (decide (0 ≤ num ∧ num ≤ den ∧ 1 ≤ den ∧ den ≤ 1024) = b)) :
    Calls Tryd.prog 10 #[.int .i64 num, .int .i64 den] w fun e w' => e = .returned (.bool b) ∧ w = w' := by
  have hb' := hb.out
  clear hb
  subst hb'
  by_cases h1 : 0 < den
  · by_cases h2 : den ≤ 1024
    · by_cases h3 : 0 ≤ num
      · by_cases h4 : num ≤ den
        all_goals
          go_enter Tryd.func10, Tryd.ntmps10
          go_wp2_with fail
          go_ret
          exact ⟨ret_bool (by simp; omega), rfl⟩
      · go_enter Tryd.func10, Tryd.ntmps10
        go_wp2_with fail
        go_ret
        exact ⟨ret_bool (by simp; omega), rfl⟩
    · go_enter Tryd.func10, Tryd.ntmps10
      go_wp2_with fail
      go_ret
      exact ⟨ret_bool (by simp; omega), rfl⟩
  · go_enter Tryd.func10, Tryd.ntmps10
    go_wp2_with fail
    go_ret
    exact ⟨ret_bool (by simp; omega), rfl⟩

end Go.Proofs.YtnflpnbpigcfhabDoor
