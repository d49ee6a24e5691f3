/- rounding -/
import Derived.Test.YtnflpnbpigcfhaaBase
import Derived.Test.YtnflpnbpigcfhaaPRnd
namespace Go.Proofs.Ytnflpnbpigcfhaa
open Go.RowKit Ear

theorem ret_int {k : IntKind} {a b : Int} (h : a = b) : Ending.returned (.int k a) = .returned (.int k b) := by rw [h]

set_option maxHeartbeats 400000 in
theorem rounded_pos (a b : Int) (w : World) (h0 : 0 ≤ a) (hb : 1 ≤ b) (h : 2 * a + b ≤ 9223372036854775807) (hb2 : 2 * b ≤ 9223372036854775807) :
    Calls Try.prog 23 #[.int .i64 a, .int .i64 b] w fun e w' => e = .returned (.int .i64 (rnd a b)) ∧ w = w' := by
  go_enter Try.func23, Try.ntmps23
  go_wp2_with fail
  go_ret
  exact ⟨ret_int (rnd_pos h0).symm, rfl⟩
set_option maxHeartbeats 400000 in
theorem rounded_any (a b : Int) (w : World) (hb : 1 ≤ b) (h : 2 * a + b ≤ 9223372036854775807) (h' : -9223372036854775807 ≤ 2 * a - b) (hb2 : 2 * b ≤ 9223372036854775807) :
    Calls Try.prog 23 #[.int .i64 a, .int .i64 b] w fun e w' => e = .returned (.int .i64 (rnd a b)) ∧ w = w' := by
  by_cases h0 : 0 ≤ a
  · exact rounded_pos a b w h0 hb h hb2
  · have hr := (rnd_bd (a := -a) hb).1 (by omega)
    go_enter Try.func23, Try.ntmps23
    go_wp2_with (go_at_call 23; refine (rounded_pos _ _ _ (by omega) (by omega) (by omega) (by omega)).mono ?_; rintro e w' ⟨rfl, rfl⟩)
    go_ret
    exact ⟨ret_int (rnd_of_neg (by omega)).symm, rfl⟩
end Go.Proofs.Ytnflpnbpigcfhaa
