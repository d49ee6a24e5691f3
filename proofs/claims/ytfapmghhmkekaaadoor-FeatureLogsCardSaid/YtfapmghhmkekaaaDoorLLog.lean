/- FeatureLogs: the walk -/
import Derived.Test.YtfapmghhmkekaaaDoorRLog
import Derived.Test.YtfapmghhmkekaaaDoorMc
namespace Go.Proofs.YtfapmghhmkekaaaDoor
open Go.RowKit Ear

theorem rLog_any (n : Nat) (w : World) (h1 : n ≤ 9223372036854775807) : Calls Tryd.prog 29 #[.int .i64 n] w (RetIB (lg n) w) := by
  rcases Nat.eq_zero_or_pos n with h | h
  · subst h; exact rLog_zero w
  · exact rLog_pos n w h h1
set_option maxRecDepth 100000 in
set_option maxHeartbeats 1000000 in
theorem FeatureLogs_neg (n : Int) (w : World) (hC : CosOk w) (hk : Kn) (h : n < 0) : Calls Tryd.prog 6 #[.int .i64 n] w (RetB true w) := by
  go_enter Tryd.func6, Tryd.ntmps6
  go_wp2_with fail
  refine (Log_neg n w h).mono ?_
  rintro e w1 ⟨rfl, hb1⟩
  have C1 := Lib.hid (hC.below hb1)
  have B1 := Lib.hid hb1
  clear hb1
  go_wp2_with fail
  refine (hk _ C1.out).mono ?_
  rintro e w2 ⟨rfl, hb2⟩
  go_wp2_with fail
  go_ret
  exact ⟨rfl, B1.out.trans (hb2.mono B1.out.size)⟩
set_option maxRecDepth 100000 in
set_option maxHeartbeats 1000000 in
theorem FeatureLogs_pos (n : Nat) (w : World) (hC : CosOk w) (hk : Kn) (h : n ≤ 9223372036854775807) : Calls Tryd.prog 6 #[.int .i64 n] w (RetB true w) := by
  have HR := Lib.hid (fun W => rLog_any n W h)
  have HL := Lib.hid (fun W => Log_any n W h)
  generalize lg n = l at *
  go_enter Tryd.func6, Tryd.ntmps6
  go_wp2_with fail
  refine (HL.out w).mono ?_
  rintro e w1 ⟨rfl, hb1⟩
  have C1 := Lib.hid (hC.below hb1)
  have B1 := Lib.hid hb1
  clear hb1
  go_wp2_with fail
  refine (HR.out w1).mono ?_
  rintro e w2 ⟨rfl, hb2⟩
  have C2 := Lib.hid (C1.out.below hb2)
  have B2 := Lib.hid (B1.out.trans (hb2.mono B1.out.size))
  clear hb2 B1 C1
  go_wp2_with fail
  refine (hk _ C2.out).mono ?_
  rintro e w3 ⟨rfl, hb3⟩
  go_wp2_with fail
  go_ret
  exact ⟨rfl, B2.out.trans (hb3.mono B2.out.size)⟩
theorem FeatureLogs_any (n : Int) (w : World) (hC : CosOk w) (hk : Kn) (h1 : -9223372036854775808 ≤ n) (h2 : n ≤ 9223372036854775807) : Calls Tryd.prog 6 #[.int .i64 n] w (RetB true w) := by
  by_cases h : n < 0
  · exact FeatureLogs_neg n w hC hk h
  · have e : n = (n.toNat : Int) := by omega
    rw [e]
    exact FeatureLogs_pos n.toNat w hC hk (by omega)
end Go.Proofs.YtfapmghhmkekaaaDoor
