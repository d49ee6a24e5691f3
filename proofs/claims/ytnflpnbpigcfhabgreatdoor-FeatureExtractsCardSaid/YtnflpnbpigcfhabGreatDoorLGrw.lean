/- FeatureGrows: the walk -/
import Derived.Test.YtnflpnbpigcfhabGreatDoorMc
import Derived.Test.YtnflpnbpigcfhabGreatDoorMb
namespace Go.Proofs.YtnflpnbpigcfhabGreatDoor
open Go.RowKit Ear

theorem lg_bd {e : Nat} (h0 : e ≠ 0) (h : e < 2 ^ 63) : 0 ≤ lg e ∧ lg e ≤ 1008 := by
  rw [lg_pos h0]
  obtain ⟨K, hK⟩ : ∃ K, K = 63 * 16 := ⟨_, rfl⟩
  have h2 : e ^ 16 < 2 ^ K := by
    have := Nat.pow_lt_pow_left h (show 16 ≠ 0 by decide)
    rwa [← Nat.pow_mul, ← hK] at this
  have := (Nat.log2_lt (pow16_ne h0)).2 h2
  omega
end Go.Proofs.YtnflpnbpigcfhabGreatDoor
