/- Resample: the walks -/
import Derived.Test.YtnflpnbpigcfhaaSame
import Derived.Test.YtnflpnbpigcfhaaPRes
namespace Go.Proofs.Ytnflpnbpigcfhaa
open Go.RowKit Ear

theorem clamp_lt {l : List Int} {i : Nat} (h : i < l.length) : clamp l i = l[i]?.getD 0 := by
  unfold clamp; rw [Nat.min_eq_left (by omega)]
theorem clamp_ge {l : List Int} {i : Nat} (h : l.length ≤ i) : clamp l i = l[l.length - 1]?.getD 0 := by
  unfold clamp; rw [Nat.min_eq_right (by omega)]

set_option maxHeartbeats 400000 in
theorem smooth1_any (A : Option Addr) (c : Nat) (l : List Int) (i : Int) (m : Nat) (bw br bn : Nat) (w : World) (h : Lies w A (ics l)) (hs : Hid (smp l = true)) (h0 : 0 < l.length) (hl : l.length ≤ 200000) (hi0 : 0 ≤ i) (hi : i ≤ 10000000) (hm1 : 1 ≤ m) (hm : m ≤ 1000)
    (cw : w.cell? ⟨bw, 0, none⟩ = some (.int .i64 m)) (cr : w.cell? ⟨br, 1, none⟩ = some (.slice A l.length c)) (cn : w.cell? ⟨bn, 0, none⟩ = some (.int .i64 l.length)) :
    Calls Try.prog 22 #[.int .i64 i, .pointer (some ⟨bw, 0, none⟩), .pointer (some ⟨br, 0, none⟩), .pointer (some ⟨bn, 0, none⟩)] w fun e w' => e = .returned (.int .i64 (smo l i.toNat m)) ∧ w = w' := by
  obtain ⟨i, rfl⟩ := Int.eq_ofNat_of_zero_le hi0
  rw [Int.toNat_natCast]
  go_enter Try.func22, Try.ntmps22
  go_wp2_with fail
  go_loop [6, 7, 9] (fun s _ k => ∃ j : Nat, j ≤ m ∧ k = .int .i64 j ∧ s = .int .i64 (ssum l i j)) (fun _ _ k => m - (intOf k).toNat)
  case atStart => exact ⟨0, Nat.zero_le _, rfl, rfl⟩
  case round =>
    obtain ⟨j, hj, rfl, rfl⟩ := hrel
    have hb := ssum_bd hs.out h0 i j
    have hc := clamp_bd hs.out h0 (i + j)
    by_cases hlt : j < m
    · by_cases hin : i + j < l.length
      · obtain ⟨bk, off, rfl, hb1, hc1⟩ := h.at_ hin
        rw [← clamp_lt hin] at hc1
        have hmin : min ((i : Int) + j) ((l.length : Int) - 1) = ((i + j : Nat) : Int) := by omega
        go_wp2_with fail
        go_round
        case rel => exact ⟨j + 1, by omega, by go_num, rfl⟩
        case measure => simp [intOf]; omega
      · obtain ⟨bk, off, rfl, hb1, hc1⟩ := h.at_ (k := l.length - 1) (by omega)
        rw [← clamp_ge (i := i + j) (by omega)] at hc1
        have hmin : min ((i : Int) + j) ((l.length : Int) - 1) = (l.length : Int) - 1 := by omega
        go_wp2_with fail
        go_round
        case rel => exact ⟨j + 1, by omega, by go_num, rfl⟩
        case measure => simp [intOf]; omega
    · have : j = m := by omega
      subst this
      go_wp2_with fail
      refine (rounded_any _ _ _ (by omega) (by omega) (by omega) (by omega)).mono ?_
      rintro e w' ⟨rfl, rfl⟩
      go_wp2_with fail
      go_ret
      exact ⟨rfl, rfl⟩
end Go.Proofs.Ytnflpnbpigcfhaa
