/- WaveWindows: the walk -/
import Derived.Test.YtnhkngmdjomfjaaKnown
import Derived.Test.YtnhkngmdjomfjaaRWin
import Derived.Test.YtnhkngmdjomfjaaPWinLaw
namespace Go.Proofs.Ytnhkngmdjomfjaa
open Go.RowKit Ear

set_option maxHeartbeats 1000000 in
theorem WaveWindows_bad (kind size : Int) (w : World) (h : Hid (kind < 1 ∨ 3 < kind ∨ size < 1 ∨ 4096 < size)) : Calls Try.prog 5 #[.int .i64 kind, .int .i64 size] w fun e w' => e = .returned (.bool true) ∧ Below w.heap.size w w' := by
  go_enter Try.func5, Try.ntmps5
  go_wp2_with fail
  refine (Window_bad kind size _ h.out).mono ?_
  rintro e w1 ⟨A1, c1, rfl, ho1, hb1⟩
  simp only [List.length_nil]
  go_wp2_with fail
  refine (rWindow_bad kind size _ h.out).mono ?_
  rintro e w2 ⟨A2, c2, rfl, ho2, hb2⟩
  simp only [List.length_nil]
  go_wp2_with fail
  refine (known2_any _).mono ?_
  rintro e w3 ⟨rfl, hb3⟩
  go_wp2_with fail
  go_ret
  exact ⟨rfl, bel_trans (bel_trans hb1 hb2) hb3⟩

set_option maxRecDepth 100000 in
set_option maxHeartbeats 2000000 in
theorem WaveWindows_ok (kind : Int) (size : Nat) (w : World) (hk1 : 1 ≤ kind) (hk3 : kind ≤ 3) (hs1 : 1 ≤ size) (hs2 : size ≤ 4096) : Calls Try.prog 5 #[.int .i64 kind, .int .i64 size] w fun e w' => e = .returned (.bool true) ∧ Below w.heap.size w w' := by
  go_enter Try.func5, Try.ntmps5
  go_wp2_with fail
  refine (Window_ok kind size _ hk1 hk3 hs1 hs2).mono ?_
  rintro e w1 ⟨A1, c1, rfl, ho1, hb1⟩
  have L1 := Lib.hid (Lies.of_own ho1)
  clear ho1
  go_wp2_with fail
  refine (rWindow_ok kind size _ hk1 hk3 hs1 hs2).mono ?_
  rintro e w2 ⟨A2, c2, rfl, ho2, hb2⟩
  have L2 := Lib.hid (Lies.of_own ho2)
  have L1' := Lib.hid (L1.out.below hb2)
  have B2 := Lib.hid (bel_trans hb1 hb2)
  clear ho2 hb1 hb2 L1
  have HLN := Lib.hid (winTo_length kind size size)
  go_wp2_with fail
  refine (same_bel A1 A2 c1 c2 (winTo kind size size) (winTo kind size size) _ L1'.out L2.out (by rw [HLN.out]; omega) (by rw [HLN.out]; omega) true (Lib.hid (by simp))).mono ?_
  rintro e w3 ⟨rfl, hb3⟩
  have L1 := Lib.hid (L1'.out.below hb3)
  have B3 := Lib.hid (bel_trans B2.out hb3)
  clear hb3 L1' L2 B2
  go_wp2_with fail
  refine (All_any A1 c1 (winTo kind size size) 1 4096 _ L1.out (by rw [HLN.out]; omega) true (Lib.hid (win_all hs1 hs2))).mono ?_
  rintro e w' ⟨rfl, rfl⟩
  rw [HLN.out]
  go_wp2_with fail
  go_loopw [9] (fun i wr => ∃ k : Nat, k ≤ size ∧ i = .int .i64 k ∧ Below w3.heap.size w3 wr) (fun i _ => size - (intOf i).toNat)
  case atStart => exact ⟨0, Nat.zero_le _, rfl, Below.refl _ _⟩
  case round =>
    obtain ⟨k, hk, rfl, hb⟩ := hrel
    by_cases hlt : k < size
    · have L := L1.out.below hb
      obtain ⟨bk, off, rfl, hbb, hc1⟩ := L.at_ (k := k) (by rw [HLN.out]; omega)
      obtain ⟨bk', off', e2, _, hc2⟩ := L.at_ (k := size - 1 - k) (by rw [HLN.out]; omega)
      obtain ⟨bk'', off'', e3, _, hc3⟩ := L.at_ (k := k - 1) (by rw [HLN.out]; omega)
      cases e2
      cases e3
      rw [winTo_get hlt] at hc1
      rw [winTo_get (by omega), ← winAt_sym (i := k) (by omega)] at hc2
      rw [winTo_get (by omega)] at hc3
      have H0 : ((winAt kind size k) != (winAt kind size k)) = false := by simp
      generalize hx : winAt kind size k = x at *
      have p1 : IntKind.i64.wrap ((size : Int) - 1) = (size : Int) - 1 := IntWalk.i64_in _ (by omega)
      have p2 : IntKind.i64.wrap ((size : Int) - 1 - k) = (size : Int) - 1 - k := IntWalk.i64_in _ (by omega)
      have p3 : IntKind.i64.wrap ((k : Int) - 1) = (k : Int) - 1 := IntWalk.i64_in _ (by omega)
      have p4 : ((size : Int) - 1).tdiv 2 = ((size : Int) - 1) / 2 := Int.tdiv_eq_ediv_of_nonneg (by omega)
      have p5 : IntKind.i64.wrap (((size : Int) - 1) / 2) = ((size : Int) - 1) / 2 := IntWalk.i64_in _ (by omega)
      have n1 : (0 : Int) ≤ (size : Int) - 1 - k := by omega
      have n2 : (size : Int) - 1 - k < (size : Int) := by omega
      have n3 : ((size : Int) - 1 - k).toNat = size - 1 - k := by omega
      have n4 : (k : Int) < (size : Int) := by omega
      have n5 : (0 : Int) ≤ (k : Int) := by omega
      have n6 : (k : Int) ≤ (size : Int) - 1 := by omega
      have HX := Lib.hid hx
      clear hx L
      by_cases hk0 : k = 0
      · have d1 : decide ((0 : Int) < (k : Int)) = false := by simp; omega
        have d2 : decide (0 < k) = false := by simp; omega
        clear hc3 p3 hk0
        go_wp2_with fail
        clear hk
        go_quiet (fail)
        clear p1 p2 p4 p5 n3
        go_wp2_with fail
        go_roundw
        case rel => exact ⟨k + 1, by omega, by go_num, (hb.trans (Below.mono (below_drewN wr _) hb.size))⟩
        case measure => simp [intOf]; omega
      · have n7 : (0 : Int) ≤ (k : Int) - 1 := by omega
        have n8 : (1 : Int) ≤ (k : Int) := by omega
        have n9 : (k : Int) - 1 < (size : Int) := by omega
        have n10 : ((k : Int) - 1).toNat = k - 1 := by omega
        have d1 : decide ((0 : Int) < (k : Int)) = true := by simp; omega
        have d2 : decide (0 < k) = true := by simp; omega
        by_cases hm : (k : Int) ≤ ((size : Int) - 1) / 2
        · have d3 : decide ((k : Int) ≤ ((size : Int) - 1) / 2) = true := by simp [hm]
          have hmono : winAt kind size (k - 1) ≤ x := by
            rw [← HX.out]
            have := winAt_mono (kind := kind) (n := size) (i := k - 1) (by omega) (by omega)
            rwa [show k - 1 + 1 = k by omega] at this
          generalize winAt kind size (k - 1) = y at *
          have d4 : decide (x < y) = false := by simp; omega
          go_wp2_with fail
          go_quiet (fail)
          clear p1 p2 p4 p5 n3
          go_wp2_with fail
          go_roundw
          case rel => exact ⟨k + 1, by omega, by go_num, (hb.trans (Below.mono (below_drewN wr _) hb.size))⟩
          case measure => simp [intOf]; omega
        · have d3 : decide ((k : Int) ≤ ((size : Int) - 1) / 2) = false := by simp; omega
          clear hc3 p3 n7 n8 n9 n10
          go_wp2_with fail
          go_quiet (fail)
          clear p1 p2 p4 p5 n3
          go_wp2_with fail
          go_roundw
          case rel => exact ⟨k + 1, by omega, by go_num, (hb.trans (Below.mono (below_drewN wr _) hb.size))⟩
          case measure => simp [intOf]; omega
    · go_wp2_with fail
      refine (known2_any _).mono ?_
      rintro e w4 ⟨rfl, hb4⟩
      go_wp2_with fail
      go_ret
      exact ⟨rfl, bel_trans (bel_trans B3.out hb) hb4⟩
end Go.Proofs.Ytnhkngmdjomfjaa
