/- FeatureGrows: the walk -/
import Derived.Test.YtfapmghhmkekaaaDoorMc
import Derived.Test.YtfapmghhmkekaaaDoorMb
namespace Go.Proofs.YtfapmghhmkekaaaDoor
open Go.RowKit Ear

theorem lg_bd {e : Nat} (h0 : e ≠ 0) (h : e < 2 ^ 63) : 0 ≤ lg e ∧ lg e ≤ 1008 := by
  rw [lg_pos h0]
  obtain ⟨K, hK⟩ : ∃ K, K = 63 * 16 := ⟨_, rfl⟩
  have h2 : e ^ 16 < 2 ^ K := by
    have := Nat.pow_lt_pow_left h (show 16 ≠ 0 by decide)
    rwa [← Nat.pow_mul, ← hK] at this
  have := (Nat.log2_lt (pow16_ne h0)).2 h2
  omega
set_option maxRecDepth 100000 in
set_option maxHeartbeats 4000000 in
theorem FeatureGrows_out (a b p : Int) (w : World) (hC : CosOk w) (hk : Kn) (h : a < 1 ∨ 1073741824 < a ∨ b < 1 ∨ 1073741824 < b ∨ p < 0 ∨ 62 < p) :
    Calls Tryd.prog 7 #[.int .i64 a, .int .i64 b, .int .i64 p] w (RetB true w) := by
  by_cases h1 : a < 1
  · go_enter Tryd.func7, Tryd.ntmps7
    go_wp2_with fail
    refine (hk _ hC).mono ?_
    rintro e w1 ⟨rfl, hb1⟩
    go_wp2_with fail
    go_ret
    exact ⟨rfl, hb1⟩
  · by_cases h2 : 1073741824 < a
    · clear h
      go_enter Tryd.func7, Tryd.ntmps7
      go_wp2_with fail
      refine (hk _ hC).mono ?_
      rintro e w1 ⟨rfl, hb1⟩
      go_wp2_with fail
      go_ret
      exact ⟨rfl, hb1⟩
    · by_cases h3 : b < 1
      · clear h
        go_enter Tryd.func7, Tryd.ntmps7
        go_wp2_with fail
        refine (hk _ hC).mono ?_
        rintro e w1 ⟨rfl, hb1⟩
        go_wp2_with fail
        go_ret
        exact ⟨rfl, hb1⟩
      · by_cases h4 : 1073741824 < b
        · clear h
          go_enter Tryd.func7, Tryd.ntmps7
          go_wp2_with fail
          refine (hk _ hC).mono ?_
          rintro e w1 ⟨rfl, hb1⟩
          go_wp2_with fail
          go_ret
          exact ⟨rfl, hb1⟩
        · by_cases h5 : p < 0
          · clear h
            go_enter Tryd.func7, Tryd.ntmps7
            go_wp2_with fail
            refine (hk _ hC).mono ?_
            rintro e w1 ⟨rfl, hb1⟩
            go_wp2_with fail
            go_ret
            exact ⟨rfl, hb1⟩
          · have h6 : 62 < p := by omega
            clear h
            go_enter Tryd.func7, Tryd.ntmps7
            go_wp2_with fail
            refine (hk _ hC).mono ?_
            rintro e w1 ⟨rfl, hb1⟩
            go_wp2_with fail
            go_ret
            exact ⟨rfl, hb1⟩
set_option maxRecDepth 100000 in
set_option maxHeartbeats 8000000 in
theorem FeatureGrows_in (a b p : Nat) (w : World) (hC : CosOk w) (hk : Kn) (a0 : 1 ≤ a) (a1 : a ≤ 1073741824) (b0 : 1 ≤ b) (b1 : b ≤ 1073741824) (p1 : p ≤ 62) :
    Calls Tryd.prog 7 #[.int .i64 a, .int .i64 b, .int .i64 p] w (RetB true w) := by
  have hab : 1 ≤ a * b ∧ a * b ≤ 1152921504606846976 := ⟨Nat.mul_pos a0 b0, by have := Nat.mul_le_mul a1 b1; omega⟩
  have hp2 : 1 ≤ 2 ^ p ∧ 2 ^ p ≤ 4611686018427387904 := ⟨Nat.pow_pos (by decide), by have := Nat.pow_le_pow_right (show 0 < 2 by decide) p1; simpa using this⟩
  have q1 : a > b ∨ lg a ≤ lg b := by
    by_cases h : a > b
    · exact .inl h
    · exact .inr (lg_mono (by omega) (by omega))
  have q2 := lg_twice (show a ≠ 0 by omega)
  have q3 := lg_two p
  have q4 := lg_mul (show a ≠ 0 by omega) (show b ≠ 0 by omega)
  have la := lg_bd (show a ≠ 0 by omega) (by omega)
  have lb := lg_bd (show b ≠ 0 by omega) (by omega)
  obtain ⟨m, hm⟩ : ∃ m, m = a * b := ⟨_, rfl⟩
  obtain ⟨t, ht⟩ : ∃ t, t = 2 * a := ⟨_, rfl⟩
  obtain ⟨q, hq⟩ : ∃ q, q = 2 ^ p := ⟨_, rfl⟩
  have eab : (a : Int) * (b : Int) = (m : Int) := by rw [hm]; simp
  have e2a : 2 * (a : Int) = (t : Int) := by rw [ht]; simp
  rw [← hm] at hab q4
  rw [← ht] at q2
  rw [← hq] at hp2 q3
  have EW : Hid (wrap64 ((2 : Int) ^ p) = (q : Int)) := Lib.hid (by
    have e : (2 : Int) ^ p = (q : Int) := by rw [hq]; simp
    rw [e]
    exact IntWalk.wrap64_in (q : Int) (by omega))
  clear hm hq
  have bt : t ≤ 2147483648 := by omega
  clear ht
  generalize hx : lg a = x at *
  generalize hy : lg b = y at *
  generalize hz : lg m = z at *
  have HX := Lib.hid hx; have HY := Lib.hid hy; have HZ := Lib.hid hz
  have H2 := Lib.hid q2; have H3 := Lib.hid q3; have H4 := Lib.hid q4; have H1 := Lib.hid q1
  clear hx hy hz q2 q3 q4 q1
  go_enter Tryd.func7, Tryd.ntmps7
  go_wp2_with fail
  refine (Log_any a w (by omega)).mono ?_
  rintro e w1 ⟨rfl, hb1⟩
  rw [HX.out]
  have C1 := Lib.hid (hC.below hb1)
  go_wp2_with fail
  refine (Log_any b w1 (by omega)).mono ?_
  rintro e w2 ⟨rfl, hb2⟩
  rw [HY.out]
  have C2 := Lib.hid (C1.out.below hb2)
  have B2 := Lib.hid (hb1.trans (hb2.mono hb1.size))
  clear hb1 hb2 C1
  go_wp2_with fail
  refine (Log_any m w2 (by omega)).mono ?_
  rintro e w3 ⟨rfl, hb3⟩
  rw [HZ.out]
  have C3 := Lib.hid (C2.out.below hb3)
  have B3 := Lib.hid (B2.out.trans (hb3.mono B2.out.size))
  clear hb3 C2 B2 eab
  go_wp2_with fail
  refine (Log_any t w3 (by omega)).mono ?_
  rintro e w4 ⟨rfl, hb4⟩
  rw [H2.out]
  have C4 := Lib.hid (C3.out.below hb4)
  have B4 := Lib.hid (B3.out.trans (hb4.mono B3.out.size))
  clear hb4 C3 B3 e2a
  go_wp2_with fail
  rw [EW.out]
  refine (Log_any q w4 (by omega)).mono ?_
  rintro e w5 ⟨rfl, hb5⟩
  rw [H3.out]
  have C5 := Lib.hid (C4.out.below hb5)
  have B5 := Lib.hid (B4.out.trans (hb5.mono B4.out.size))
  clear hb5 C4 B4
  by_cases hgt : b < a
  · rcases H4.out with h4 | h4
    · subst h4
      go_wp2_with fail
      refine (hk _ C5.out).mono ?_
      rintro e w6 ⟨rfl, hb6⟩
      go_wp2_with fail
      go_ret
      exact ⟨rfl, B5.out.trans (hb6.mono B5.out.size)⟩
    · subst h4
      have n1 : (x + y + 1 == x + y) = false := by simp; omega
      go_wp2_with fail
      refine (hk _ C5.out).mono ?_
      rintro e w6 ⟨rfl, hb6⟩
      go_wp2_with fail
      go_ret
      exact ⟨rfl, B5.out.trans (hb6.mono B5.out.size)⟩
  · have hxy : x ≤ y := by rcases H1.out with h | h <;> omega
    rcases H4.out with h4 | h4
    · subst h4
      go_wp2_with fail
      refine (hk _ C5.out).mono ?_
      rintro e w6 ⟨rfl, hb6⟩
      go_wp2_with fail
      go_ret
      exact ⟨rfl, B5.out.trans (hb6.mono B5.out.size)⟩
    · subst h4
      have n1 : (x + y + 1 == x + y) = false := by simp; omega
      go_wp2_with fail
      refine (hk _ C5.out).mono ?_
      rintro e w6 ⟨rfl, hb6⟩
      go_wp2_with fail
      go_ret
      exact ⟨rfl, B5.out.trans (hb6.mono B5.out.size)⟩
theorem FeatureGrows_any (a b p : Int) (w : World) (hC : CosOk w) (hk : Kn) : Calls Tryd.prog 7 #[.int .i64 a, .int .i64 b, .int .i64 p] w (RetB true w) := by
  by_cases h : a < 1 ∨ 1073741824 < a ∨ b < 1 ∨ 1073741824 < b ∨ p < 0 ∨ 62 < p
  · exact FeatureGrows_out a b p w hC hk h
  · obtain ⟨x, rfl⟩ := Int.eq_ofNat_of_zero_le (show 0 ≤ a by omega)
    obtain ⟨y, rfl⟩ := Int.eq_ofNat_of_zero_le (show 0 ≤ b by omega)
    obtain ⟨z, rfl⟩ := Int.eq_ofNat_of_zero_le (show 0 ≤ p by omega)
    exact FeatureGrows_in x y z w hC hk (by omega) (by omega) (by omega) (by omega) (by omega)
end Go.Proofs.YtfapmghhmkekaaaDoor
