/- wave.Frames, whatever comes in -/
import Derived.Test.YtnflpnbpigcfhabDoorFrmW
namespace Go.Proofs.YtnflpnbpigcfhabDoor
open Go.RowKit Ear

set_option maxRecDepth 100000 in
set_option maxHeartbeats 1000000 in
theorem Frames_bad1 (A : Option Addr) (c : Nat) (x : List Int) (size step : Int) (pad : Bool) (w : World) (h : Lies w A (ics x)) (hn : x.length ≤ 9223372036854775807) (r : Int) (hv : Hid (vchk x = r)) (hr : r ≠ 0) :
    Calls Tryd.prog 25 #[.slice A x.length c, .int .i64 size, .int .i64 step, .bool pad] w (LLErr r [] w) := by
  have q : (r != 0) = true := by simpa using hr
  go_enter Tryd.func25, Tryd.ntmps25
  go_wp2_with fail
  refine (values_any A c x w h hn r hv).mono ?_
  rintro e w' ⟨rfl, rfl⟩
  go_wp2_with fail
  go_ret2
  exact .nil_ rfl (Below.refl _ _)
set_option maxRecDepth 100000 in
set_option maxHeartbeats 1000000 in
theorem Frames_bad2 (A : Option Addr) (c : Nat) (x : List Int) (size step : Int) (pad : Bool) (w : World) (h : Lies w A (ics x)) (hn : x.length ≤ 9223372036854775807) (hv : Hid (vchk x = 0)) (hb : ¬ (1 ≤ size ∧ size ≤ 4096 ∧ 1 ≤ step ∧ step ≤ 4096)) :
    Calls Tryd.prog 25 #[.slice A x.length c, .int .i64 size, .int .i64 step, .bool pad] w (LLErr 2 [] w) := by
  have key : size < 1 ∨ (¬ size < 1 ∧ 4096 < size) ∨ (¬ size < 1 ∧ ¬ 4096 < size ∧ step < 1) ∨ (¬ size < 1 ∧ ¬ 4096 < size ∧ ¬ step < 1 ∧ 4096 < step) := by omega
  clear hb
  rcases key with h1 | ⟨h0, h1⟩ | ⟨h0, h1, h2⟩ | ⟨h0, h1, h2, h3⟩
  all_goals
    go_enter Tryd.func25, Tryd.ntmps25
    go_wp2_with fail
    refine (values_any A c x w h hn 0 hv).mono ?_
    rintro e w' ⟨rfl, rfl⟩
    go_wp2_with fail
    go_ret2
    exact .nil_ rfl (Below.refl _ _)
set_option maxRecDepth 100000 in
set_option maxHeartbeats 2000000 in
theorem Frames_bad3 (A : Option Addr) (c : Nat) (x : List Int) (size step : Nat) (pad : Bool) (w : World) (h : Lies w A (ics x)) (hv : Hid (vchk x = 0)) (hx : x.length ≤ 200000)
    (hs1 : 1 ≤ size) (hs2 : size ≤ 4096) (ht1 : 1 ≤ step) (ht2 : step ≤ 4096) (N : Nat) (hNs : 4000000 < N * size) (hNx : N ≤ 200000)
    (hq : Hid (pad = true → ((x.length : Int) + step - 1) / step = N)) (hq2 : Hid (pad = false → size ≤ x.length → ((x.length : Int) - size) / step + 1 = N)) (hq3 : Hid (pad = false → ¬ size ≤ x.length → N = 0)) :
    Calls Tryd.prog 25 #[.slice A x.length c, .int .i64 size, .int .i64 step, .bool pad] w (LLErr 5 [] w) := by
  have hNs' : 4000000 < ((N * size : Nat) : Int) := by omega
  have hNt : ((N * size : Nat) : Int) ≤ 819200000 := by have := Nat.mul_le_mul hNx hs2; omega
  rw [Int.natCast_mul] at hNs' hNt
  have key : pad = true ∨ (pad = false ∧ size ≤ x.length) := by
    cases pad with
    | true => exact .inl rfl
    | false =>
      refine .inr ⟨rfl, Decidable.byContradiction fun hc => ?_⟩
      have := hq3.out rfl hc
      subst this
      omega
  rcases key with rfl | ⟨rfl, hle⟩
  · have hqq := hq.out rfl
    go_enter Tryd.func25, Tryd.ntmps25
    go_wp2_with fail
    refine (values_any A c x w h (by omega) 0 hv).mono ?_
    rintro e w' ⟨rfl, rfl⟩
    go_wp2_with fail
    go_ret2
    exact .nil_ rfl (Below.refl _ _)
  · have hqq := hq2.out rfl hle
    go_enter Tryd.func25, Tryd.ntmps25
    go_wp2_with fail
    refine (values_any A c x w h (by omega) 0 hv).mono ?_
    rintro e w' ⟨rfl, rfl⟩
    go_wp2_with fail
    go_ret2
    exact .nil_ rfl (Below.refl _ _)
theorem frN_eqs {n size step N : Nat} {pad : Bool} (ht1 : 1 ≤ step) (hN : frN n size step pad = N) : (pad = true → ((n : Int) + step - 1) / step = N) ∧ (pad = false → size ≤ n → ((n : Int) - size) / step + 1 = N) ∧ (pad = false → ¬ size ≤ n → N = 0) := by
  refine ⟨fun h => ?_, fun h hle => ?_, fun h hle => ?_⟩
  · subst h
    unfold frN at hN
    rw [if_pos rfl] at hN
    rw [← hN]
    have e : ((n : Int) + step - 1) = ((n + step - 1 : Nat) : Int) := by omega
    rw [e]; simp
  · subst h
    unfold frN at hN
    rw [if_neg (by simp), if_pos hle] at hN
    rw [← hN]
    have e : ((n : Int) - size) = ((n - size : Nat) : Int) := by omega
    rw [e]; simp
  · subst h
    unfold frN at hN
    rw [if_neg (by simp), if_neg hle] at hN
    exact hN.symm
theorem Frames_any (A : Option Addr) (c : Nat) (x : List Int) (size step : Int) (pad : Bool) (w : World) (h : Lies w A (ics x)) (hxc : x.length ≤ c) (hn : x.length ≤ 9223372036854775807)
    (hB : ∀ y ∈ x, -9223372036854775808 ≤ y ∧ y ≤ 9223372036854775807) (err : Int) (out : List (List Int)) (ho : Hid (frmR x size step pad = (err, out))) :
    Calls Tryd.prog 25 #[.slice A x.length c, .int .i64 size, .int .i64 step, .bool pad] w (LLErr err out w) := by
  have ho' := ho.out
  unfold frmR at ho'
  by_cases h0 : vchk x = 0
  · rw [if_pos h0] at ho'
    by_cases h1 : 1 ≤ size ∧ size ≤ 4096 ∧ 1 ≤ step ∧ step ≤ 4096
    · rw [if_pos h1] at ho'
      have es : size = (size.toNat : Int) := by omega
      have et : step = (step.toNat : Int) := by omega
      have b1 : 1 ≤ size.toNat := by omega
      have b2 : size.toNat ≤ 4096 := by omega
      have b3 : 1 ≤ step.toNat := by omega
      have b4 : step.toNat ≤ 4096 := by omega
      rw [es, et]
      generalize size.toNat = s at *
      generalize step.toNat = t at *
      have hx := vchk_len h0
      have hle := frN_le (n := x.length) (pad := pad) b1 b3
      obtain ⟨q1, q2, q3⟩ := frN_eqs (n := x.length) (pad := pad) b3 rfl
      by_cases h2 : 4000000 < frN x.length s t pad * s
      · rw [if_pos h2] at ho'
        injection ho' with e1 e2
        subst e1 e2
        exact Frames_bad3 A c x s t pad w h (Lib.hid h0) hx b1 b2 b3 b4 _ h2 (by omega) (Lib.hid q1) (Lib.hid q2) (Lib.hid q3)
      · rw [if_neg h2] at ho'
        injection ho' with e1 e2
        subst e1 e2
        exact Frames_ok A c x s t pad w h hxc (Lib.hid h0) hx (Lib.hid hB) b1 b2 b3 b4 _ (Lib.hid rfl) (by omega) (by omega) (Lib.hid q1) (Lib.hid q2) (Lib.hid q3)
    · rw [if_neg h1] at ho'
      injection ho' with e1 e2
      subst e1 e2
      exact Frames_bad2 A c x size step pad w h hn (Lib.hid h0) h1
  · rw [if_neg h0] at ho'
    injection ho' with e1 e2
    subst e2
    exact Frames_bad1 A c x size step pad w h hn err (Lib.hid e1) (by rw [← e1]; exact h0)
end Go.Proofs.YtnflpnbpigcfhabDoor
