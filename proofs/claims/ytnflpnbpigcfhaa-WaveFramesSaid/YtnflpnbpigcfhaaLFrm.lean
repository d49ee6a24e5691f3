/- WaveFrames: the walk -/
import Derived.Test.YtnflpnbpigcfhaaKnown
import Derived.Test.YtnflpnbpigcfhaaFrmA
import Derived.Test.YtnflpnbpigcfhaaRFrm
import Derived.Test.YtnflpnbpigcfhaaMy
import Derived.Test.YtnflpnbpigcfhaaMeas2
namespace Go.Proofs.Ytnflpnbpigcfhaa
open Go.RowKit Ear

theorem belDrewN {B : Nat} (w : World) (n : Nat) : Below B w (w.drewN n) := ⟨rfl, rfl, rfl, Nat.le_refl _, fun _ _ => rfl⟩
/-- the lists that are left out -/
def frFar (n : Nat) (size step : Int) : Prop := 0 < size ∧ size ≤ 4096 ∧ 0 < step ∧ 100000 < (n : Int) / step * size ∧ (n : Int) / step * size < 8000000
set_option maxRecDepth 100000 in
set_option maxHeartbeats 2000000 in
theorem WaveFrames_far (A : Option Addr) (c : Nat) (x : List Int) (size step : Int) (pad : Bool) (w : World) (hb : Hid (decide ((x.length : Int) ≤ 3000 ∨ (200000 < (x.length : Int) ∧ (x.length : Int) < 250000)) = false)) :
    Calls Try.prog 3 #[.slice A x.length c, .int .i64 size, .int .i64 step, .bool pad] w fun e w' => e = .returned (.bool true) ∧ Below w.heap.size w w' := by
  go_enter Try.func3, Try.ntmps3
  go_wp2_with fail
  refine (short_any _ _ false hb).mono ?_
  rintro e w0 ⟨rfl, rfl⟩
  go_wp2_with fail
  refine (known2_any _).mono ?_
  rintro e w7 ⟨rfl, hb7⟩
  go_wp2_with fail
  go_ret
  exact ⟨rfl, hb7⟩
set_option maxRecDepth 100000 in
set_option maxHeartbeats 2000000 in
theorem WaveFrames_out (A : Option Addr) (c : Nat) (x : List Int) (size step : Int) (pad : Bool) (w : World) (hn : x.length ≤ 250000) (hb : Hid (decide ((x.length : Int) ≤ 3000 ∨ (200000 < (x.length : Int) ∧ (x.length : Int) < 250000)) = true)) (hf : frFar x.length size step) :
    Calls Try.prog 3 #[.slice A x.length c, .int .i64 size, .int .i64 step, .bool pad] w fun e w' => e = .returned (.bool true) ∧ Below w.heap.size w w' := by
  obtain ⟨h1, h2, h3, h4, h5⟩ := hf
  have hq : (x.length : Int) / step = (((x.length : Int) / step).toNat : Int) := by have := Int.ediv_nonneg (a := (x.length : Int)) (b := step) (by omega) (by omega); omega
  have hqb : ((x.length : Int) / step).toNat ≤ 250000 := by have := Int.ediv_le_self (a := (x.length : Int)) step (by omega); omega
  generalize ((x.length : Int) / step).toNat = q at *
  rw [hq] at h4 h5
  go_enter Try.func3, Try.ntmps3
  go_wp2_with fail
  refine (short_any _ _ true hb).mono ?_
  rintro e w0 ⟨rfl, rfl⟩
  go_wp2_with fail
  refine (known2_any _).mono ?_
  rintro e w7 ⟨rfl, hb7⟩
  go_wp2_with fail
  go_ret
  exact ⟨rfl, hb7⟩
/-- the two answers are compared -/
def FrmTwo (A : Option Addr) (c : Nat) (x : List Int) (size step : Int) (pad : Bool) (err : Int) (out : List (List Int)) : Prop :=
  (∀ W, Lies W A (ics x) → Calls Try.prog 7 #[.slice A x.length c, .int .i64 size, .int .i64 step, .bool pad] W (LLErr err out W)) ∧
  (∀ W, Lies W A (ics x) → Calls Try.prog 8 #[.slice A x.length c, .int .i64 size, .int .i64 step, .bool pad] W (LLErr err out W))
set_option maxRecDepth 100000 in
set_option maxHeartbeats 8000000 in
theorem WaveFrames_ok (A : Option Addr) (c : Nat) (x : List Int) (size step : Int) (pad : Bool) (w : World) (h : Lies w A (ics x)) (hn : x.length ≤ 250000) (hb : Hid (decide ((x.length : Int) ≤ 3000 ∨ (200000 < (x.length : Int) ∧ (x.length : Int) < 250000)) = true)) (hf : ¬ frFar x.length size step)
    (err : Int) (out : List (List Int)) (hol : out.length ≤ 250000) (ht : Hid (FrmTwo A c x size step pad err out)) :
    Calls Try.prog 3 #[.slice A x.length c, .int .i64 size, .int .i64 step, .bool pad] w fun e w' => e = .returned (.bool true) ∧ Below w.heap.size w w' := by
  have key : size < 1 ∨ (1 ≤ size ∧ 4096 < size) ∨ (1 ≤ size ∧ size ≤ 4096 ∧ step < 1) ∨ (1 ≤ size ∧ size ≤ 4096 ∧ 1 ≤ step ∧ (x.length : Int) / step * size ≤ 100000) ∨ (1 ≤ size ∧ size ≤ 4096 ∧ 1 ≤ step ∧ 100000 < (x.length : Int) / step * size ∧ 8000000 ≤ (x.length : Int) / step * size) := by
    unfold frFar at hf
    by_cases a1 : size < 1
    · exact .inl a1
    · by_cases a2 : 4096 < size
      · exact .inr (.inl ⟨by omega, a2⟩)
      · by_cases a3 : step < 1
        · exact .inr (.inr (.inl ⟨by omega, by omega, a3⟩))
        · by_cases a4 : (x.length : Int) / step * size ≤ 100000
          · exact .inr (.inr (.inr (.inl ⟨by omega, by omega, by omega, a4⟩)))
          · exact .inr (.inr (.inr (.inr ⟨by omega, by omega, by omega, by omega, Decidable.byContradiction fun h => hf ⟨by omega, by omega, by omega, by omega, by omega⟩⟩)))
  clear hf
  have hq : 1 ≤ step → (x.length : Int) / step = (((x.length : Int) / step).toNat : Int) ∧ ((x.length : Int) / step).toNat ≤ 250000 := fun h => by
    have h1 := Int.ediv_nonneg (a := (x.length : Int)) (b := step) (by omega) (by omega)
    have h2 := Int.ediv_le_self (a := (x.length : Int)) step (by omega)
    omega
  have hqs : ∀ q : Nat, q ≤ 250000 → 1 ≤ size → size ≤ 4096 → (q : Int) * size ≤ 1024000000 ∧ 0 ≤ (q : Int) * size := fun q h1 h2 h3 => by
    have := Int.mul_le_mul (show (q : Int) ≤ 250000 by omega) h3 (by omega) (by decide)
    exact ⟨by omega, Int.mul_nonneg (by omega) (by omega)⟩
  have key2 : size < 1 ∨ (1 ≤ size ∧ 4096 < size) ∨ (1 ≤ size ∧ size ≤ 4096 ∧ step < 1) ∨ (1 ≤ size ∧ size ≤ 4096 ∧ 1 ≤ step ∧ ∃ q : Nat, (x.length : Int) / step = (q : Int) ∧ q ≤ 250000 ∧ 0 ≤ (q : Int) * size ∧ (q : Int) * size ≤ 100000) ∨ (1 ≤ size ∧ size ≤ 4096 ∧ 1 ≤ step ∧ ∃ q : Nat, (x.length : Int) / step = (q : Int) ∧ q ≤ 250000 ∧ (q : Int) * size ≤ 1024000000 ∧ 100000 < (q : Int) * size ∧ 8000000 ≤ (q : Int) * size) := by
    rcases key with h1 | ⟨h1, h2⟩ | ⟨h1, h2, h3⟩ | ⟨h1, h2, h3, h4⟩ | ⟨h1, h2, h3, h4, h5⟩
    · exact .inl h1
    · exact .inr (.inl ⟨h1, h2⟩)
    · exact .inr (.inr (.inl ⟨h1, h2, h3⟩))
    · obtain ⟨e1, e2⟩ := hq h3
      obtain ⟨e3, e4⟩ := hqs _ e2 h1 h2
      rw [e1] at h4
      exact .inr (.inr (.inr (.inl ⟨h1, h2, h3, _, e1, e2, e4, h4⟩)))
    · obtain ⟨e1, e2⟩ := hq h3
      obtain ⟨e3, e4⟩ := hqs _ e2 h1 h2
      rw [e1] at h4 h5
      exact .inr (.inr (.inr (.inr ⟨h1, h2, h3, _, e1, e2, e3, h4, h5⟩)))
  clear key hq hqs
  rcases key2 with h1 | ⟨h1, h2⟩ | ⟨h1, h2, h3⟩ | ⟨h1, h2, h3, q, hq, hqb, q1, q2⟩ | ⟨h1, h2, h3, q, hq, hqb, q1, q2, q3⟩
  all_goals
    go_enter Try.func3, Try.ntmps3
    go_wp2_with fail
    refine (short_any _ _ true hb).mono ?_
    rintro e w0 ⟨rfl, rfl⟩
    go_wp2_with fail
    refine (ht.out.1 _ h).mono ?_
    rintro e w1 ⟨A1, c1, L1, rfl, v1, o1, b1⟩
    have HA := Lib.hid (h.below b1)
    have M1 := Lib.hid o1.ll
    have B1 := Lib.hid b1
    clear o1 b1
    go_wp2_with fail
    refine (ht.out.2 _ HA.out).mono ?_
    rintro e w2 ⟨A2, c2, L2, rfl, v2, o2, b2⟩
    have M12 := Lib.hid (LL.below M1.out b2)
    have M2 := Lib.hid o2.ll
    have B2 := Lib.hid (bel_trans B1.out b2)
    have N1 : L1.length ≤ 250000 := by have := congrArg List.length v1.out; simp at this; omega
    clear o2 b2 B1 M1
    have HV : Hid (decide (vsOf L1 = vsOf L2) = true) := Lib.hid (by rw [v1.out, v2.out]; simp)
    go_wp2_with fail
    refine (SameLists_any A1 A2 c1 c2 L1 L2 w2 M12.out M2.out (by omega) true HV).mono ?_
    rintro e w3 ⟨rfl, n3, rfl⟩
    have B3 : Hid (Below w.heap.size w (w2.drewN n3)) := Lib.hid (B2.out.trans (belDrewN _ _))
    go_wp2_with fail
    refine (known2_any _).mono ?_
    rintro e w7 ⟨rfl, hb7⟩
    go_wp2_with fail
    go_ret
    exact ⟨rfl, bel_trans B3.out hb7⟩
theorem frmR_len {x : List Int} {size step : Int} {pad : Bool} {err : Int} {out : List (List Int)} (h : frmR x size step pad = (err, out)) : out.length ≤ 250000 := by
  unfold frmR at h
  split at h
  · rename_i h0
    split at h
    · rename_i h1
      split at h
      · injection h with _ h; subst h; simp
      · injection h with _ h
        subst h
        rw [frs_length]
        have := frN_le (n := x.length) (size := size.toNat) (step := step.toNat) (pad := pad) (by omega) (by omega)
        have := vchk_len h0
        omega
    · injection h with _ h; subst h; simp
  · injection h with _ h; subst h; simp
theorem WaveFrames_any (A : Option Addr) (c : Nat) (x : List Int) (size step : Int) (pad : Bool) (w : World) (h : Lies w A (ics x)) (hxc : x.length ≤ c) (hn : x.length ≤ 9223372036854775807) (hB : ∀ y ∈ x, -9223372036854775808 ≤ y ∧ y ≤ 9223372036854775807) :
    Calls Try.prog 3 #[.slice A x.length c, .int .i64 size, .int .i64 step, .bool pad] w fun e w' => e = .returned (.bool true) ∧ Below w.heap.size w w' := by
  cases hb : decide ((x.length : Int) ≤ 3000 ∨ (200000 < (x.length : Int) ∧ (x.length : Int) < 250000)) with
  | false => exact WaveFrames_far A c x size step pad w (Lib.hid hb)
  | true =>
    have hl : x.length ≤ 250000 := by have := of_decide_eq_true hb; omega
    by_cases hf : frFar x.length size step
    · exact WaveFrames_out A c x size step pad w hl (Lib.hid hb) hf
    · exact WaveFrames_ok A c x size step pad w h hl (Lib.hid hb) hf (frmR x size step pad).1 (frmR x size step pad).2 (frmR_len rfl)
        (Lib.hid ⟨fun W hW => Frames_any A c x size step pad W hW hxc hn hB _ _ (Lib.hid rfl), fun W hW => rFrames_any A c x size step pad W hW hn hB _ _ (Lib.hid rfl)⟩)
end Go.Proofs.Ytnflpnbpigcfhaa
