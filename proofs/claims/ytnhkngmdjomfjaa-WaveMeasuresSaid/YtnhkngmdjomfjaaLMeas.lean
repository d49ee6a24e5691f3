/- WaveMeasures: the walk -/
import Derived.Test.YtnhkngmdjomfjaaKnown
import Derived.Test.YtnhkngmdjomfjaaMeas2
namespace Go.Proofs.Ytnhkngmdjomfjaa
open Go.RowKit Ear

theorem Changes_bel (A : Option Addr) (c : Nat) (l : List Int) (w : World) (h : Lies w A (ics l)) (hn : l.length ≤ 9223372036854775807) (r : Int) (hr : Hid (vchk l = r)) (v : Int) (hv : Hid ((if r = 0 then (chgN l l.length : Int) else 0) = v)) :
    Calls Try.prog 54 #[.slice A l.length c] w fun e w' => e = .returned (.tuple #[.int .i64 v, .int .i64 r]) ∧ Below w.heap.size w w' :=
  (Changes_any A c l w h hn r hr v hv).mono fun _ _ ⟨he, n, hn⟩ => ⟨he, by rw [hn]; exact below_drewN w n⟩
theorem Peak_bel (A : Option Addr) (c : Nat) (l : List Int) (w : World) (h : Lies w A (ics l)) (hn : l.length ≤ 9223372036854775807) (r : Int) (hr : Hid (vchk l = r)) (v : Int) (hv : Hid ((if r = 0 then pkAt l l.length else 0) = v)) :
    Calls Try.prog 55 #[.slice A l.length c] w fun e w' => e = .returned (.tuple #[.int .i64 v, .int .i64 r]) ∧ Below w.heap.size w w' :=
  (Peak_any A c l w h hn r hr v hv).mono fun _ _ ⟨he, n, hn⟩ => ⟨he, by rw [hn]; exact below_drewN w n⟩
theorem int_bel {f : FuncId} {args : Array Value} {w : World} {v : Int} (h : Calls Try.prog f args w (RetInt v w)) : Calls Try.prog f args w fun e w' => e = .returned (.int .i64 v) ∧ Below w.heap.size w w' :=
  h.mono fun _ _ ⟨he, n, hn⟩ => ⟨he, by rw [hn]; exact below_drewN w n⟩
theorem not_vls_energy {l : List Int} (h : vls l = false) : allR (-65536) 65535 l = false := by
  cases hx : allR (-65536) 65535 l with
  | false => rfl
  | true =>
    have : vls l = true := allR_of fun x hx' => by have := allR_mem hx hx'; omega
    rw [h] at this; cases this

set_option maxRecDepth 100000 in
set_option maxHeartbeats 2000000 in
theorem WaveMeasures_far (A : Option Addr) (c : Nat) (l : List Int) (w : World) (_h : Lies w A (ics l)) (_hn : l.length ≤ 9223372036854775807) (hb : Hid (decide ((l.length : Int) ≤ 3000 ∨ (200000 < (l.length : Int) ∧ (l.length : Int) < 250000)) = false)) :
    Calls Try.prog 18 #[.slice A l.length c] w fun e w' => e = .returned (.bool true) ∧ Below w.heap.size w w' := by
  go_enter Try.func18, Try.ntmps18
  go_wp2_with fail
  refine (short_any _ _ false hb).mono ?_
  rintro e w0 ⟨rfl, rfl⟩
  go_wp2_with fail
  refine (known2_any _).mono ?_
  rintro e w7 ⟨rfl, hb7⟩
  go_wp2_with fail
  go_ret
  exact ⟨rfl, hb7⟩
set_option maxRecDepth 100000 in
set_option maxHeartbeats 2000000 in
theorem WaveMeasures_long (A : Option Addr) (c : Nat) (l : List Int) (w : World) (h : Lies w A (ics l)) (hn : l.length ≤ 9223372036854775807) (hb : Hid (decide ((l.length : Int) ≤ 3000 ∨ (200000 < (l.length : Int) ∧ (l.length : Int) < 250000)) = true)) (hl : 200000 < l.length) (hE : Hid (echk l = 5)) (hR : Hid (vchk l = 5)) :
    Calls Try.prog 18 #[.slice A l.length c] w fun e w' => e = .returned (.bool true) ∧ Below w.heap.size w w' := by
  go_enter Try.func18, Try.ntmps18
  go_wp2_with fail
  refine (short_any _ _ true hb).mono ?_
  rintro e w0 ⟨rfl, rfl⟩
  go_wp2_with fail
  refine (Energy_any A c l _ h hn 5 hE 0 (Lib.hid rfl)).mono ?_
  rintro e w0 ⟨rfl, rfl⟩
  go_wp2_with fail
  refine (Changes_bel A c l _ h hn 5 hR 0 (Lib.hid rfl)).mono ?_
  rintro e w1 ⟨rfl, hb1⟩
  have L1 := Lib.hid (h.below hb1)
  go_wp2_with fail
  refine (Peak_bel A c l _ L1.out hn 5 hR 0 (Lib.hid rfl)).mono ?_
  rintro e w2 ⟨rfl, hb2⟩
  have B2 := Lib.hid (bel_trans hb1 hb2)
  have L2 := Lib.hid (h.below B2.out)
  clear hb1 hb2 L1
  go_wp2_with fail
  refine (known2_any _).mono ?_
  rintro e w7 ⟨rfl, hb7⟩
  go_wp2_with fail
  go_ret
  exact ⟨rfl, bel_trans B2.out hb7⟩
set_option maxRecDepth 100000 in
set_option maxHeartbeats 2000000 in
theorem WaveMeasures_odd (A : Option Addr) (c : Nat) (l : List Int) (w : World) (h : Lies w A (ics l)) (hn : l.length ≤ 9223372036854775807) (hb : Hid (decide ((l.length : Int) ≤ 3000 ∨ (200000 < (l.length : Int) ∧ (l.length : Int) < 250000)) = true)) (hl : l.length ≤ 3000) (hE : Hid (echk l = 2)) (hR : Hid (vchk l = 2)) (hV : Hid (vls l = false)) :
    Calls Try.prog 18 #[.slice A l.length c] w fun e w' => e = .returned (.bool true) ∧ Below w.heap.size w w' := by
  go_enter Try.func18, Try.ntmps18
  go_wp2_with fail
  refine (short_any _ _ true hb).mono ?_
  rintro e w0 ⟨rfl, rfl⟩
  go_wp2_with fail
  refine (Energy_any A c l _ h hn 2 hE 0 (Lib.hid rfl)).mono ?_
  rintro e w0 ⟨rfl, rfl⟩
  go_wp2_with fail
  refine (Changes_bel A c l _ h hn 2 hR 0 (Lib.hid rfl)).mono ?_
  rintro e w1 ⟨rfl, hb1⟩
  have L1 := Lib.hid (h.below hb1)
  go_wp2_with fail
  refine (Peak_bel A c l _ L1.out hn 2 hR 0 (Lib.hid rfl)).mono ?_
  rintro e w2 ⟨rfl, hb2⟩
  have B2 := Lib.hid (bel_trans hb1 hb2)
  have L2 := Lib.hid (h.below B2.out)
  clear hb1 hb2 L1
  go_wp2_with fail
  refine (rValues_any A c l _ L2.out hn false hV).mono ?_
  rintro e w0 ⟨rfl, rfl⟩
  go_wp2_with fail
  refine (known2_any _).mono ?_
  rintro e w7 ⟨rfl, hb7⟩
  go_wp2_with fail
  go_ret
  exact ⟨rfl, bel_trans B2.out hb7⟩
set_option maxRecDepth 100000 in
set_option maxHeartbeats 2000000 in
theorem WaveMeasures_quiet (A : Option Addr) (c : Nat) (l : List Int) (w : World) (h : Lies w A (ics l)) (hn : l.length ≤ 9223372036854775807) (hb : Hid (decide ((l.length : Int) ≤ 3000 ∨ (200000 < (l.length : Int) ∧ (l.length : Int) < 250000)) = true)) (hl : l.length ≤ 3000) (hE : Hid (echk l = 2)) (hR : Hid (vchk l = 0)) (hV : Hid (vls l = true)) (hX : Hid (allR (-65536) 65535 l = false)) :
    Calls Try.prog 18 #[.slice A l.length c] w fun e w' => e = .returned (.bool true) ∧ Below w.heap.size w w' := by
  go_enter Try.func18, Try.ntmps18
  go_wp2_with fail
  refine (short_any _ _ true hb).mono ?_
  rintro e w0 ⟨rfl, rfl⟩
  go_wp2_with fail
  refine (Energy_any A c l _ h hn 2 hE 0 (Lib.hid rfl)).mono ?_
  rintro e w0 ⟨rfl, rfl⟩
  go_wp2_with fail
  refine (Changes_bel A c l _ h hn 0 hR (chgN l l.length) (Lib.hid rfl)).mono ?_
  rintro e w1 ⟨rfl, hb1⟩
  have L1 := Lib.hid (h.below hb1)
  go_wp2_with fail
  refine (Peak_bel A c l _ L1.out hn 0 hR (pkAt l l.length) (Lib.hid rfl)).mono ?_
  rintro e w2 ⟨rfl, hb2⟩
  have B2 := Lib.hid (bel_trans hb1 hb2)
  have L2 := Lib.hid (h.below B2.out)
  clear hb1 hb2 L1
  go_wp2_with fail
  refine (rValues_any A c l _ L2.out hn true hV).mono ?_
  rintro e w0 ⟨rfl, rfl⟩
  go_wp2_with fail
  refine (int_bel (rChanges_any A c l _ L2.out (by omega))).mono ?_
  rintro e w3 ⟨rfl, hb3⟩
  have B3 := Lib.hid (bel_trans B2.out hb3)
  have L3 := Lib.hid (h.below B3.out)
  clear hb3 B2 L2
  go_wp2_with fail
  refine (int_bel (rPeak_any A c l _ L3.out (by omega) hV)).mono ?_
  rintro e w4 ⟨rfl, hb4⟩
  have B4 := Lib.hid (bel_trans B3.out hb4)
  have L4 := Lib.hid (h.below B4.out)
  clear hb4 B3 L3
  go_wp2_with fail
  refine (All_any A c l _ _ _ L4.out hn false hX).mono ?_
  rintro e w0 ⟨rfl, rfl⟩
  go_wp2_with fail
  refine (known2_any _).mono ?_
  rintro e w7 ⟨rfl, hb7⟩
  go_wp2_with fail
  go_ret
  exact ⟨rfl, bel_trans B4.out hb7⟩
set_option maxRecDepth 100000 in
set_option maxHeartbeats 2000000 in
theorem WaveMeasures_ok (A : Option Addr) (c : Nat) (l : List Int) (w : World) (h : Lies w A (ics l)) (hn : l.length ≤ 9223372036854775807) (hb : Hid (decide ((l.length : Int) ≤ 3000 ∨ (200000 < (l.length : Int) ∧ (l.length : Int) < 250000)) = true)) (hl : l.length ≤ 3000) (hE : Hid (echk l = 0)) (hR : Hid (vchk l = 0)) (hV : Hid (vls l = true)) (hX : Hid (allR (-65536) 65535 l = true)) :
    Calls Try.prog 18 #[.slice A l.length c] w fun e w' => e = .returned (.bool true) ∧ Below w.heap.size w w' := by
  go_enter Try.func18, Try.ntmps18
  go_wp2_with fail
  refine (short_any _ _ true hb).mono ?_
  rintro e w0 ⟨rfl, rfl⟩
  go_wp2_with fail
  refine (Energy_any A c l _ h hn 0 hE (enr l) (Lib.hid rfl)).mono ?_
  rintro e w0 ⟨rfl, rfl⟩
  go_wp2_with fail
  refine (Changes_bel A c l _ h hn 0 hR (chgN l l.length) (Lib.hid rfl)).mono ?_
  rintro e w1 ⟨rfl, hb1⟩
  have L1 := Lib.hid (h.below hb1)
  go_wp2_with fail
  refine (Peak_bel A c l _ L1.out hn 0 hR (pkAt l l.length) (Lib.hid rfl)).mono ?_
  rintro e w2 ⟨rfl, hb2⟩
  have B2 := Lib.hid (bel_trans hb1 hb2)
  have L2 := Lib.hid (h.below B2.out)
  clear hb1 hb2 L1
  go_wp2_with fail
  refine (rValues_any A c l _ L2.out hn true hV).mono ?_
  rintro e w0 ⟨rfl, rfl⟩
  go_wp2_with fail
  refine (int_bel (rChanges_any A c l _ L2.out (by omega))).mono ?_
  rintro e w3 ⟨rfl, hb3⟩
  have B3 := Lib.hid (bel_trans B2.out hb3)
  have L3 := Lib.hid (h.below B3.out)
  clear hb3 B2 L2
  go_wp2_with fail
  refine (int_bel (rPeak_any A c l _ L3.out (by omega) hV)).mono ?_
  rintro e w4 ⟨rfl, hb4⟩
  have B4 := Lib.hid (bel_trans B3.out hb4)
  have L4 := Lib.hid (h.below B4.out)
  clear hb4 B3 L3
  go_wp2_with fail
  refine (All_any A c l _ _ _ L4.out hn true hX).mono ?_
  rintro e w0 ⟨rfl, rfl⟩
  go_wp2_with fail
  refine (int_bel (rEnergy_any A c l _ L4.out hX (by omega))).mono ?_
  rintro e w5 ⟨rfl, hb5⟩
  have B5 := Lib.hid (bel_trans B4.out hb5)
  clear hb5 B4 L4
  go_wp2_with fail
  refine (known2_any _).mono ?_
  rintro e w7 ⟨rfl, hb7⟩
  go_wp2_with fail
  go_ret
  exact ⟨rfl, bel_trans B5.out hb7⟩

theorem WaveMeasures_any (A : Option Addr) (c : Nat) (l : List Int) (w : World) (h : Lies w A (ics l)) (hn : l.length ≤ 9223372036854775807) :
    Calls Try.prog 18 #[.slice A l.length c] w fun e w' => e = .returned (.bool true) ∧ Below w.heap.size w w' := by
  cases hb : decide ((l.length : Int) ≤ 3000 ∨ (200000 < (l.length : Int) ∧ (l.length : Int) < 250000)) with
  | false => exact WaveMeasures_far A c l w h hn (Lib.hid hb)
  | true =>
    by_cases hl : 200000 < l.length
    · exact WaveMeasures_long A c l w h hn (Lib.hid hb) hl (Lib.hid (by rw [echk, if_pos hl])) (Lib.hid (by rw [vchk, if_pos hl]))
    have hl' : l.length ≤ 3000 := by simp at hb; omega
    cases hv : vls l with
    | false => exact WaveMeasures_odd A c l w h hn (Lib.hid hb) hl' (Lib.hid (by rw [echk, if_neg hl, not_vls_energy hv]; rfl)) (Lib.hid (by rw [vchk, if_neg hl, hv]; rfl)) (Lib.hid hv)
    | true =>
      cases hx : allR (-65536) 65535 l with
      | false => exact WaveMeasures_quiet A c l w h hn (Lib.hid hb) hl' (Lib.hid (by rw [echk, if_neg hl, hx]; rfl)) (Lib.hid (by rw [vchk, if_neg hl, hv]; rfl)) (Lib.hid hv) (Lib.hid hx)
      | true => exact WaveMeasures_ok A c l w h hn (Lib.hid hb) hl' (Lib.hid (by rw [echk, if_neg hl, hx]; rfl)) (Lib.hid (by rw [vchk, if_neg hl, hv]; rfl)) (Lib.hid hv) (Lib.hid hx)
end Go.Proofs.Ytnhkngmdjomfjaa
