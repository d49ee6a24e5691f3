/- WaveSegments: the walk -/
import Derived.Test.YtnhkngmdjomfjaaRSeg
import Derived.Test.YtnhkngmdjomfjaaRGate
import Derived.Test.YtnhkngmdjomfjaaSegsNo
namespace Go.Proofs.Ytnhkngmdjomfjaa
open Go.RowKit Ear

theorem segsOf_len (g : Gt) (B : Nat) (x : List Int) : (segsOf g B x).length ≤ x.length + 1 := by
  unfold segsOf segSt
  have h1 := stp_len g B ⟨0, 0, (0 : Int) + x.length, 0, 0, 0⟩ x (x.length / B)
  have h2 : x.length / B ≤ x.length := Nat.div_le_self _ _
  rw [List.length_append]
  refine Nat.le_trans (Nat.add_le_add h1 (d := 1) ?_) (by omega)
  split <;> simp

set_option maxRecDepth 100000 in
set_option maxHeartbeats 2000000 in
theorem WaveSegments_far (g : Gt) (A : Option Addr) (c : Nat) (x : List Int) (w : World) (hb : Hid (decide ((x.length : Int) ≤ 3000 ∨ (200000 < (x.length : Int) ∧ (x.length : Int) < 250000)) = false)) :
    Calls Try.prog 6 #[.slice A x.length c, gateV g] w fun e w' => e = .returned (.bool true) ∧ Below w.heap.size w w' := by
  go_enter Try.func6, Try.ntmps6
  go_wp2_with fail
  refine (short_any _ _ false hb).mono ?_
  rintro e w0 ⟨rfl, rfl⟩
  go_wp2_with fail
  refine (known2_any _).mono ?_
  rintro e w7 ⟨rfl, hb7⟩
  go_wp2_with fail
  go_ret
  exact ⟨rfl, bel_trans (bel_alloc (Below.refl _ w) _) hb7⟩

set_option maxRecDepth 100000 in
set_option maxHeartbeats 2000000 in
theorem WaveSegments_long (g : Gt) (A : Option Addr) (c : Nat) (x : List Int) (w : World) (hb : Hid (decide ((x.length : Int) ≤ 3000 ∨ (200000 < (x.length : Int) ∧ (x.length : Int) < 250000)) = true)) (hl : 200000 < x.length) (hl2 : x.length < 250000) :
    Calls Try.prog 6 #[.slice A x.length c, gateV g] w fun e w' => e = .returned (.bool true) ∧ Below w.heap.size w w' := by
  go_enter Try.func6, Try.ntmps6
  go_wp2_with fail
  refine (short_any _ _ true hb).mono ?_
  rintro e w0 ⟨rfl, rfl⟩
  go_wp2_with fail
  refine (Segments_long g A c x _ hl).mono ?_
  rintro e w1 ⟨A1, c1, rfl, ho1, hb1⟩
  have B1 := Lib.hid (bel_trans (bel_alloc (Below.refl _ w) _) hb1)
  simp only [List.length_nil]
  clear ho1 hb1
  go_wp2_with fail
  refine (known2_any _).mono ?_
  rintro e w7 ⟨rfl, hb7⟩
  go_wp2_with fail
  go_ret
  exact ⟨rfl, bel_trans B1.out hb7⟩

set_option maxRecDepth 100000 in
set_option maxHeartbeats 2000000 in
theorem WaveSegments_no (g : Gt) (A : Option Addr) (c : Nat) (x : List Int) (w : World) (h : Lies w A (ics x)) (hb : Hid (decide ((x.length : Int) ≤ 3000 ∨ (200000 < (x.length : Int) ∧ (x.length : Int) < 250000)) = true)) (hl : x.length ≤ 3000)
    (hh : Hid (decide g.ok = false) ∨ (Hid (decide g.ok = true) ∧ Hid (smp x = false))) :
    Calls Try.prog 6 #[.slice A x.length c, gateV g] w fun e w' => e = .returned (.bool true) ∧ Below w.heap.size w w' := by
  have HSG : Hid (∀ w, Lies w A (ics x) → Calls Try.prog 30 #[.slice A x.length c, gateV g] w (SegRet 2 [] w)) := Lib.hid fun w h => by
    rcases hh with h1 | ⟨h1, h2⟩
    · exact Segments_gate g A c x w (by omega) h1
    · exact Segments_smp g A c x w h (by omega) h1 h2
  have HL := Lib.hid (fun o => h.alloc (w := w) o)
  obtain ⟨g1, g2, g3, g4, g5, g6, g7⟩ := g
  rcases hh with h1 | ⟨h1, h2⟩
  all_goals
    go_enter Try.func6, Try.ntmps6
    go_wp2_with fail
    refine (short_any _ _ true hb).mono ?_
    rintro e w0 ⟨rfl, rfl⟩
    go_wp2_with fail
    refine (HSG.out _ (HL.out _)).mono ?_
    rintro e w1 ⟨A1, c1, rfl, ho1, hb1⟩
    have B1 := Lib.hid (bel_trans (bel_alloc (Below.refl _ w) _) hb1)
    have L1 := Lib.hid ((HL.out _).below hb1)
    have R0 := row_keep (heap_alloc_new w _) hb1
    have q0 := cell_of_row w1 _ 0 _ _ _ R0
    have q1 := cell_of_row w1 _ 1 _ _ _ R0
    have q2 := cell_of_row w1 _ 2 _ _ _ R0
    have q3 := cell_of_row w1 _ 3 _ _ _ R0
    have q4 := cell_of_row w1 _ 4 _ _ _ R0
    have q5 := cell_of_row w1 _ 5 _ _ _ R0
    have q6 := cell_of_row w1 _ 6 _ _ _ R0
    simp at q0 q1 q2 q3 q4 q5 q6
    simp only [List.length_nil]
    clear ho1 hb1 R0
    go_wp2_with fail
  · refine (rGate_any ⟨g1, g2, g3, g4, g5, g6, g7⟩ _ false h1).mono ?_
    rintro e w2 ⟨rfl, hb2⟩
    have B2 := Lib.hid (bel_trans B1.out hb2)
    clear hb2 B1 q0 q1 q2 q3 q4 q5 q6
    go_wp2_with fail
    refine (known2_any _).mono ?_
    rintro e w7 ⟨rfl, hb7⟩
    go_wp2_with fail
    go_ret
    exact ⟨rfl, bel_trans B2.out hb7⟩
  · refine (rGate_any ⟨g1, g2, g3, g4, g5, g6, g7⟩ _ true h1).mono ?_
    rintro e w2 ⟨rfl, hb2⟩
    have B2 := Lib.hid (bel_trans B1.out hb2)
    have L2 := Lib.hid (L1.out.below hb2)
    clear hb2 B1 q0 q1 q2 q3 q4 q5 q6
    go_wp2_with fail
    refine (All_any A c x _ _ _ L2.out (by omega) false h2).mono ?_
    rintro e w0 ⟨rfl, rfl⟩
    go_wp2_with fail
    refine (known2_any _).mono ?_
    rintro e w7 ⟨rfl, hb7⟩
    go_wp2_with fail
    go_ret
    exact ⟨rfl, bel_trans B2.out hb7⟩

set_option maxRecDepth 100000 in
set_option maxHeartbeats 2000000 in
theorem WaveSegments_ok (g : Gt) (B : Nat) (A : Option Addr) (c : Nat) (x : List Int) (w : World) (h : Lies w A (ics x)) (hA : A = none → c = 0) (hlc : x.length ≤ c) (hb : Hid (decide ((x.length : Int) ≤ 3000 ∨ (200000 < (x.length : Int) ∧ (x.length : Int) < 250000)) = true)) (hl : x.length ≤ 3000)
    (hg : Hid (decide g.ok = true)) (hB : Hid (g.block = B)) (hv : Hid (smp x = true)) (out : List (Int × Int)) (hout : Hid (segsOf g B x = out)) :
    Calls Try.prog 6 #[.slice A x.length c, gateV g] w fun e w' => e = .returned (.bool true) ∧ Below w.heap.size w w' := by
  have HL := Lib.hid (fun o => h.alloc (w := w) o)
  have HA := Lib.hid hA
  have HLC := Lib.hid hlc
  have hgo : Hid g.ok := Lib.hid (by simpa using hg.out)
  have hol := segsOf_len g B x
  rw [hout.out] at hol
  have HSG : Hid (∀ w, Lies w A (ics x) → Calls Try.prog 30 #[.slice A x.length c, gateV g] w (SegRet 0 out w)) := Lib.hid fun w h => by
    rw [← hout.out]; exact Segments_ok g B A c x w h hA hv (by omega) hgo hB
  have HRS : Hid (∃ sp, ∀ w, Lies w A (ics x) → Calls Try.prog 32 #[.slice A x.length c, gateV g, .bool true] w (SegBool sp out w)) := Lib.hid ⟨_, fun w h => rSegments_any g B A c x true w h hlc hv (by omega) hgo hB _ out (Lib.hid rfl) (Lib.hid (by rw [← hout.out]; simp [segsOf]))⟩
  obtain ⟨sp, hrs⟩ := HRS.out
  have HR := Lib.hid hrs
  clear HRS hrs hA hlc
  obtain ⟨g1, g2, g3, g4, g5, g6, g7⟩ := g
  go_enter Try.func6, Try.ntmps6
  go_wp2_with fail
  refine (short_any _ _ true hb).mono ?_
  rintro e w0 ⟨rfl, rfl⟩
  go_wp2_with fail
  refine (HSG.out _ (HL.out _)).mono ?_
  rintro e w1 ⟨A1, c1, rfl, ho1, hb1⟩
  have B1 := Lib.hid (bel_trans (bel_alloc (Below.refl _ w) _) hb1)
  have L1 := Lib.hid ((HL.out _).below hb1)
  have LO := Lib.hid (Lies.of_own ho1)
  have R0 := row_keep (heap_alloc_new w _) hb1
  have q0 := cell_of_row w1 _ 0 _ _ _ R0
  have q1 := cell_of_row w1 _ 1 _ _ _ R0
  have q2 := cell_of_row w1 _ 2 _ _ _ R0
  have q3 := cell_of_row w1 _ 3 _ _ _ R0
  have q4 := cell_of_row w1 _ 4 _ _ _ R0
  have q5 := cell_of_row w1 _ 5 _ _ _ R0
  have q6 := cell_of_row w1 _ 6 _ _ _ R0
  simp at q0 q1 q2 q3 q4 q5 q6
  clear ho1 hb1
  go_wp2_with fail
  refine (rGate_any ⟨g1, g2, g3, g4, g5, g6, g7⟩ _ true hg).mono ?_
  rintro e w2 ⟨rfl, hb2⟩
  have B2 := Lib.hid (bel_trans B1.out hb2)
  have L2 := Lib.hid (L1.out.below hb2)
  have LO2 := Lib.hid (LO.out.below hb2)
  have R0' := row_keep R0 hb2
  clear q0 q1 q2 q3 q4 q5 q6 R0 hb2 B1 L1 LO
  have q0 := cell_of_row w2 _ 0 _ _ _ R0'
  have q1 := cell_of_row w2 _ 1 _ _ _ R0'
  have q2 := cell_of_row w2 _ 2 _ _ _ R0'
  have q3 := cell_of_row w2 _ 3 _ _ _ R0'
  have q4 := cell_of_row w2 _ 4 _ _ _ R0'
  have q5 := cell_of_row w2 _ 5 _ _ _ R0'
  have q6 := cell_of_row w2 _ 6 _ _ _ R0'
  simp at q0 q1 q2 q3 q4 q5 q6
  clear R0'
  go_wp2_with fail
  refine (All_any A c x _ _ _ L2.out (by omega) true hv).mono ?_
  rintro e w0 ⟨rfl, rfl⟩
  go_wp2_with fail
  refine (HR.out _ L2.out).mono ?_
  rintro e w3 ⟨A3, c3, rfl, ho3, hb3⟩
  have B3 := Lib.hid (bel_trans B2.out hb3)
  have LO3 := Lib.hid (LO2.out.below hb3)
  have LR3 := Lib.hid (Lies.of_own ho3)
  clear q0 q1 q2 q3 q4 q5 q6 ho3 hb3 B2 LO2
  go_wp2_with fail
  refine (sames_bel A1 A3 c1 c3 out out _ LO3.out LR3.out (by omega) (by omega) true (Lib.hid (by simp))).mono ?_
  rintro e w4 ⟨rfl, hb4⟩
  have B4 := Lib.hid (bel_trans B3.out hb4)
  clear hb4 B3
  go_wp2_with fail
  refine (known2_any _).mono ?_
  rintro e w7 ⟨rfl, hb7⟩
  go_wp2_with fail
  go_ret
  exact ⟨rfl, bel_trans B4.out hb7⟩

theorem WaveSegments_any (g : Gt) (A : Option Addr) (c : Nat) (x : List Int) (w : World) (h : Lies w A (ics x)) (hA : A = none → c = 0) (hlc : x.length ≤ c) :
    Calls Try.prog 6 #[.slice A x.length c, gateV g] w fun e w' => e = .returned (.bool true) ∧ Below w.heap.size w w' := by
  cases hb : decide ((x.length : Int) ≤ 3000 ∨ (200000 < (x.length : Int) ∧ (x.length : Int) < 250000)) with
  | false => exact WaveSegments_far g A c x w (Lib.hid hb)
  | true =>
    by_cases hl : 200000 < x.length
    · exact WaveSegments_long g A c x w (Lib.hid hb) hl (by simp at hb; omega)
    have hl3 : x.length ≤ 3000 := by simp at hb; omega
    cases hg : decide g.ok with
    | false => exact WaveSegments_no g A c x w h (Lib.hid hb) hl3 (.inl (Lib.hid hg))
    | true =>
      cases hv : smp x with
      | false => exact WaveSegments_no g A c x w h (Lib.hid hb) hl3 (.inr ⟨Lib.hid hg, Lib.hid hv⟩)
      | true =>
        have hgo : g.ok := by simpa using hg
        obtain ⟨B, hB⟩ := Int.eq_ofNat_of_zero_le (show 0 ≤ g.block by have := hgo.1; omega)
        exact WaveSegments_ok g B A c x w h hA hlc (Lib.hid hb) hl3 (Lib.hid hg) (Lib.hid hB) (Lib.hid hv) _ (Lib.hid rfl)
end Go.Proofs.Ytnhkngmdjomfjaa
