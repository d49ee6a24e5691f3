/- FeatureTransforms: the walk -/
import Derived.Test.YtfapmghhmkekaaaDoorMc
import Derived.Test.YtfapmghhmkekaaaDoorSlk
import Derived.Test.YtfapmghhmkekaaaDoorMa
namespace Go.Proofs.YtfapmghhmkekaaaDoor
open Go.RowKit Ear

theorem trfR_no {l : List Int} (h : ¬ (lenOk l.length = true ∧ allR (-65536) 65536 l = true)) : trfR l = (2, []) := by unfold trfR; rw [if_neg h]
theorem spcR_no {l : List Int} (h : ¬ (lenOk l.length = true ∧ allR (-65536) 65536 l = true)) : spcR l = (2, []) := by unfold spcR; rw [if_neg h]
theorem trfR_ok {l : List Int} (h : lenOk l.length = true) (h2 : allR (-65536) 65536 l = true) : trfR l = (0, trf l) := by unfold trfR; rw [if_pos ⟨h, h2⟩]
theorem spcR_ok {l : List Int} (h : lenOk l.length = true) (h2 : allR (-65536) 65536 l = true) : spcR l = (0, spc l) := by unfold spcR; rw [if_pos ⟨h, h2⟩]

set_option maxRecDepth 100000 in
set_option maxHeartbeats 8000000 in
theorem FeatureTransforms_no (A : Option Addr) (c : Nat) (l : List Int) (w : World) (h : Lies w A (ics l)) (hn : l.length ≤ 70) (hC : CosOk w) (hk : Kn) (ho : ¬ (l.length ≤ 64 ∧ allR (-65536) 65536 l = true)) :
    Calls Tryd.prog 10 #[.slice A l.length c] w (RetB true w) := by
  have hno : ¬ (lenOk l.length = true ∧ allR (-65536) 65536 l = true) := fun h => ho ⟨(lenOk_bd h.1).2, h.2⟩
  have T1 := Lib.hid (trfR_no hno)
  have T2 := Lib.hid (spcR_no hno)
  have HO := Lib.hid ho
  have HV : 64 < l.length ∨ (l.length ≤ 64 ∧ Hid (allR (-65536) 65536 l = false)) := by
    by_cases h1 : 64 < l.length
    · exact .inl h1
    · refine .inr ⟨by omega, ?_⟩
      cases hx : allR (-65536) 65536 l with
      | false => exact Lib.hid rfl
      | true => exact absurd ⟨by omega, hx⟩ ho
  clear hno ho
  rcases HV with h64 | ⟨h64, hv⟩
  · go_enter Tryd.func10, Tryd.ntmps10
    go_wp2_with fail
    refine (Transform_any A c l w h hC (by omega) 2 [] T1).mono ?_
    rintro e w1 ⟨A1, c1, rfl, ho1, hb1⟩
    simp only [List.length_nil]
    have C1 := Lib.hid (hC.below hb1)
    have L1 := Lib.hid (h.below hb1)
    clear ho1
    go_wp2_with fail
    refine (Spectrum_any A c l w1 L1.out C1.out (by omega) 2 [] T2).mono ?_
    rintro e w2 ⟨A2, c2, rfl, ho2, hb2⟩
    simp only [List.length_nil]
    have C2 := Lib.hid (C1.out.below hb2)
    have L2 := Lib.hid (L1.out.below hb2)
    have B2 := Lib.hid (hb1.trans (hb2.mono hb1.size))
    clear ho2 hb1 hb2 C1 L1
    go_wp2_with fail
    refine (Slack_no A c l w2 L2.out (by omega) HO.out).mono ?_
    rintro e w3 ⟨rfl, hb3⟩
    have C3 := Lib.hid (C2.out.below hb3)
    have B3 := Lib.hid (B2.out.trans (hb3.mono B2.out.size))
    clear hb3 C2 L2 B2
    go_wp2_with fail
    refine (hk _ C3.out).mono ?_
    rintro e w4 ⟨rfl, hb4⟩
    go_wp2_with fail
    go_ret
    exact ⟨rfl, B3.out.trans (hb4.mono B3.out.size)⟩
  · go_enter Tryd.func10, Tryd.ntmps10
    go_wp2_with fail
    refine (Transform_any A c l w h hC (by omega) 2 [] T1).mono ?_
    rintro e w1 ⟨A1, c1, rfl, ho1, hb1⟩
    simp only [List.length_nil]
    have C1 := Lib.hid (hC.below hb1)
    have L1 := Lib.hid (h.below hb1)
    clear ho1
    go_wp2_with fail
    refine (Spectrum_any A c l w1 L1.out C1.out (by omega) 2 [] T2).mono ?_
    rintro e w2 ⟨A2, c2, rfl, ho2, hb2⟩
    simp only [List.length_nil]
    have C2 := Lib.hid (C1.out.below hb2)
    have L2 := Lib.hid (L1.out.below hb2)
    have B2 := Lib.hid (hb1.trans (hb2.mono hb1.size))
    clear ho2 hb1 hb2 C1 L1
    go_wp2_with fail
    refine (Slack_no A c l w2 L2.out (by omega) HO.out).mono ?_
    rintro e w3 ⟨rfl, hb3⟩
    have C3 := Lib.hid (C2.out.below hb3)
    have L3 := Lib.hid (L2.out.below hb3)
    have B3 := Lib.hid (B2.out.trans (hb3.mono B2.out.size))
    clear hb3 C2 L2 B2
    go_wp2_with fail
    refine (All_any A c l (-65536) 65536 _ L3.out (by omega) false hv).mono ?_
    rintro e w' ⟨rfl, rfl⟩
    go_wp2_with fail
    refine (hk _ C3.out).mono ?_
    rintro e w4 ⟨rfl, hb4⟩
    go_wp2_with fail
    go_ret
    exact ⟨rfl, B3.out.trans (hb4.mono B3.out.size)⟩
set_option maxRecDepth 100000 in
set_option maxHeartbeats 8000000 in
theorem FeatureTransforms_odd (A : Option Addr) (c : Nat) (l : List Int) (w : World) (h : Lies w A (ics l)) (hn : l.length ≤ 64) (hC : CosOk w) (hk : Kn) (hl : lenOk l.length = false) (hv : Hid (allR (-65536) 65536 l = true)) :
    Calls Tryd.prog 10 #[.slice A l.length c] w (RetB true w) := by
  have hno : ¬ (lenOk l.length = true ∧ allR (-65536) 65536 l = true) := fun h => by rw [hl] at h; cases h.1
  have T1 := Lib.hid (trfR_no hno)
  have T2 := Lib.hid (spcR_no hno)
  have H1 := Lib.hid hl
  have HS : Hid (∃ s, s = slk l) := Lib.hid ⟨_, rfl⟩
  clear hno hl HS
  have q0 : (slk l != slk l) = false := by simp
  go_enter Tryd.func10, Tryd.ntmps10
  go_wp2_with fail
  refine (Transform_any A c l w h hC (by omega) 2 [] T1).mono ?_
  rintro e w1 ⟨A1, c1, rfl, ho1, hb1⟩
  simp only [List.length_nil]
  have C1 := Lib.hid (hC.below hb1)
  have L1 := Lib.hid (h.below hb1)
  clear ho1
  go_wp2_with fail
  refine (Spectrum_any A c l w1 L1.out C1.out (by omega) 2 [] T2).mono ?_
  rintro e w2 ⟨A2, c2, rfl, ho2, hb2⟩
  simp only [List.length_nil]
  have C2 := Lib.hid (C1.out.below hb2)
  have L2 := Lib.hid (L1.out.below hb2)
  have B2 := Lib.hid (hb1.trans (hb2.mono hb1.size))
  clear ho2 hb1 hb2 C1 L1
  go_wp2_with fail
  refine (Slack_ok A c l w2 L2.out hn hv).mono ?_
  rintro e w3 ⟨rfl, hb3⟩
  have C3 := Lib.hid (C2.out.below hb3)
  have L3 := Lib.hid (L2.out.below hb3)
  have B3 := Lib.hid (B2.out.trans (hb3.mono B2.out.size))
  have R3 := Lib.hid (rSlack_any A c l w3 L3.out hn hv)
  clear hb3 C2 L2 B2
  generalize slk l = s at *
  go_wp2_with fail
  refine (All_any A c l (-65536) 65536 _ L3.out (by omega) true hv).mono ?_
  rintro e w' ⟨rfl, rfl⟩
  go_wp2_with fail
  refine R3.out.mono ?_
  rintro e w4 ⟨rfl, n4, rfl⟩
  have C4 : Hid (CosOk (w3.drewN n4)) := C3
  have B4 := Lib.hid (B3.out.trans (below_drewN' (B := w.heap.size) w3 n4))
  generalize w3.drewN n4 = w4 at *
  clear C3 B3 L3 R3
  go_wp2_with fail
  refine (rLength_any l.length _ (by omega) false H1).mono ?_
  rintro e w' ⟨rfl, rfl⟩
  go_wp2_with fail
  refine (hk _ C4.out).mono ?_
  rintro e w5 ⟨rfl, hb5⟩
  go_wp2_with fail
  go_ret
  exact ⟨rfl, B4.out.trans (hb5.mono B4.out.size)⟩
set_option maxRecDepth 100000 in
set_option maxHeartbeats 8000000 in
theorem FeatureTransforms_ok (A : Option Addr) (c : Nat) (l : List Int) (w : World) (h : Lies w A (ics l)) (hn : l.length ≤ 64) (hC : CosOk w) (hk : Kn) (H1 : Hid (lenOk l.length = true)) (hv : Hid (allR (-65536) 65536 l = true)) :
    Calls Tryd.prog 10 #[.slice A l.length c] w (RetB true w) := by
  have T1 := Lib.hid (trfR_ok H1.out hv.out)
  have T2 := Lib.hid (spcR_ok H1.out hv.out)
  have q0 : (slk l != slk l) = false := by simp
  have N1 := Lib.hid (trf_length l)
  have N2 := Lib.hid (spc_length l)
  go_enter Tryd.func10, Tryd.ntmps10
  go_wp2_with fail
  refine (Transform_any A c l w h hC (by omega) 0 (trf l) T1).mono ?_
  rintro e w1 ⟨A1, c1, rfl, ho1, hb1⟩
  rw [N1.out]
  have C1 := Lib.hid (hC.below hb1)
  have L1 := Lib.hid (h.below hb1)
  have O1 := Lib.hid (Lies.of_own ho1)
  clear ho1
  go_wp2_with fail
  refine (Spectrum_any A c l w1 L1.out C1.out (by omega) 0 (spc l) T2).mono ?_
  rintro e w2 ⟨A2, c2, rfl, ho2, hb2⟩
  rw [N2.out]
  have C2 := Lib.hid (C1.out.below hb2)
  have L2 := Lib.hid (L1.out.below hb2)
  have B2 := Lib.hid (hb1.trans (hb2.mono hb1.size))
  have O1' := Lib.hid (O1.out.below hb2)
  have O2 := Lib.hid (Lies.of_own ho2)
  clear ho2 hb1 hb2 C1 L1 O1
  go_wp2_with fail
  refine (Slack_ok A c l w2 L2.out hn hv).mono ?_
  rintro e w3 ⟨rfl, hb3⟩
  have C3 := Lib.hid (C2.out.below hb3)
  have L3 := Lib.hid (L2.out.below hb3)
  have B3 := Lib.hid (B2.out.trans (hb3.mono B2.out.size))
  have O1 := Lib.hid (O1'.out.below hb3)
  have O2' := Lib.hid (O2.out.below hb3)
  have R3 := Lib.hid (rSlack_any A c l w3 L3.out hn hv)
  clear hb3 C2 L2 B2 O1' O2
  generalize slk l = s at *
  go_wp2_with fail
  refine (All_any A c l (-65536) 65536 _ L3.out (by omega) true hv).mono ?_
  rintro e w' ⟨rfl, rfl⟩
  go_wp2_with fail
  refine R3.out.mono ?_
  rintro e w4 ⟨rfl, n4, rfl⟩
  have C4 : Hid (CosOk (w3.drewN n4)) := C3
  have L4 : Hid (Lies (w3.drewN n4) A (ics l)) := L3
  have O1' : Hid (Lies (w3.drewN n4) A1 (ics (trf l))) := O1
  have O2 : Hid (Lies (w3.drewN n4) A2 (ics (spc l))) := O2'
  have B4 := Lib.hid (B3.out.trans (below_drewN' (B := w.heap.size) w3 n4))
  generalize w3.drewN n4 = w4 at *
  clear C3 B3 L3 R3 O1 O2'
  go_wp2_with fail
  refine (rLength_any l.length _ (by omega) true H1).mono ?_
  rintro e w' ⟨rfl, rfl⟩
  go_wp2_with fail
  refine (rTransform_any A c l w4 L4.out C4.out H1.out hv).mono ?_
  rintro e w5 ⟨A5, c5, rfl, ho5, hb5⟩
  rw [N1.out]
  have C5 := Lib.hid (C4.out.below hb5)
  have L5 := Lib.hid (L4.out.below hb5)
  have B5 := Lib.hid (B4.out.trans (hb5.mono B4.out.size))
  have O2' := Lib.hid (O2.out.below hb5)
  have hsm := same_b A1 A5 c1 c5 (trf l) (trf l) w5 (O1'.out.below hb5) (Lies.of_own ho5) (by rw [N1.out]; omega) (by rw [N1.out]; omega) true (Lib.hid (by simp))
  rw [N1.out] at hsm
  clear ho5 hb5 C4 L4 B4 O2 O1'
  go_wp2_with fail
  refine hsm.mono ?_
  clear hsm
  rintro e w6 ⟨rfl, hb6⟩
  have C6 := Lib.hid (C5.out.below hb6)
  have L6 := Lib.hid (L5.out.below hb6)
  have B6 := Lib.hid (B5.out.trans (hb6.mono B5.out.size))
  have O2 := Lib.hid (O2'.out.below hb6)
  clear hb6 C5 L5 B5 O2'
  go_wp2_with fail
  refine (rSpectrum_any A c l w6 L6.out C6.out H1.out hv).mono ?_
  rintro e w7 ⟨A7, c7, rfl, ho7, hb7⟩
  rw [N2.out]
  have C7 := Lib.hid (C6.out.below hb7)
  have B7 := Lib.hid (B6.out.trans (hb7.mono B6.out.size))
  have hsm := same_b A2 A7 c2 c7 (spc l) (spc l) w7 (O2.out.below hb7) (Lies.of_own ho7) (by rw [N2.out]; omega) (by rw [N2.out]; omega) true (Lib.hid (by simp))
  rw [N2.out] at hsm
  clear ho7 hb7 C6 L6 B6 O2
  go_wp2_with fail
  refine hsm.mono ?_
  clear hsm
  rintro e w8 ⟨rfl, hb8⟩
  have C8 := Lib.hid (C7.out.below hb8)
  have B8 := Lib.hid (B7.out.trans (hb8.mono B7.out.size))
  clear hb8 C7 B7
  go_wp2_with fail
  refine (hk _ C8.out).mono ?_
  rintro e w9 ⟨rfl, hb9⟩
  go_wp2_with fail
  go_ret
  exact ⟨rfl, B8.out.trans (hb9.mono B8.out.size)⟩
set_option maxHeartbeats 400000 in
theorem FeatureTransforms_any (A : Option Addr) (c : Nat) (l : List Int) (w : World) (h : Lies w A (ics l)) (hC : CosOk w) (hk : Kn) :
    Calls Tryd.prog 10 #[.slice A l.length c] w (RetB true w) := by
  by_cases h70 : 70 < l.length
  · go_enter Tryd.func10, Tryd.ntmps10
    go_wp2_with fail
    refine (hk _ hC).mono ?_
    rintro e w1 ⟨rfl, hb1⟩
    go_wp2_with fail
    go_ret
    exact ⟨rfl, hb1⟩
  · by_cases ho : l.length ≤ 64 ∧ allR (-65536) 65536 l = true
    · cases hl : lenOk l.length with
      | false => exact FeatureTransforms_odd A c l w h ho.1 hC hk hl (Lib.hid ho.2)
      | true => exact FeatureTransforms_ok A c l w h ho.1 hC hk (Lib.hid hl) (Lib.hid ho.2)
    · exact FeatureTransforms_no A c l w h (by omega) hC hk ho
end Go.Proofs.YtfapmghhmkekaaaDoor
