/- FeatureInverses: the walk -/
import Derived.Test.YtfapmghhmkekaaaDoorMc
import Derived.Test.YtfapmghhmkekaaaDoorMa
namespace Go.Proofs.YtfapmghhmkekaaaDoor
open Go.RowKit Ear

set_option maxRecDepth 100000 in
set_option maxHeartbeats 2000000 in
theorem FeatureInverses_any (A : Option Addr) (c : Nat) (l : List Int) (w : World) (h : Lies w A (ics l)) (hn : l.length ≤ 9223372036854775807) (hC : CosOk w) (hk : Kn) :
    Calls Tryd.prog 3 #[.slice A l.length c] w (RetB true w) := by
  by_cases h70 : 70 < l.length
  · go_enter Tryd.func3, Tryd.ntmps3
    go_wp2_with fail
    refine (hk _ hC).mono ?_
    rintro e w1 ⟨rfl, hb1⟩
    go_wp2_with fail
    go_ret
    exact ⟨rfl, hb1⟩
  · cases h1 : lenOk l.length with
    | false =>
      have H1 := Lib.hid h1
      have HO : ¬ (lenOk l.length = true ∧ allR (-1099511627776) 1099511627776 l = true) := by rw [h1]; simp
      clear h1
      go_enter Tryd.func3, Tryd.ntmps3
      go_wp2_with fail
      refine (Inverse_no A c l w h hn HO).mono ?_
      rintro e w1 ⟨A1, c1, rfl, ho1, hb1⟩
      have C1 := Lib.hid (hC.below hb1)
      simp only [List.length_nil]
      clear HO
      go_wp2_with fail
      refine (rLength_any l.length w1 hn false H1).mono ?_
      rintro e w' ⟨rfl, rfl⟩
      go_wp2_with fail
      refine (hk _ C1.out).mono ?_
      rintro e w2 ⟨rfl, hb2⟩
      go_wp2_with fail
      go_ret
      exact ⟨rfl, hb1.trans (hb2.mono hb1.size)⟩
    | true =>
      cases h2 : allR (-1099511627776) 1099511627776 l with
      | false =>
        have H1 := Lib.hid h1
        have H2 := Lib.hid h2
        have HO : ¬ (lenOk l.length = true ∧ allR (-1099511627776) 1099511627776 l = true) := by rw [h2]; simp
        clear h1 h2
        go_enter Tryd.func3, Tryd.ntmps3
        go_wp2_with fail
        refine (Inverse_no A c l w h hn HO).mono ?_
        rintro e w1 ⟨A1, c1, rfl, ho1, hb1⟩
        have C1 := Lib.hid (hC.below hb1)
        have L1 := Lib.hid (h.below hb1)
        simp only [List.length_nil]
        clear HO
        go_wp2_with fail
        refine (rLength_any l.length w1 hn true H1).mono ?_
        rintro e w' ⟨rfl, rfl⟩
        go_wp2_with fail
        refine (All_any A c l (-1099511627776) 1099511627776 _ L1.out hn false H2).mono ?_
        rintro e w' ⟨rfl, rfl⟩
        go_wp2_with fail
        refine (hk _ C1.out).mono ?_
        rintro e w2 ⟨rfl, hb2⟩
        go_wp2_with fail
        go_ret
        exact ⟨rfl, hb1.trans (hb2.mono hb1.size)⟩
      | true =>
        have H1 := Lib.hid h1
        have H2 := Lib.hid h2
        have HL := Lib.hid (inv_length l)
        clear h1 h2
        go_enter Tryd.func3, Tryd.ntmps3
        go_wp2_with fail
        refine (Inverse_ok A c l w h hC H1.out H2).mono ?_
        rintro e w1 ⟨A1, c1, rfl, ho1, hb1⟩
        rw [HL.out]
        have C1 := Lib.hid (hC.below hb1)
        have L1 := Lib.hid (h.below hb1)
        have O1 := Lib.hid (Lies.of_own ho1)
        clear ho1
        go_wp2_with fail
        refine (rLength_any l.length w1 hn true H1).mono ?_
        rintro e w' ⟨rfl, rfl⟩
        go_wp2_with fail
        refine (All_any A c l (-1099511627776) 1099511627776 _ L1.out hn true H2).mono ?_
        rintro e w' ⟨rfl, rfl⟩
        go_wp2_with fail
        refine (rInverse_ok A c l w1 L1.out C1.out H1.out H2).mono ?_
        rintro e w2 ⟨A2, c2, rfl, ho2, hb2⟩
        rw [HL.out]
        have C2 := Lib.hid (C1.out.below hb2)
        have O1' := Lib.hid (O1.out.below hb2)
        have O2 := Lib.hid (Lies.of_own ho2)
        have HB := Lib.hid (hb1.trans (hb2.mono hb1.size))
        have hsm := same_b A1 A2 c1 c2 (inv l) (inv l) w2 O1'.out O2.out (by rw [HL.out]; omega) (by rw [HL.out]; omega) true (Lib.hid (by simp))
        rw [HL.out] at hsm
        clear ho2 O1 hb1 hb2
        go_wp2_with fail
        refine hsm.mono ?_
        clear hsm
        rintro e w3 ⟨rfl, hb3⟩
        have C3 := Lib.hid (C2.out.below hb3)
        have HB' := Lib.hid (HB.out.trans (hb3.mono HB.out.size))
        clear hb3 HB
        go_wp2_with fail
        refine (hk _ C3.out).mono ?_
        rintro e w4 ⟨rfl, hb4⟩
        go_wp2_with fail
        go_ret
        exact ⟨rfl, HB'.out.trans (hb4.mono HB'.out.size)⟩
end Go.Proofs.YtfapmghhmkekaaaDoor
