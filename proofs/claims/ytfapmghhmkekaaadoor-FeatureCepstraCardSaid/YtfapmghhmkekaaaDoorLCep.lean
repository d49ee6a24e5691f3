/- FeatureCepstra: the walk (written by mk_lcep.py) -/
import Derived.Test.YtfapmghhmkekaaaDoorMc
import Derived.Test.YtfapmghhmkekaaaDoorMa
namespace Go.Proofs.YtfapmghhmkekaaaDoor
open Go.RowKit Ear

set_option maxRecDepth 100000 in
set_option maxHeartbeats 4000000 in
theorem FeatureCepstra_no (A : Option Addr) (c : Nat) (l : List Int) (n : Int) (w : World) (h : Lies w A (ics l)) (hn : l.length ≤ 9223372036854775807) (hC : CosOk w) (hk : Kn) (h70 : l.length ≤ 70) (HO : ¬ cepOk l n) :
    Calls Tryd.prog 8 #[.slice A l.length c, .int .i64 n] w (RetB true w) := by
  by_cases h1 : l.length < 1
  · go_enter Tryd.func8, Tryd.ntmps8
    go_wp2_with fail
    refine (Cepstrum_no A c l n w h hn HO).mono ?_
    rintro e w1 ⟨A1, c1, rfl, ho1, hb1⟩
    have C1 := Lib.hid (hC.below hb1)
    have L1 := Lib.hid (h.below hb1)
    simp only [List.length_nil]
    clear HO
    go_wp2_with fail
    refine (hk _ C1.out).mono ?_
    rintro e w2 ⟨rfl, hb2⟩
    go_wp2_with fail
    go_ret
    exact ⟨rfl, hb1.trans (hb2.mono hb1.size)⟩
  · by_cases h2 : 64 < l.length
    · go_enter Tryd.func8, Tryd.ntmps8
      go_wp2_with fail
      refine (Cepstrum_no A c l n w h hn HO).mono ?_
      rintro e w1 ⟨A1, c1, rfl, ho1, hb1⟩
      have C1 := Lib.hid (hC.below hb1)
      have L1 := Lib.hid (h.below hb1)
      simp only [List.length_nil]
      clear HO
      go_wp2_with fail
      refine (hk _ C1.out).mono ?_
      rintro e w2 ⟨rfl, hb2⟩
      go_wp2_with fail
      go_ret
      exact ⟨rfl, hb1.trans (hb2.mono hb1.size)⟩
    · cases h3 : allR (-65536) 65536 l with
      | false =>
        have H2 := Lib.hid h3
        clear h3
        go_enter Tryd.func8, Tryd.ntmps8
        go_wp2_with fail
        refine (Cepstrum_no A c l n w h hn HO).mono ?_
        rintro e w1 ⟨A1, c1, rfl, ho1, hb1⟩
        have C1 := Lib.hid (hC.below hb1)
        have L1 := Lib.hid (h.below hb1)
        simp only [List.length_nil]
        clear HO
        go_wp2_with fail
        refine (All_any A c l (-65536) 65536 _ L1.out hn false H2).mono ?_
        rintro e w' ⟨rfl, rfl⟩
        go_wp2_with fail
        refine (hk _ C1.out).mono ?_
        rintro e w2 ⟨rfl, hb2⟩
        go_wp2_with fail
        go_ret
        exact ⟨rfl, hb1.trans (hb2.mono hb1.size)⟩
      | true =>
        have H2 := Lib.hid h3
        by_cases h4 : n < 1
        · clear h3
          go_enter Tryd.func8, Tryd.ntmps8
          go_wp2_with fail
          refine (Cepstrum_no A c l n w h hn HO).mono ?_
          rintro e w1 ⟨A1, c1, rfl, ho1, hb1⟩
          have C1 := Lib.hid (hC.below hb1)
          have L1 := Lib.hid (h.below hb1)
          simp only [List.length_nil]
          clear HO
          go_wp2_with fail
          refine (All_any A c l (-65536) 65536 _ L1.out hn true H2).mono ?_
          rintro e w' ⟨rfl, rfl⟩
          go_wp2_with fail
          refine (hk _ C1.out).mono ?_
          rintro e w2 ⟨rfl, hb2⟩
          go_wp2_with fail
          go_ret
          exact ⟨rfl, hb1.trans (hb2.mono hb1.size)⟩
        · have hp : pad l.length = fit l.length := by unfold pad; rw [if_pos (by omega)]
          have h5 : ((fit l.length : Nat) : Int) < n := by
            apply Decidable.byContradiction
            intro h
            exact HO ⟨by omega, by omega, h3, by omega, by omega⟩
          have HP := Lib.hid hp
          clear hp h3
          generalize fit l.length = q at *
          go_enter Tryd.func8, Tryd.ntmps8
          go_wp2_with fail
          refine (Cepstrum_no A c l n w h hn HO).mono ?_
          rintro e w1 ⟨A1, c1, rfl, ho1, hb1⟩
          have C1 := Lib.hid (hC.below hb1)
          have L1 := Lib.hid (h.below hb1)
          simp only [List.length_nil]
          clear HO
          go_wp2_with fail
          refine (All_any A c l (-65536) 65536 _ L1.out hn true H2).mono ?_
          rintro e w' ⟨rfl, rfl⟩
          go_wp2_with fail
          refine (rPadded_any l.length _ hn).mono ?_
          rintro e w' ⟨rfl, rfl⟩
          rw [HP.out]
          go_wp2_with fail
          refine (hk _ C1.out).mono ?_
          rintro e w2 ⟨rfl, hb2⟩
          go_wp2_with fail
          go_ret
          exact ⟨rfl, hb1.trans (hb2.mono hb1.size)⟩

set_option maxRecDepth 100000 in
set_option maxHeartbeats 4000000 in
theorem FeatureCepstra_ok (A : Option Addr) (c : Nat) (l : List Int) (n : Nat) (w : World) (h : Lies w A (ics l)) (hn : l.length ≤ 9223372036854775807) (hC : CosOk w) (hk : Kn) (HO : cepOk l n) :
    Calls Tryd.prog 8 #[.slice A l.length c, .int .i64 n] w (RetB true w) := by
  obtain ⟨h1, h2, h3, h4, h5⟩ := HO
  have H2 := Lib.hid h3
  have HF : Hid (n ≤ fit l.length) := Lib.hid (by omega)
  have HL := Lib.hid (cep_length h2 HF.out)
  have hcall := Lib.hid (Cepstrum_ok A c l n w h hC ⟨h1, h2, h3, h4, h5⟩)
  have hp : pad l.length = fit l.length := by unfold pad; rw [if_pos (by omega)]
  have HP := Lib.hid hp
  have hf := (lenOk_bd (fit_ok l.length)).2
  have HG : Hid (∃ q, fit l.length = q) := Lib.hid ⟨_, rfl⟩
  clear h3 hp HG
  go_enter Tryd.func8, Tryd.ntmps8
  go_wp2_with fail
  refine hcall.out.mono ?_
  rintro e w1 ⟨A1, c1, rfl, ho1, hb1⟩
  rw [HL.out]
  have C1 := Lib.hid (hC.below hb1)
  have L1 := Lib.hid (h.below hb1)
  have O1 := Lib.hid ho1
  clear ho1 hcall
  go_wp2_with fail
  refine (All_any A c l (-65536) 65536 _ L1.out hn true H2).mono ?_
  rintro e w' ⟨rfl, rfl⟩
  go_wp2_with fail
  refine (rPadded_any l.length _ hn).mono ?_
  rintro e w' ⟨rfl, rfl⟩
  rw [HP.out]
  go_wp2_with fail
  refine (rCepstrum_any A c l n _ L1.out C1.out h2 HF.out H2).mono ?_
  rintro e w2 ⟨A2, c2, rfl, ho2, -, -, hb2⟩
  rw [HL.out]
  have C2 := Lib.hid (C1.out.below hb2)
  have O1' := Lib.hid (O1.out.below hb2)
  have O2 := Lib.hid ho2
  have HB := Lib.hid (hb1.trans (hb2.mono hb1.size))
  have hsm := same_b A1 A2 c1 c2 (cep l n) (cep l n) w2 O1'.out O2.out (by rw [HL.out]; omega) (by rw [HL.out]; omega) true (Lib.hid (by simp))
  rw [HL.out] at hsm
  clear ho2 O1 hb1 hb2
  go_wp2_with fail
  refine hsm.mono ?_
  clear hsm
  rintro e w3 ⟨rfl, hb3⟩
  have C3 := Lib.hid (C2.out.below hb3)
  have HB' := Lib.hid (HB.out.trans (hb3.mono HB.out.size))
  clear hb3 HB
  go_wp2_with fail
  refine (hk _ C3.out).mono ?_
  rintro e w4 ⟨rfl, hb4⟩
  go_wp2_with fail
  go_ret
  exact ⟨rfl, HB'.out.trans (hb4.mono HB'.out.size)⟩

set_option maxHeartbeats 400000 in
theorem FeatureCepstra_any (A : Option Addr) (c : Nat) (l : List Int) (n : Int) (w : World) (h : Lies w A (ics l)) (hn : l.length ≤ 9223372036854775807) (hC : CosOk w) (hk : Kn) :
    Calls Tryd.prog 8 #[.slice A l.length c, .int .i64 n] w (RetB true w) := by
  by_cases h70 : 70 < l.length
  · go_enter Tryd.func8, Tryd.ntmps8
    go_wp2_with fail
    refine (hk _ hC).mono ?_
    rintro e w1 ⟨rfl, hb1⟩
    go_wp2_with fail
    go_ret
    exact ⟨rfl, hb1⟩
  · by_cases ho : cepOk l n
    · obtain ⟨m, rfl⟩ := Int.eq_ofNat_of_zero_le (show 0 ≤ n by have := ho.2.2.2.1; omega)
      exact FeatureCepstra_ok A c l m w h hn hC hk ho
    · exact FeatureCepstra_no A c l n w h hn hC hk (by omega) ho
end Go.Proofs.YtfapmghhmkekaaaDoor
