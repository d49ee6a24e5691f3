/- FeatureSeeds: the walk -/
import Derived.Test.YtfapmghhmkekaaaDoorLFal
import Derived.Test.YtfapmghhmkekaaaDoorQSee
import Derived.Test.YtfapmghhmkekaaaDoorRSee
namespace Go.Proofs.YtfapmghhmkekaaaDoor
open Go.RowKit Ear
set_option linter.unusedVariables false
set_option maxRecDepth 100000 in
set_option maxHeartbeats 4000000 in
theorem FeatureSeeds_o1 (A : Option Addr) (c : Nat) (L : List Inn) (r : Int) (w : World) (hA : LL w A L) (hn : L.length ≤ 9223372036854775807) (hC : CosOk w) (hk : Kn) (hf : Hid (fewR (vsOf L) 30 = false)) :
    Calls Tryd.prog 16 #[.slice A L.length c, .int .i64 r] w (RetB true w) := by
  go_enter Tryd.func16, Tryd.ntmps16
  go_wp2_with fail
  refine (few_any A c 30 L w hA (by omega) (by omega) false hf).mono ?_
  rintro e w' ⟨rfl, rfl⟩
  go_wp2_with fail
  refine (hk _ hC).mono ?_
  rintro e w99 ⟨rfl, hb⟩
  go_wp2_with fail
  go_ret
  exact ⟨rfl, hb⟩
set_option maxRecDepth 100000 in
set_option maxHeartbeats 4000000 in
theorem FeatureSeeds_bad (A : Option Addr) (c : Nat) (L : List Inn) (r : Int) (w : World) (hA : LL w A L) (hn : L.length ≤ 9223372036854775807) (hC : CosOk w) (hk : Kn) (hf : Hid (fewR (vsOf L) 30 = true)) (e0 : Int) (hr : Hid (vecR (vsOf L) = e0)) (h0 : e0 ≠ 0) (ho : Hid (seeR (vsOf L) r = (e0, []))) :
    Calls Tryd.prog 16 #[.slice A L.length c, .int .i64 r] w (RetB true w) := by
  have q0 : (e0 == 0) = false := by simpa using h0
  have q1 : (e0 != 0) = true := by simpa using h0
  go_enter Tryd.func16, Tryd.ntmps16
  go_wp2_with fail
  refine (few_any A c 30 L w hA (by omega) (by omega) true hf).mono ?_
  rintro e w' ⟨rfl, rfl⟩
  go_wp2_with fail
  refine (Seeds_any A c L r w hA hn e0 [] ho).mono ?_
  rintro e w1 ⟨PA1, Pc1, PO1, rfl, hv1, -, hb⟩
  have LA1 : Hid (LL w1 A L) := Lib.hid (hA.below hb)
  have B1 : Hid (Below w.heap.size w w1) := Lib.hid (hb)
  clear hb 
  have HZ1 : Hid (PO1.length = 0) := Lib.hid (by have := congrArg List.length hv1.out; simpa using this)
  clear hv1
  go_wp2_with fail
  refine (r3Wrong_any A c L w1 LA1.out hn e0 hr).mono ?_
  rintro e w2 ⟨rfl, n2, hb⟩
  have LA2 : Hid (LL w2 A L) := Lib.hid (by rw [hb]; exact LA1.out.below (below_drewN' _ _))
  have B2 : Hid (Below w.heap.size w w2) := Lib.hid (by rw [hb]; exact B1.out.trans (below_drewN' _ _))
  clear hb LA1 B1
  have hz1 := HZ1.out
  clear HZ1
  generalize PO1.length = n1 at *
  subst hz1
  go_wp2_with fail
  refine (hk _ (hC.below B2.out)).mono ?_
  rintro e w99 ⟨rfl, hb⟩
  go_wp2_with fail
  go_ret
  exact ⟨rfl, B2.out.trans (hb.mono B2.out.size)⟩
set_option maxRecDepth 100000 in
set_option maxHeartbeats 4000000 in
theorem FeatureSeeds_bada (A : Option Addr) (c : Nat) (L : List Inn) (r : Int) (w : World) (hA : LL w A L) (hn : L.length ≤ 9223372036854775807) (hC : CosOk w) (hk : Kn) (hf : Hid (fewR (vsOf L) 30 = true)) (hr : Hid (vecR (vsOf L) = 0)) (h1 : r < 1) (ho : Hid (seeR (vsOf L) r = (2, []))) :
    Calls Tryd.prog 16 #[.slice A L.length c, .int .i64 r] w (RetB true w) := by
  go_enter Tryd.func16, Tryd.ntmps16
  go_wp2_with fail
  refine (few_any A c 30 L w hA (by omega) (by omega) true hf).mono ?_
  rintro e w' ⟨rfl, rfl⟩
  go_wp2_with fail
  refine (Seeds_any A c L r w hA hn 2 [] ho).mono ?_
  rintro e w1 ⟨PA1, Pc1, PO1, rfl, hv1, -, hb⟩
  have LA1 : Hid (LL w1 A L) := Lib.hid (hA.below hb)
  have B1 : Hid (Below w.heap.size w w1) := Lib.hid (hb)
  clear hb 
  have HZ1 : Hid (PO1.length = 0) := Lib.hid (by have := congrArg List.length hv1.out; simpa using this)
  clear hv1
  go_wp2_with fail
  refine (r3Wrong_any A c L w1 LA1.out hn 0 hr).mono ?_
  rintro e w2 ⟨rfl, n2, hb⟩
  have LA2 : Hid (LL w2 A L) := Lib.hid (by rw [hb]; exact LA1.out.below (below_drewN' _ _))
  have B2 : Hid (Below w.heap.size w w2) := Lib.hid (by rw [hb]; exact B1.out.trans (below_drewN' _ _))
  clear hb LA1 B1
  have hz1 := HZ1.out
  clear HZ1
  generalize PO1.length = n1 at *
  subst hz1
  go_wp2_with fail
  refine (hk _ (hC.below B2.out)).mono ?_
  rintro e w99 ⟨rfl, hb⟩
  go_wp2_with fail
  go_ret
  exact ⟨rfl, B2.out.trans (hb.mono B2.out.size)⟩
set_option maxRecDepth 100000 in
set_option maxHeartbeats 4000000 in
theorem FeatureSeeds_badb (A : Option Addr) (c : Nat) (L : List Inn) (r : Int) (w : World) (hA : LL w A L) (hn : L.length ≤ 9223372036854775807) (hC : CosOk w) (hk : Kn) (hf : Hid (fewR (vsOf L) 30 = true)) (hr : Hid (vecR (vsOf L) = 0)) (h1 : 256 < r) (ho : Hid (seeR (vsOf L) r = (2, []))) :
    Calls Tryd.prog 16 #[.slice A L.length c, .int .i64 r] w (RetB true w) := by
  go_enter Tryd.func16, Tryd.ntmps16
  go_wp2_with fail
  refine (few_any A c 30 L w hA (by omega) (by omega) true hf).mono ?_
  rintro e w' ⟨rfl, rfl⟩
  go_wp2_with fail
  refine (Seeds_any A c L r w hA hn 2 [] ho).mono ?_
  rintro e w1 ⟨PA1, Pc1, PO1, rfl, hv1, -, hb⟩
  have LA1 : Hid (LL w1 A L) := Lib.hid (hA.below hb)
  have B1 : Hid (Below w.heap.size w w1) := Lib.hid (hb)
  clear hb 
  have HZ1 : Hid (PO1.length = 0) := Lib.hid (by have := congrArg List.length hv1.out; simpa using this)
  clear hv1
  go_wp2_with fail
  refine (r3Wrong_any A c L w1 LA1.out hn 0 hr).mono ?_
  rintro e w2 ⟨rfl, n2, hb⟩
  have LA2 : Hid (LL w2 A L) := Lib.hid (by rw [hb]; exact LA1.out.below (below_drewN' _ _))
  have B2 : Hid (Below w.heap.size w w2) := Lib.hid (by rw [hb]; exact B1.out.trans (below_drewN' _ _))
  clear hb LA1 B1
  have hz1 := HZ1.out
  clear HZ1
  generalize PO1.length = n1 at *
  subst hz1
  go_wp2_with fail
  refine (hk _ (hC.below B2.out)).mono ?_
  rintro e w99 ⟨rfl, hb⟩
  go_wp2_with fail
  go_ret
  exact ⟨rfl, B2.out.trans (hb.mono B2.out.size)⟩
set_option maxRecDepth 100000 in
set_option maxHeartbeats 4000000 in
theorem FeatureSeeds_badc (A : Option Addr) (c : Nat) (L : List Inn) (r : Int) (w : World) (hA : LL w A L) (hn : L.length ≤ 9223372036854775807) (hC : CosOk w) (hk : Kn) (hf : Hid (fewR (vsOf L) 30 = true)) (hr : Hid (vecR (vsOf L) = 0)) (h1 : 1 ≤ r) (h2 : r ≤ 256) (h3 : L.length = 0) (ho : Hid (seeR (vsOf L) r = (2, []))) :
    Calls Tryd.prog 16 #[.slice A L.length c, .int .i64 r] w (RetB true w) := by
  have HZ := Lib.hid h3
  clear h3
  go_enter Tryd.func16, Tryd.ntmps16
  go_wp2_with fail
  refine (few_any A c 30 L w hA (by omega) (by omega) true hf).mono ?_
  rintro e w' ⟨rfl, rfl⟩
  go_wp2_with fail
  refine (Seeds_any A c L r w hA hn 2 [] ho).mono ?_
  rintro e w1 ⟨PA1, Pc1, PO1, rfl, hv1, -, hb⟩
  have LA1 : Hid (LL w1 A L) := Lib.hid (hA.below hb)
  have B1 : Hid (Below w.heap.size w w1) := Lib.hid (hb)
  clear hb 
  have HZ1 : Hid (PO1.length = 0) := Lib.hid (by have := congrArg List.length hv1.out; simpa using this)
  clear hv1
  go_wp2_with fail
  refine (r3Wrong_any A c L w1 LA1.out hn 0 hr).mono ?_
  rintro e w2 ⟨rfl, n2, hb⟩
  have LA2 : Hid (LL w2 A L) := Lib.hid (by rw [hb]; exact LA1.out.below (below_drewN' _ _))
  have B2 : Hid (Below w.heap.size w w2) := Lib.hid (by rw [hb]; exact B1.out.trans (below_drewN' _ _))
  clear hb LA1 B1
  have hz1 := HZ1.out
  clear HZ1
  generalize PO1.length = n1 at *
  subst hz1
  have hz := HZ.out
  clear HZ
  generalize L.length = ll at *
  subst hz
  go_wp2_with fail
  refine (hk _ (hC.below B2.out)).mono ?_
  rintro e w99 ⟨rfl, hb⟩
  go_wp2_with fail
  go_ret
  exact ⟨rfl, B2.out.trans (hb.mono B2.out.size)⟩
set_option maxRecDepth 100000 in
set_option maxHeartbeats 4000000 in
theorem FeatureSeeds_full (A : Option Addr) (c : Nat) (L : List Inn) (r : Int) (w : World) (hA : LL w A L) (hn : L.length ≤ 10000) (hC : CosOk w) (hk : Kn) (hf : Hid (fewR (vsOf L) 30 = true)) (hr : Hid (vecR (vsOf L) = 0)) (hpos : 0 < L.length) (h1 : 1 ≤ r) (h2 : r ≤ 256) (ho : Hid (seeR (vsOf L) r = (0, sdL (vsOf L) (r.toNat - 1) [(vsOf L)[0]?.getD []]))) (HFU : Hid ((sdL (vsOf L) (r.toNat - 1) [(vsOf L)[0]?.getD []]).length = r.toNat)) :
    Calls Tryd.prog 16 #[.slice A L.length c, .int .i64 r] w (RetB true w) := by
  have HVL : Hid ((vsOf L).length = L.length) := Lib.hid (by simp)
  have HV := Lib.hid (vecR_ok.1 hr.out).2
  have q5 : ((L.length : Int) == 0) = false := by rw [beq_eq_false_iff_ne]; omega
  have q6 : ¬ L = [] := fun e => by rw [e] at hpos; simp at hpos
  have HSA : Hid (Sd (vsOf L) (sdL (vsOf L) (r.toNat - 1) [(vsOf L)[0]?.getD []])) := Lib.hid (Sd.all _ _ (Sd.one (by rw [HVL.out]; exact hpos)))
  have HLE : Hid ((sdL (vsOf L) (r.toNat - 1) [(vsOf L)[0]?.getD []]).length ≤ 256) := Lib.hid (by have := sdL_len (vs := vsOf L) (r.toNat - 1) [(vsOf L)[0]?.getD []]; rw [List.length_singleton] at this; omega)
  have HFT : Hid (fitR (vsOf L) (sdL (vsOf L) (r.toNat - 1) [(vsOf L)[0]?.getD []]) = 0) := Lib.hid (fit_r (HSA.out.fit HV.out HLE.out) (by rw [HVL.out]; exact hn))
  go_enter Tryd.func16, Tryd.ntmps16
  go_wp2_with fail
  refine (few_any A c 30 L w hA (by omega) (by omega) true hf).mono ?_
  rintro e w' ⟨rfl, rfl⟩
  go_wp2_with fail
  refine (Seeds_any A c L r w hA (by omega) 0 (sdL (vsOf L) (r.toNat - 1) [(vsOf L)[0]?.getD []]) ho).mono ?_
  rintro e w1 ⟨PA1, Pc1, PO1, rfl, hv1, hl, hb⟩
  have LA1 : Hid (LL w1 A L) := Lib.hid (hA.below hb)
  have B1 : Hid (Below w.heap.size w w1) := Lib.hid (hb)
  clear hb 
  have O1 : Hid (LL w1 PA1 PO1) := Lib.hid hl.ll
  clear hl
  have HN1 : Hid (PO1.length ≤ 256) := Lib.hid (by have := congrArg List.length hv1.out; have h8 := HLE.out; rw [List.length_map] at this; omega)
  go_wp2_with fail
  refine (r3Wrong_any A c L w1 LA1.out (by omega) 0 hr).mono ?_
  rintro e w2 ⟨rfl, n2, hb⟩
  have LA2 : Hid (LL w2 A L) := Lib.hid (by rw [hb]; exact LA1.out.below (below_drewN' _ _))
  have S2 : Hid (LL w2 PA1 PO1) := Lib.hid (by rw [hb]; exact O1.out.below (below_drewN' _ _))
  have B2 : Hid (Below w.heap.size w w2) := Lib.hid (by rw [hb]; exact B1.out.trans (below_drewN' _ _))
  clear hb LA1 O1 B1
  go_wp2_with fail
  refine (rSeeds_any A c L r w2 LA2.out hr hpos h1 h2).mono ?_
  rintro e w3 ⟨PA3, Pc3, PO3, rfl, hv3, hl, hb⟩
  have LA3 : Hid (LL w3 A L) := Lib.hid (LA2.out.below hb)
  have S3 : Hid (LL w3 PA1 PO1) := Lib.hid (S2.out.below hb)
  have B3 : Hid (Below w.heap.size w w3) := Lib.hid (B2.out.trans (hb.mono B2.out.size))
  clear hb LA2 S2 B2
  have O3 : Hid (LL w3 PA3 PO3) := Lib.hid hl.ll
  clear hl
  go_wp2_with fail
  refine (sames_b PA1 PA3 Pc1 Pc3 PO1 PO3 w3 S3.out O3.out (by have := HN1.out; omega) true (Lib.hid (decide_eq_true (by rw [hv1.out, hv3.out])))).mono ?_
  rintro e w4 ⟨rfl, hb⟩
  have LA4 : Hid (LL w4 A L) := Lib.hid (LA3.out.below hb)
  have S4 : Hid (LL w4 PA1 PO1) := Lib.hid (S3.out.below hb)
  have U4 : Hid (LL w4 PA3 PO3) := Lib.hid (O3.out.below hb)
  have B4 : Hid (Below w.heap.size w w4) := Lib.hid (B3.out.trans (hb.mono B3.out.size))
  clear hb LA3 S3 O3 B3
  have HSD : Hid (Sd (vsOf L) (vsOf PO1)) := Lib.hid (by rw [hv1.out]; exact HSA.out)
  have HIN : Hid (∀ k, k < PO1.length → ((vsOf PO1)[k]?.getD []).length ≤ 64) := Lib.hid (fun k hk9 => by
    have hm := HSD.out.mem ((vsOf PO1)[k]?.getD []) (by rw [List.getElem?_eq_getElem (by simpa using hk9)]; exact List.getElem_mem _)
    exact (vecOk_mem HV.out hm).2.2.1)
  have hn1 := HN1.out
  go_wp2_with fail
  go_loopw [8, 9] (fun i _ wr => ∃ k : Nat, k ≤ PO1.length ∧ i = .int .i64 k ∧ ∃ n, wr = w4.drewN n) (fun i _ _ => PO1.length - (intOf i).toNat)
  case atStart => exact ⟨0, by omega, rfl, 0, rfl⟩
  case round =>
    obtain ⟨k, hk9, rfl, n, hwd⟩ := hrel
    have SR : Hid (LL wr PA1 PO1) := Lib.hid (by rw [hwd]; exact S4.out.below (below_drewN' _ _))
    obtain ⟨W0, rfl⟩ : ∃ x, x = wr := ⟨_, rfl⟩
    have WD := Lib.hid hwd
    clear hwd
    by_cases hlt : k < PO1.length
    · go_wp2_with fail
      go_loopw [9] (fun i wr => ∃ m : Nat, m ≤ k ∧ i = .int .i64 m ∧ ∃ n, wr = W0.drewN n) (fun i _ => k - (intOf i).toNat)
      case atStart => exact ⟨0, by omega, rfl, 0, rfl⟩
      case round =>
        obtain ⟨m, hm9, rfl, n2, hwd2⟩ := hrel
        have SQ : LL wr PA1 PO1 := by rw [hwd2]; exact SR.out.below (below_drewN' _ _)
        have WD2 := Lib.hid hwd2
        clear hwd2
        by_cases hlm : m < k
        · have hlq : m < PO1.length := by omega
          obtain ⟨b1, o1, rfl, hb1, hc1⟩ := SQ.lies.lat hlt
          obtain ⟨b2, o2, eA, hb2, hc2⟩ := SQ.lies.lat hlq
          cases eA
          have hx1 := SQ.inn _ (List.getElem_mem hlt)
          have hx2 := SQ.inn _ (List.getElem_mem hlq)
          have hdf := HSD.out.dif k m hlm (by simpa using hlt)
          have hl1 := HIN.out k hlt
          have hl2 := HIN.out m hlq
          rw [vsOf_get hlt] at hl1 hdf
          rw [vsOf_get hlq] at hl2 hdf
          generalize PO1[k] = X at *
          generalize PO1[m] = Y at *
          obtain ⟨XA, Xc, xl⟩ := X
          obtain ⟨YA, Yc, yl⟩ := Y
          simp only at *
          have HX1 := Lib.hid hx1
          have HX2 := Lib.hid hx2
          have HDF := Lib.hid hdf
          clear hx1 hx2 hdf SQ
          have HQ := Lib.hid (fun m : Nat => Same_any XA YA Xc Yc xl yl (wr.drewN m) (HX1.out.1.drewN m) (HX2.out.1.drewN m) (by omega) (by omega) false (Lib.hid (decide_eq_false HDF.out)))
          go_wp2_with fail
          go_quiet ((go_at_call 24; exact Calls.quiet_of (HQ.out _)))
          go_wp2_with fail
          exact ⟨⟨m + 1, by omega, by go_num, by rw [WD2.out]; exact drewN_ex _ _ _⟩, by simp [intOf]; omega⟩
        · obtain rfl : m = k := by omega
          clear SQ
          go_wp2_with fail
          exact ⟨⟨m + 1, by omega, by go_num, by rw [WD2.out, WD.out, World.drewN_drewN]; exact ⟨_, rfl⟩⟩, by simp [intOf]; omega⟩
    · obtain rfl : k = PO1.length := by omega
      have BW : Hid (Below w.heap.size w W0) := Lib.hid (by rw [WD.out]; exact B4.out.trans (below_drewN' _ _))
      have LW : Hid (LL W0 A L) := Lib.hid (by rw [WD.out]; exact LA4.out.below (below_drewN' _ _))
      have hq := HFU.out
      rw [← hv1.out] at hq
      have hq2 : (PO1.length : Int) = r := by rw [List.length_map] at hq; omega
      clear hq
      have q7 : ((PO1.length : Int) == r) = true := by simpa using hq2
      clear hq2
      go_wp2_with fail
      refine (hk _ (hC.below BW.out)).mono ?_
      rintro e w99 ⟨rfl, hb⟩
      go_wp2_with fail
      go_ret
      exact ⟨rfl, BW.out.trans (hb.mono BW.out.size)⟩
set_option maxRecDepth 100000 in
set_option maxHeartbeats 4000000 in
theorem FeatureSeeds_less (A : Option Addr) (c : Nat) (L : List Inn) (r : Int) (w : World) (hA : LL w A L) (hn : L.length ≤ 10000) (hC : CosOk w) (hk : Kn) (hf : Hid (fewR (vsOf L) 30 = true)) (hr : Hid (vecR (vsOf L) = 0)) (hpos : 0 < L.length) (h1 : 1 ≤ r) (h2 : r ≤ 256) (ho : Hid (seeR (vsOf L) r = (0, sdL (vsOf L) (r.toNat - 1) [(vsOf L)[0]?.getD []]))) (HFU : Hid ((sdL (vsOf L) (r.toNat - 1) [(vsOf L)[0]?.getD []]).length ≠ r.toNat)) :
    Calls Tryd.prog 16 #[.slice A L.length c, .int .i64 r] w (RetB true w) := by
  have HVL : Hid ((vsOf L).length = L.length) := Lib.hid (by simp)
  have HV := Lib.hid (vecR_ok.1 hr.out).2
  have q5 : ((L.length : Int) == 0) = false := by rw [beq_eq_false_iff_ne]; omega
  have q6 : ¬ L = [] := fun e => by rw [e] at hpos; simp at hpos
  have HSA : Hid (Sd (vsOf L) (sdL (vsOf L) (r.toNat - 1) [(vsOf L)[0]?.getD []])) := Lib.hid (Sd.all _ _ (Sd.one (by rw [HVL.out]; exact hpos)))
  have HLE : Hid ((sdL (vsOf L) (r.toNat - 1) [(vsOf L)[0]?.getD []]).length ≤ 256) := Lib.hid (by have := sdL_len (vs := vsOf L) (r.toNat - 1) [(vsOf L)[0]?.getD []]; rw [List.length_singleton] at this; omega)
  have HFT : Hid (fitR (vsOf L) (sdL (vsOf L) (r.toNat - 1) [(vsOf L)[0]?.getD []]) = 0) := Lib.hid (fit_r (HSA.out.fit HV.out HLE.out) (by rw [HVL.out]; exact hn))
  have HCZ : Hid (costL (vsOf L) (sdL (vsOf L) (r.toNat - 1) [(vsOf L)[0]?.getD []]) = 0) := Lib.hid (cost_zero (sdL_end _ _ (by have := HFU.out; rw [List.length_singleton]; omega)))
  go_enter Tryd.func16, Tryd.ntmps16
  go_wp2_with fail
  refine (few_any A c 30 L w hA (by omega) (by omega) true hf).mono ?_
  rintro e w' ⟨rfl, rfl⟩
  go_wp2_with fail
  refine (Seeds_any A c L r w hA (by omega) 0 (sdL (vsOf L) (r.toNat - 1) [(vsOf L)[0]?.getD []]) ho).mono ?_
  rintro e w1 ⟨PA1, Pc1, PO1, rfl, hv1, hl, hb⟩
  have LA1 : Hid (LL w1 A L) := Lib.hid (hA.below hb)
  have B1 : Hid (Below w.heap.size w w1) := Lib.hid (hb)
  clear hb 
  have O1 : Hid (LL w1 PA1 PO1) := Lib.hid hl.ll
  clear hl
  have HN1 : Hid (PO1.length ≤ 256) := Lib.hid (by have := congrArg List.length hv1.out; have h8 := HLE.out; rw [List.length_map] at this; omega)
  go_wp2_with fail
  refine (r3Wrong_any A c L w1 LA1.out (by omega) 0 hr).mono ?_
  rintro e w2 ⟨rfl, n2, hb⟩
  have LA2 : Hid (LL w2 A L) := Lib.hid (by rw [hb]; exact LA1.out.below (below_drewN' _ _))
  have S2 : Hid (LL w2 PA1 PO1) := Lib.hid (by rw [hb]; exact O1.out.below (below_drewN' _ _))
  have B2 : Hid (Below w.heap.size w w2) := Lib.hid (by rw [hb]; exact B1.out.trans (below_drewN' _ _))
  clear hb LA1 O1 B1
  go_wp2_with fail
  refine (rSeeds_any A c L r w2 LA2.out hr hpos h1 h2).mono ?_
  rintro e w3 ⟨PA3, Pc3, PO3, rfl, hv3, hl, hb⟩
  have LA3 : Hid (LL w3 A L) := Lib.hid (LA2.out.below hb)
  have S3 : Hid (LL w3 PA1 PO1) := Lib.hid (S2.out.below hb)
  have B3 : Hid (Below w.heap.size w w3) := Lib.hid (B2.out.trans (hb.mono B2.out.size))
  clear hb LA2 S2 B2
  have O3 : Hid (LL w3 PA3 PO3) := Lib.hid hl.ll
  clear hl
  go_wp2_with fail
  refine (sames_b PA1 PA3 Pc1 Pc3 PO1 PO3 w3 S3.out O3.out (by have := HN1.out; omega) true (Lib.hid (decide_eq_true (by rw [hv1.out, hv3.out])))).mono ?_
  rintro e w4 ⟨rfl, hb⟩
  have LA4 : Hid (LL w4 A L) := Lib.hid (LA3.out.below hb)
  have S4 : Hid (LL w4 PA1 PO1) := Lib.hid (S3.out.below hb)
  have U4 : Hid (LL w4 PA3 PO3) := Lib.hid (O3.out.below hb)
  have B4 : Hid (Below w.heap.size w w4) := Lib.hid (B3.out.trans (hb.mono B3.out.size))
  clear hb LA3 S3 O3 B3
  have HSD : Hid (Sd (vsOf L) (vsOf PO1)) := Lib.hid (by rw [hv1.out]; exact HSA.out)
  have HIN : Hid (∀ k, k < PO1.length → ((vsOf PO1)[k]?.getD []).length ≤ 64) := Lib.hid (fun k hk9 => by
    have hm := HSD.out.mem ((vsOf PO1)[k]?.getD []) (by rw [List.getElem?_eq_getElem (by simpa using hk9)]; exact List.getElem_mem _)
    exact (vecOk_mem HV.out hm).2.2.1)
  have hn1 := HN1.out
  go_wp2_with fail
  go_loopw [8, 9] (fun i _ wr => ∃ k : Nat, k ≤ PO1.length ∧ i = .int .i64 k ∧ ∃ n, wr = w4.drewN n) (fun i _ _ => PO1.length - (intOf i).toNat)
  case atStart => exact ⟨0, by omega, rfl, 0, rfl⟩
  case round =>
    obtain ⟨k, hk9, rfl, n, hwd⟩ := hrel
    have SR : Hid (LL wr PA1 PO1) := Lib.hid (by rw [hwd]; exact S4.out.below (below_drewN' _ _))
    obtain ⟨W0, rfl⟩ : ∃ x, x = wr := ⟨_, rfl⟩
    have WD := Lib.hid hwd
    clear hwd
    by_cases hlt : k < PO1.length
    · go_wp2_with fail
      go_loopw [9] (fun i wr => ∃ m : Nat, m ≤ k ∧ i = .int .i64 m ∧ ∃ n, wr = W0.drewN n) (fun i _ => k - (intOf i).toNat)
      case atStart => exact ⟨0, by omega, rfl, 0, rfl⟩
      case round =>
        obtain ⟨m, hm9, rfl, n2, hwd2⟩ := hrel
        have SQ : LL wr PA1 PO1 := by rw [hwd2]; exact SR.out.below (below_drewN' _ _)
        have WD2 := Lib.hid hwd2
        clear hwd2
        by_cases hlm : m < k
        · have hlq : m < PO1.length := by omega
          obtain ⟨b1, o1, rfl, hb1, hc1⟩ := SQ.lies.lat hlt
          obtain ⟨b2, o2, eA, hb2, hc2⟩ := SQ.lies.lat hlq
          cases eA
          have hx1 := SQ.inn _ (List.getElem_mem hlt)
          have hx2 := SQ.inn _ (List.getElem_mem hlq)
          have hdf := HSD.out.dif k m hlm (by simpa using hlt)
          have hl1 := HIN.out k hlt
          have hl2 := HIN.out m hlq
          rw [vsOf_get hlt] at hl1 hdf
          rw [vsOf_get hlq] at hl2 hdf
          generalize PO1[k] = X at *
          generalize PO1[m] = Y at *
          obtain ⟨XA, Xc, xl⟩ := X
          obtain ⟨YA, Yc, yl⟩ := Y
          simp only at *
          have HX1 := Lib.hid hx1
          have HX2 := Lib.hid hx2
          have HDF := Lib.hid hdf
          clear hx1 hx2 hdf SQ
          have HQ := Lib.hid (fun m : Nat => Same_any XA YA Xc Yc xl yl (wr.drewN m) (HX1.out.1.drewN m) (HX2.out.1.drewN m) (by omega) (by omega) false (Lib.hid (decide_eq_false HDF.out)))
          go_wp2_with fail
          go_quiet ((go_at_call 24; exact Calls.quiet_of (HQ.out _)))
          go_wp2_with fail
          exact ⟨⟨m + 1, by omega, by go_num, by rw [WD2.out]; exact drewN_ex _ _ _⟩, by simp [intOf]; omega⟩
        · obtain rfl : m = k := by omega
          clear SQ
          go_wp2_with fail
          exact ⟨⟨m + 1, by omega, by go_num, by rw [WD2.out, WD.out, World.drewN_drewN]; exact ⟨_, rfl⟩⟩, by simp [intOf]; omega⟩
    · obtain rfl : k = PO1.length := by omega
      have BW : Hid (Below w.heap.size w W0) := Lib.hid (by rw [WD.out]; exact B4.out.trans (below_drewN' _ _))
      have LW : Hid (LL W0 A L) := Lib.hid (by rw [WD.out]; exact LA4.out.below (below_drewN' _ _))
      have hq := HFU.out
      rw [← hv1.out] at hq
      have hq2 : (PO1.length : Int) ≠ r := by rw [List.length_map] at hq; omega
      clear hq
      have q7 : ((PO1.length : Int) == r) = false := by simpa using hq2
      clear hq2
      go_wp2_with fail
      refine (Cost_any A PA1 c Pc1 L PO1 W0 LW.out SR.out 0 0 (Lib.hid (by rw [hv1.out, costR, if_pos HFT.out, HCZ.out]))).mono ?_
      rintro e w5 ⟨rfl, hb⟩
      have LA5 : Hid (LL w5 A L) := Lib.hid (LW.out.below hb)
      have S5 : Hid (LL w5 PA1 PO1) := Lib.hid (SR.out.below hb)
      have B5 : Hid (Below w.heap.size w w5) := Lib.hid (BW.out.trans (hb.mono BW.out.size))
      clear hb LW SR BW
      go_wp2_with fail
      refine (hk _ (hC.below B5.out)).mono ?_
      rintro e w99 ⟨rfl, hb⟩
      go_wp2_with fail
      go_ret
      exact ⟨rfl, B5.out.trans (hb.mono B5.out.size)⟩
theorem FeatureSeeds_any (A : Option Addr) (c : Nat) (L : List Inn) (r : Int) (w : World) (hL : Lies w A (lcs L)) (hi : ∀ x ∈ L, InOk w x) (hn : L.length ≤ 9223372036854775807) (hC : CosOk w) (hk : Kn) :
    Calls Tryd.prog 16 #[.slice A L.length c, .int .i64 r] w (RetB true w) := by
  have hA : LL w A L := ⟨hL, hi⟩
  have hvl : (vsOf L).length = L.length := by simp
  cases hf : fewR (vsOf L) 30 with
  | false => exact FeatureSeeds_o1 A c L r w hA hn hC hk (Lib.hid hf)
  | true =>
    by_cases h0 : vecR (vsOf L) = 0
    · have hl := (vecR_ok.1 h0).1
      by_cases h1 : r < 1
      · exact FeatureSeeds_bada A c L r w hA hn hC hk (Lib.hid hf) (Lib.hid h0) h1 (Lib.hid (by rw [seeR, if_pos h0, if_pos (.inr (.inl h1))]))
      · by_cases h2 : 256 < r
        · exact FeatureSeeds_badb A c L r w hA hn hC hk (Lib.hid hf) (Lib.hid h0) h2 (Lib.hid (by rw [seeR, if_pos h0, if_pos (.inr (.inr h2))]))
        · by_cases h3 : L.length = 0
          · exact FeatureSeeds_badc A c L r w hA hn hC hk (Lib.hid hf) (Lib.hid h0) (by omega) (by omega) h3 (Lib.hid (by rw [seeR, if_pos h0, if_pos (.inl (List.length_eq_zero_iff.1 (hvl.trans h3)))]))
          · have hne : vsOf L ≠ [] := fun e => h3 (by rw [← hvl, e]; rfl)
            have ho : seeR (vsOf L) r = (0, sdL (vsOf L) (r.toNat - 1) [(vsOf L)[0]?.getD []]) := by rw [seeR, if_pos h0, if_neg (fun h => h.elim hne (fun h => h.elim h1 h2))]
            by_cases hu : (sdL (vsOf L) (r.toNat - 1) [(vsOf L)[0]?.getD []]).length = r.toNat
            · exact FeatureSeeds_full A c L r w hA (by omega) hC hk (Lib.hid hf) (Lib.hid h0) (by omega) (by omega) (by omega) (Lib.hid ho) (Lib.hid hu)
            · exact FeatureSeeds_less A c L r w hA (by omega) hC hk (Lib.hid hf) (Lib.hid h0) (by omega) (by omega) (by omega) (Lib.hid ho) (Lib.hid hu)
    · exact FeatureSeeds_bad A c L r w hA hn hC hk (Lib.hid hf) _ (Lib.hid rfl) h0 (Lib.hid (by rw [seeR, if_neg h0]))
end Go.Proofs.YtfapmghhmkekaaaDoor
