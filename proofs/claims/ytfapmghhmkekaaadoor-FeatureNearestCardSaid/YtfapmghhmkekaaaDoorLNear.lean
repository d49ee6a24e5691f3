/- FeatureNearest: the walk -/
import Derived.Test.YtfapmghhmkekaaaDoorLQua
import Derived.Test.YtfapmghhmkekaaaDoorQNear
namespace Go.Proofs.YtfapmghhmkekaaaDoor
open Go.RowKit Ear
set_option linter.unusedVariables false

theorem rVectors_two (g : Nat) (A B : Option Addr) (c d : Nat) (v u : List Int) (w : World) (h : LL w (some ⟨g, 0, none⟩) [(A, c, v), (B, d, u)]) (r : Bool) (hr : Hid (vecOk [v, u] = r)) :
    Calls Tryd.prog 47 #[.slice (some ⟨g, 0, none⟩) 2 2] w (RetBool r w) := rVectors_any _ 2 [(A, c, v), (B, d, u)] w h (by simp) r hr
theorem rVectors_one (g : Nat) (A : Option Addr) (c : Nat) (v : List Int) (w : World) (h : LL w (some ⟨g, 0, none⟩) [(A, c, v)]) (r : Bool) (hr : Hid (vecOk [v] = r)) :
    Calls Tryd.prog 47 #[.slice (some ⟨g, 0, none⟩) 1 1] w (RetBool r w) := rVectors_any _ 1 [(A, c, v)] w h (by simp) r hr
theorem vec_two_iff {v u : List Int} : vecR [v, u] = 0 ↔ vecOk [v, u] = true := by
  rw [vecR_ok]; simp
theorem dis_ok {v u : List Int} (h : vecOk [v, u] = true) : disR v u = (0, dst v u) := by rw [disR, if_pos (vec_two_iff.2 h)]
theorem dis_bad {v u : List Int} (h : vecOk [v, u] = false) : disR v u = (2, 0) := by rw [disR, if_neg (fun e => by rw [vec_two_iff.1 e] at h; cases h)]
theorem nea_bad {v : List Int} {bs : List (List Int)} (hl : bs.length ≤ 300) (h : vecOk [v] = false ∨ bookOk bs = false ∨ v.length ≠ len0 bs) : neaR v bs = (2, 0, 0) := by
  have h1 : fitR [v] bs = 2 := by
    unfold fitR
    rw [if_neg (by simp; omega), if_neg]
    rintro ⟨h2, h3, h4⟩
    rcases h with h | h | h
    · rw [h2] at h; cases h
    · rw [h3] at h; cases h
    · rcases h4 with h4 | h4
      · cases h4
      · exact h h4
  rw [neaR, h1, if_neg (by decide)]
theorem fit_one {v : List Int} {bs : List (List Int)} (h1 : vecOk [v] = true) (h2 : bookOk bs = true) (h3 : v.length = len0 bs) : fitR [v] bs = 0 := fitR_ok.2 ⟨by simp, h1, h2, .inr h3⟩
set_option maxRecDepth 100000 in
set_option maxHeartbeats 4000000 in
theorem FeatureNearest_o1 (A B C : Option Addr) (c d c3 : Nat) (v u : List Int) (M : List Inn) (w : World) (hA : InOk w (A, c, v)) (hB : InOk w (B, d, u)) (hM : LL w C M) (hm : M.length ≤ 9223372036854775807) (hC : CosOk w) (hk : Kn) (h1 : 70 < v.length) :
    Calls Tryd.prog 15 #[.slice A v.length c, .slice B u.length d, .slice C M.length c3] w (RetB true w) := by
  go_enter Tryd.func15, Tryd.ntmps15
  go_wp2_with fail
  refine (hk _ hC).mono ?_
  rintro e w99 ⟨rfl, hb⟩
  go_wp2_with fail
  go_ret
  exact ⟨rfl, hb⟩
set_option maxRecDepth 100000 in
set_option maxHeartbeats 4000000 in
theorem FeatureNearest_o2 (A B C : Option Addr) (c d c3 : Nat) (v u : List Int) (M : List Inn) (w : World) (hA : InOk w (A, c, v)) (hB : InOk w (B, d, u)) (hM : LL w C M) (hm : M.length ≤ 9223372036854775807) (hC : CosOk w) (hk : Kn) (h1 : v.length ≤ 70) (h2 : 70 < u.length) :
    Calls Tryd.prog 15 #[.slice A v.length c, .slice B u.length d, .slice C M.length c3] w (RetB true w) := by
  go_enter Tryd.func15, Tryd.ntmps15
  go_wp2_with fail
  refine (hk _ hC).mono ?_
  rintro e w99 ⟨rfl, hb⟩
  go_wp2_with fail
  go_ret
  exact ⟨rfl, hb⟩
set_option maxRecDepth 100000 in
set_option maxHeartbeats 4000000 in
theorem FeatureNearest_o3 (A B C : Option Addr) (c d c3 : Nat) (v u : List Int) (M : List Inn) (w : World) (hA : InOk w (A, c, v)) (hB : InOk w (B, d, u)) (hM : LL w C M) (hm : M.length ≤ 9223372036854775807) (hC : CosOk w) (hk : Kn) (h1 : v.length ≤ 70) (h2 : u.length ≤ 70) (hf : Hid (fewR (vsOf M) 40 = false)) (h3 : M.length ≤ 300) :
    Calls Tryd.prog 15 #[.slice A v.length c, .slice B u.length d, .slice C M.length c3] w (RetB true w) := by
  go_enter Tryd.func15, Tryd.ntmps15
  go_wp2_with fail
  refine (few_any C c3 40 M w hM hm (by omega) false hf).mono ?_
  rintro e w' ⟨rfl, rfl⟩
  go_wp2_with fail
  refine (hk _ hC).mono ?_
  rintro e w99 ⟨rfl, hb⟩
  go_wp2_with fail
  go_ret
  exact ⟨rfl, hb⟩
set_option maxRecDepth 100000 in
set_option maxHeartbeats 4000000 in
theorem FeatureNearest_o4 (A B C : Option Addr) (c d c3 : Nat) (v u : List Int) (M : List Inn) (w : World) (hA : InOk w (A, c, v)) (hB : InOk w (B, d, u)) (hM : LL w C M) (hm : M.length ≤ 9223372036854775807) (hC : CosOk w) (hk : Kn) (h1 : v.length ≤ 70) (h2 : u.length ≤ 70) (hf : Hid (fewR (vsOf M) 40 = false)) (h3 : 300 < M.length) :
    Calls Tryd.prog 15 #[.slice A v.length c, .slice B u.length d, .slice C M.length c3] w (RetB true w) := by
  go_enter Tryd.func15, Tryd.ntmps15
  go_wp2_with fail
  refine (few_any C c3 40 M w hM hm (by omega) false hf).mono ?_
  rintro e w' ⟨rfl, rfl⟩
  go_wp2_with fail
  refine (hk _ hC).mono ?_
  rintro e w99 ⟨rfl, hb⟩
  go_wp2_with fail
  go_ret
  exact ⟨rfl, hb⟩
set_option maxRecDepth 100000 in
set_option maxHeartbeats 4000000 in
theorem FeatureNearest_o5 (A B C : Option Addr) (c d c3 : Nat) (v u : List Int) (M : List Inn) (w : World) (hA : InOk w (A, c, v)) (hB : InOk w (B, d, u)) (hM : LL w C M) (hm : M.length ≤ 9223372036854775807) (hC : CosOk w) (hk : Kn) (h1 : v.length ≤ 70) (h2 : u.length ≤ 70) (hf : Hid (fewR (vsOf M) 40 = true)) (h3 : 300 < M.length) :
    Calls Tryd.prog 15 #[.slice A v.length c, .slice B u.length d, .slice C M.length c3] w (RetB true w) := by
  go_enter Tryd.func15, Tryd.ntmps15
  go_wp2_with fail
  refine (few_any C c3 40 M w hM hm (by omega) true hf).mono ?_
  rintro e w' ⟨rfl, rfl⟩
  go_wp2_with fail
  refine (hk _ hC).mono ?_
  rintro e w99 ⟨rfl, hb⟩
  go_wp2_with fail
  go_ret
  exact ⟨rfl, hb⟩
set_option maxRecDepth 100000 in
set_option maxHeartbeats 4000000 in
theorem FeatureNearest_dok (A B C : Option Addr) (c d c3 : Nat) (v u : List Int) (M : List Inn) (w : World) (hA : InOk w (A, c, v)) (hB : InOk w (B, d, u)) (hM : LL w C M) (hm : M.length ≤ 300) (hC : CosOk w) (hk : Kn) (h1 : v.length ≤ 70) (h2 : u.length ≤ 70) (hf : Hid (fewR (vsOf M) 40 = true)) (hv : Hid (vecOk [v, u] = true)) (h1v : Hid (vecOk [v] = true)) (h1b : Hid (bookOk (vsOf M) = true)) (hl : v.length = len0 (vsOf M)) :
    Calls Tryd.prog 15 #[.slice A v.length c, .slice B u.length d, .slice C M.length c3] w (RetB true w) := by
  have HV2 : Hid (vecR [v, u] = 0) := Lib.hid (vec_two_iff.2 hv.out)
  have hpos : 0 < M.length := by have := (bookOk_iff.1 h1b.out).1; simp at this; omega
  have hlx : Hid (v.length = M[0].2.2.length) := Lib.hid (by rw [← len0_at hpos]; exact hl)
  have HFO : Hid (fitR [v] (vsOf M) = 0) := Lib.hid (fit_one h1v.out h1b.out hl)
  have HV : Hid (Hid (allR (-1048576) 1048576 v = true) ∧ Hid (Wds v M) ∧ v.length ≤ 64) := Lib.hid (by
    have h8 := vecOk_mem h1v.out (x := v) (by simp)
    exact ⟨Lib.hid h8.2.2.2, Lib.hid (fit_words (fit_of HFO.out) (x := v) (by simp)), h8.2.2.1⟩)
  obtain ⟨a, ha, hna, hnb⟩ := (fit_of HFO.out).near (x := v) (by simp)
  have HNR : Hid (nr v (vsOf M) = ((a : Int), dst v ((vsOf M)[a]?.getD []))) := Lib.hid (Prod.ext hna hnb)
  have ha : a < M.length := by simpa using ha
  clear hna hnb hl
  go_enter Tryd.func15, Tryd.ntmps15
  go_wp2_with fail
  refine (few_any C c3 40 M w hM (by omega) (by omega) true hf).mono ?_
  rintro e w' ⟨rfl, rfl⟩
  go_wp2_with fail
  refine (Distance_any A B c d v u w hA hB 0 (dst v u) (Lib.hid (dis_ok hv.out))).mono ?_
  rintro e w1 ⟨rfl, hb⟩
  have IA1 : Hid (InOk w1 (A, c, v)) := Lib.hid (hA.below hb)
  have IB1 : Hid (InOk w1 (B, d, u)) := Lib.hid (hB.below hb)
  have LM1 : Hid (LL w1 C M) := Lib.hid (hM.below hb)
  have B1 : Hid (Below w.heap.size w w1) := Lib.hid (hb)
  clear hb 
  go_wp2_with fail
  obtain ⟨W2, hW⟩ : ∃ x, x = w1.alloc (.cells #[.slice A v.length c, .slice B u.length d] 22) := ⟨_, rfl⟩
  rw [← hW]
  have N2 : Hid (LL W2 (some ⟨w1.heap.size, 0, none⟩) [(A, c, v), (B, d, u)]) := Lib.hid (by rw [hW]; exact LL.two (heap_alloc_new _ _) (IA1.out.alloc _) (IB1.out.alloc _))
  have hb : Below w1.heap.size w1 W2 := by rw [hW]; exact (Below.refl _ _).alloc (Nat.le_refl _) _
  clear hW
  have IA2 : Hid (InOk W2 (A, c, v)) := Lib.hid (IA1.out.below hb)
  have IB2 : Hid (InOk W2 (B, d, u)) := Lib.hid (IB1.out.below hb)
  have LM2 : Hid (LL W2 C M) := Lib.hid (LM1.out.below hb)
  have B2 : Hid (Below w.heap.size w W2) := Lib.hid (B1.out.trans (hb.mono B1.out.size))
  clear hb IA1 IB1 LM1 B1
  refine (rVectors_two w1.heap.size A B c d v u W2 N2.out true hv).mono ?_
  rintro e w3 ⟨rfl, n3, hb⟩
  have IA3 : Hid (InOk w3 (A, c, v)) := Lib.hid (by rw [hb]; exact IA2.out.below (below_drewN' _ _))
  have IB3 : Hid (InOk w3 (B, d, u)) := Lib.hid (by rw [hb]; exact IB2.out.below (below_drewN' _ _))
  have LM3 : Hid (LL w3 C M) := Lib.hid (by rw [hb]; exact LM2.out.below (below_drewN' _ _))
  have B3 : Hid (Below w.heap.size w w3) := Lib.hid (by rw [hb]; exact B2.out.trans (below_drewN' _ _))
  clear hb IA2 IB2 LM2 B2
  go_wp2_with fail
  refine (rDistance_any A B c d v u w3 IA3.out.1 IB3.out.1 (Lib.hid (vec_two HV2.out).1) (Lib.hid (vec_two HV2.out).2.2.1) (Lib.hid (vec_two HV2.out).2.2.2) (vec_two HV2.out).2.1).mono ?_
  rintro e w4 ⟨rfl, n4, hb⟩
  have IA4 : Hid (InOk w4 (A, c, v)) := Lib.hid (by rw [hb]; exact IA3.out.below (below_drewN' _ _))
  have IB4 : Hid (InOk w4 (B, d, u)) := Lib.hid (by rw [hb]; exact IB3.out.below (below_drewN' _ _))
  have LM4 : Hid (LL w4 C M) := Lib.hid (by rw [hb]; exact LM3.out.below (below_drewN' _ _))
  have B4 : Hid (Below w.heap.size w w4) := Lib.hid (by rw [hb]; exact B3.out.trans (below_drewN' _ _))
  clear hb IA3 IB3 LM3 B3
  go_wp2_with fail
  refine (Nearest_any A C c c3 v M w4 IA4.out LM4.out 0 ((a : Int), dst v ((vsOf M)[a]?.getD [])) (Lib.hid (by rw [neaR, if_pos HFO.out, ← HNR.out]))).mono ?_
  rintro e w5 ⟨rfl, hb⟩
  have IA5 : Hid (InOk w5 (A, c, v)) := Lib.hid (IA4.out.below hb)
  have IB5 : Hid (InOk w5 (B, d, u)) := Lib.hid (IB4.out.below hb)
  have LM5 : Hid (LL w5 C M) := Lib.hid (LM4.out.below hb)
  have B5 : Hid (Below w.heap.size w w5) := Lib.hid (B4.out.trans (hb.mono B4.out.size))
  clear hb IA4 IB4 LM4 B4
  go_wp2_with fail
  obtain ⟨W7, hW⟩ : ∃ x, x = w5.alloc (.cells #[.slice A v.length c] 22) := ⟨_, rfl⟩
  rw [← hW]
  have N7 : Hid (LL W7 (some ⟨w5.heap.size, 0, none⟩) [(A, c, v)]) := Lib.hid (by rw [hW]; exact LL.one (heap_alloc_new _ _) (IA5.out.alloc _))
  have hb : Below w5.heap.size w5 W7 := by rw [hW]; exact (Below.refl _ _).alloc (Nat.le_refl _) _
  clear hW
  have IA6 : Hid (InOk W7 (A, c, v)) := Lib.hid (IA5.out.below hb)
  have IB6 : Hid (InOk W7 (B, d, u)) := Lib.hid (IB5.out.below hb)
  have LM6 : Hid (LL W7 C M) := Lib.hid (LM5.out.below hb)
  have B6 : Hid (Below w.heap.size w W7) := Lib.hid (B5.out.trans (hb.mono B5.out.size))
  clear hb IA5 IB5 LM5 B5
  refine (rVectors_one w5.heap.size A c v W7 N7.out true h1v).mono ?_
  rintro e w7 ⟨rfl, n7, hb⟩
  have IA7 : Hid (InOk w7 (A, c, v)) := Lib.hid (by rw [hb]; exact IA6.out.below (below_drewN' _ _))
  have IB7 : Hid (InOk w7 (B, d, u)) := Lib.hid (by rw [hb]; exact IB6.out.below (below_drewN' _ _))
  have LM7 : Hid (LL w7 C M) := Lib.hid (by rw [hb]; exact LM6.out.below (below_drewN' _ _))
  have B7 : Hid (Below w.heap.size w w7) := Lib.hid (by rw [hb]; exact B6.out.trans (below_drewN' _ _))
  clear hb IA6 IB6 LM6 B6
  obtain ⟨b0, o0, rfl, hb0, hc0⟩ := LM7.out.lies.lat hpos
  rw [Nat.add_zero] at hc0
  generalize hX : M[0] = X at *
  have HX := Lib.hid hX
  clear hX
  obtain ⟨XA, Xc, xl⟩ := X
  simp only at hc0 hlx
  go_wp2_with fail
  refine (rBook_any (some ⟨b0, o0, none⟩) c3 M w7 LM7.out (by omega) true h1b).mono ?_
  rintro e w8 ⟨rfl, n8, hb⟩
  have hc1 : w8.cell? ⟨b0, o0, none⟩ = some (.slice XA xl.length Xc) := by rw [hb]; exact hc0
  clear hc0
  have IA8 : Hid (InOk w8 (A, c, v)) := Lib.hid (by rw [hb]; exact IA7.out.below (below_drewN' _ _))
  have IB8 : Hid (InOk w8 (B, d, u)) := Lib.hid (by rw [hb]; exact IB7.out.below (below_drewN' _ _))
  have LM8 : Hid (LL w8 (some ⟨b0, o0, none⟩) M) := Lib.hid (by rw [hb]; exact LM7.out.below (below_drewN' _ _))
  have B8 : Hid (Below w.heap.size w w8) := Lib.hid (by rw [hb]; exact B7.out.trans (below_drewN' _ _))
  clear hb IA7 IB7 LM7 B7
  have q9 : ((v.length : Int) != (xl.length : Int)) = false := by have := hlx.out; simp; omega
  go_wp2_with fail
  clear q9 hc1
  refine (rNearest_any A (some ⟨b0, o0, none⟩) c c3 v M w8 IA8.out.1 LM8.out HV.out.1 HV.out.2.1 HV.out.2.2 (by omega) hpos).mono ?_
  rw [HNR.out]
  rintro e w9 ⟨rfl, n9, hb⟩
  have IA9 : Hid (InOk w9 (A, c, v)) := Lib.hid (by rw [hb]; exact IA8.out.below (below_drewN' _ _))
  have IB9 : Hid (InOk w9 (B, d, u)) := Lib.hid (by rw [hb]; exact IB8.out.below (below_drewN' _ _))
  have LM9 : Hid (LL w9 (some ⟨b0, o0, none⟩) M) := Lib.hid (by rw [hb]; exact LM8.out.below (below_drewN' _ _))
  have B9 : Hid (Below w.heap.size w w9) := Lib.hid (by rw [hb]; exact B8.out.trans (below_drewN' _ _))
  clear hb IA8 IB8 LM8 B8
  obtain ⟨b2, o2, eA, hb2, hc2⟩ := LM9.out.lies.lat ha
  cases eA
  have hy := LM9.out.inn _ (List.getElem_mem ha)
  have hyw := HV.out.2.1.out _ (List.getElem_mem ha)
  rw [vsOf_get ha]
  generalize hY : M[a] = Y at *
  have HY := Lib.hid hY
  clear hY
  obtain ⟨YA, Yc, yl⟩ := Y
  simp only at *
  have HYI := Lib.hid hy
  have HYW := Lib.hid hyw
  clear hy hyw
  go_wp2_with fail
  refine (rDistance_any A YA c Yc v yl w9 IA9.out.1 HYI.out.1 (Lib.hid HYW.out.1) HV.out.1 (Lib.hid HYW.out.2.2) HV.out.2.2).mono ?_
  rintro e w10 ⟨rfl, n10, hb⟩
  have IA10 : Hid (InOk w10 (A, c, v)) := Lib.hid (by rw [hb]; exact IA9.out.below (below_drewN' _ _))
  have IB10 : Hid (InOk w10 (B, d, u)) := Lib.hid (by rw [hb]; exact IB9.out.below (below_drewN' _ _))
  have LM10 : Hid (LL w10 (some ⟨b0, o0, none⟩) M) := Lib.hid (by rw [hb]; exact LM9.out.below (below_drewN' _ _))
  have B10 : Hid (Below w.heap.size w w10) := Lib.hid (by rw [hb]; exact B9.out.trans (below_drewN' _ _))
  clear hb IA9 IB9 LM9 B9
  go_wp2_with fail
  refine (hk _ (hC.below B10.out)).mono ?_
  rintro e w99 ⟨rfl, hb⟩
  go_wp2_with fail
  go_ret
  exact ⟨rfl, B10.out.trans (hb.mono B10.out.size)⟩
set_option maxRecDepth 100000 in
set_option maxHeartbeats 4000000 in
theorem FeatureNearest_dv (A B C : Option Addr) (c d c3 : Nat) (v u : List Int) (M : List Inn) (w : World) (hA : InOk w (A, c, v)) (hB : InOk w (B, d, u)) (hM : LL w C M) (hm : M.length ≤ 300) (hC : CosOk w) (hk : Kn) (h1 : v.length ≤ 70) (h2 : u.length ≤ 70) (hf : Hid (fewR (vsOf M) 40 = true)) (hv : Hid (vecOk [v, u] = true)) (h1v : Hid (vecOk [v] = false)) :
    Calls Tryd.prog 15 #[.slice A v.length c, .slice B u.length d, .slice C M.length c3] w (RetB true w) := by
  have HV2 : Hid (vecR [v, u] = 0) := Lib.hid (vec_two_iff.2 hv.out)
  have HNB : Hid (neaR v (vsOf M) = (2, 0, 0)) := Lib.hid (nea_bad (by simpa using hm) (.inl h1v.out))
  go_enter Tryd.func15, Tryd.ntmps15
  go_wp2_with fail
  refine (few_any C c3 40 M w hM (by omega) (by omega) true hf).mono ?_
  rintro e w' ⟨rfl, rfl⟩
  go_wp2_with fail
  refine (Distance_any A B c d v u w hA hB 0 (dst v u) (Lib.hid (dis_ok hv.out))).mono ?_
  rintro e w1 ⟨rfl, hb⟩
  have IA1 : Hid (InOk w1 (A, c, v)) := Lib.hid (hA.below hb)
  have IB1 : Hid (InOk w1 (B, d, u)) := Lib.hid (hB.below hb)
  have LM1 : Hid (LL w1 C M) := Lib.hid (hM.below hb)
  have B1 : Hid (Below w.heap.size w w1) := Lib.hid (hb)
  clear hb 
  go_wp2_with fail
  obtain ⟨W2, hW⟩ : ∃ x, x = w1.alloc (.cells #[.slice A v.length c, .slice B u.length d] 22) := ⟨_, rfl⟩
  rw [← hW]
  have N2 : Hid (LL W2 (some ⟨w1.heap.size, 0, none⟩) [(A, c, v), (B, d, u)]) := Lib.hid (by rw [hW]; exact LL.two (heap_alloc_new _ _) (IA1.out.alloc _) (IB1.out.alloc _))
  have hb : Below w1.heap.size w1 W2 := by rw [hW]; exact (Below.refl _ _).alloc (Nat.le_refl _) _
  clear hW
  have IA2 : Hid (InOk W2 (A, c, v)) := Lib.hid (IA1.out.below hb)
  have IB2 : Hid (InOk W2 (B, d, u)) := Lib.hid (IB1.out.below hb)
  have LM2 : Hid (LL W2 C M) := Lib.hid (LM1.out.below hb)
  have B2 : Hid (Below w.heap.size w W2) := Lib.hid (B1.out.trans (hb.mono B1.out.size))
  clear hb IA1 IB1 LM1 B1
  refine (rVectors_two w1.heap.size A B c d v u W2 N2.out true hv).mono ?_
  rintro e w3 ⟨rfl, n3, hb⟩
  have IA3 : Hid (InOk w3 (A, c, v)) := Lib.hid (by rw [hb]; exact IA2.out.below (below_drewN' _ _))
  have IB3 : Hid (InOk w3 (B, d, u)) := Lib.hid (by rw [hb]; exact IB2.out.below (below_drewN' _ _))
  have LM3 : Hid (LL w3 C M) := Lib.hid (by rw [hb]; exact LM2.out.below (below_drewN' _ _))
  have B3 : Hid (Below w.heap.size w w3) := Lib.hid (by rw [hb]; exact B2.out.trans (below_drewN' _ _))
  clear hb IA2 IB2 LM2 B2
  go_wp2_with fail
  refine (rDistance_any A B c d v u w3 IA3.out.1 IB3.out.1 (Lib.hid (vec_two HV2.out).1) (Lib.hid (vec_two HV2.out).2.2.1) (Lib.hid (vec_two HV2.out).2.2.2) (vec_two HV2.out).2.1).mono ?_
  rintro e w4 ⟨rfl, n4, hb⟩
  have IA4 : Hid (InOk w4 (A, c, v)) := Lib.hid (by rw [hb]; exact IA3.out.below (below_drewN' _ _))
  have IB4 : Hid (InOk w4 (B, d, u)) := Lib.hid (by rw [hb]; exact IB3.out.below (below_drewN' _ _))
  have LM4 : Hid (LL w4 C M) := Lib.hid (by rw [hb]; exact LM3.out.below (below_drewN' _ _))
  have B4 : Hid (Below w.heap.size w w4) := Lib.hid (by rw [hb]; exact B3.out.trans (below_drewN' _ _))
  clear hb IA3 IB3 LM3 B3
  go_wp2_with fail
  refine (Nearest_any A C c c3 v M w4 IA4.out LM4.out 2 (0, 0) (Lib.hid HNB.out)).mono ?_
  rintro e w5 ⟨rfl, hb⟩
  have IA5 : Hid (InOk w5 (A, c, v)) := Lib.hid (IA4.out.below hb)
  have IB5 : Hid (InOk w5 (B, d, u)) := Lib.hid (IB4.out.below hb)
  have LM5 : Hid (LL w5 C M) := Lib.hid (LM4.out.below hb)
  have B5 : Hid (Below w.heap.size w w5) := Lib.hid (B4.out.trans (hb.mono B4.out.size))
  clear hb IA4 IB4 LM4 B4
  go_wp2_with fail
  obtain ⟨W7, hW⟩ : ∃ x, x = w5.alloc (.cells #[.slice A v.length c] 22) := ⟨_, rfl⟩
  rw [← hW]
  have N7 : Hid (LL W7 (some ⟨w5.heap.size, 0, none⟩) [(A, c, v)]) := Lib.hid (by rw [hW]; exact LL.one (heap_alloc_new _ _) (IA5.out.alloc _))
  have hb : Below w5.heap.size w5 W7 := by rw [hW]; exact (Below.refl _ _).alloc (Nat.le_refl _) _
  clear hW
  have IA6 : Hid (InOk W7 (A, c, v)) := Lib.hid (IA5.out.below hb)
  have IB6 : Hid (InOk W7 (B, d, u)) := Lib.hid (IB5.out.below hb)
  have LM6 : Hid (LL W7 C M) := Lib.hid (LM5.out.below hb)
  have B6 : Hid (Below w.heap.size w W7) := Lib.hid (B5.out.trans (hb.mono B5.out.size))
  clear hb IA5 IB5 LM5 B5
  refine (rVectors_one w5.heap.size A c v W7 N7.out false h1v).mono ?_
  rintro e w7 ⟨rfl, n7, hb⟩
  have IA7 : Hid (InOk w7 (A, c, v)) := Lib.hid (by rw [hb]; exact IA6.out.below (below_drewN' _ _))
  have IB7 : Hid (InOk w7 (B, d, u)) := Lib.hid (by rw [hb]; exact IB6.out.below (below_drewN' _ _))
  have LM7 : Hid (LL w7 C M) := Lib.hid (by rw [hb]; exact LM6.out.below (below_drewN' _ _))
  have B7 : Hid (Below w.heap.size w w7) := Lib.hid (by rw [hb]; exact B6.out.trans (below_drewN' _ _))
  clear hb IA6 IB6 LM6 B6
  go_wp2_with fail
  refine (hk _ (hC.below B7.out)).mono ?_
  rintro e w99 ⟨rfl, hb⟩
  go_wp2_with fail
  go_ret
  exact ⟨rfl, B7.out.trans (hb.mono B7.out.size)⟩
set_option maxRecDepth 100000 in
set_option maxHeartbeats 4000000 in
theorem FeatureNearest_db (A B C : Option Addr) (c d c3 : Nat) (v u : List Int) (M : List Inn) (w : World) (hA : InOk w (A, c, v)) (hB : InOk w (B, d, u)) (hM : LL w C M) (hm : M.length ≤ 300) (hC : CosOk w) (hk : Kn) (h1 : v.length ≤ 70) (h2 : u.length ≤ 70) (hf : Hid (fewR (vsOf M) 40 = true)) (hv : Hid (vecOk [v, u] = true)) (h1v : Hid (vecOk [v] = true)) (h1b : Hid (bookOk (vsOf M) = false)) :
    Calls Tryd.prog 15 #[.slice A v.length c, .slice B u.length d, .slice C M.length c3] w (RetB true w) := by
  have HV2 : Hid (vecR [v, u] = 0) := Lib.hid (vec_two_iff.2 hv.out)
  have HNB : Hid (neaR v (vsOf M) = (2, 0, 0)) := Lib.hid (nea_bad (by simpa using hm) (.inr (.inl h1b.out)))
  go_enter Tryd.func15, Tryd.ntmps15
  go_wp2_with fail
  refine (few_any C c3 40 M w hM (by omega) (by omega) true hf).mono ?_
  rintro e w' ⟨rfl, rfl⟩
  go_wp2_with fail
  refine (Distance_any A B c d v u w hA hB 0 (dst v u) (Lib.hid (dis_ok hv.out))).mono ?_
  rintro e w1 ⟨rfl, hb⟩
  have IA1 : Hid (InOk w1 (A, c, v)) := Lib.hid (hA.below hb)
  have IB1 : Hid (InOk w1 (B, d, u)) := Lib.hid (hB.below hb)
  have LM1 : Hid (LL w1 C M) := Lib.hid (hM.below hb)
  have B1 : Hid (Below w.heap.size w w1) := Lib.hid (hb)
  clear hb 
  go_wp2_with fail
  obtain ⟨W2, hW⟩ : ∃ x, x = w1.alloc (.cells #[.slice A v.length c, .slice B u.length d] 22) := ⟨_, rfl⟩
  rw [← hW]
  have N2 : Hid (LL W2 (some ⟨w1.heap.size, 0, none⟩) [(A, c, v), (B, d, u)]) := Lib.hid (by rw [hW]; exact LL.two (heap_alloc_new _ _) (IA1.out.alloc _) (IB1.out.alloc _))
  have hb : Below w1.heap.size w1 W2 := by rw [hW]; exact (Below.refl _ _).alloc (Nat.le_refl _) _
  clear hW
  have IA2 : Hid (InOk W2 (A, c, v)) := Lib.hid (IA1.out.below hb)
  have IB2 : Hid (InOk W2 (B, d, u)) := Lib.hid (IB1.out.below hb)
  have LM2 : Hid (LL W2 C M) := Lib.hid (LM1.out.below hb)
  have B2 : Hid (Below w.heap.size w W2) := Lib.hid (B1.out.trans (hb.mono B1.out.size))
  clear hb IA1 IB1 LM1 B1
  refine (rVectors_two w1.heap.size A B c d v u W2 N2.out true hv).mono ?_
  rintro e w3 ⟨rfl, n3, hb⟩
  have IA3 : Hid (InOk w3 (A, c, v)) := Lib.hid (by rw [hb]; exact IA2.out.below (below_drewN' _ _))
  have IB3 : Hid (InOk w3 (B, d, u)) := Lib.hid (by rw [hb]; exact IB2.out.below (below_drewN' _ _))
  have LM3 : Hid (LL w3 C M) := Lib.hid (by rw [hb]; exact LM2.out.below (below_drewN' _ _))
  have B3 : Hid (Below w.heap.size w w3) := Lib.hid (by rw [hb]; exact B2.out.trans (below_drewN' _ _))
  clear hb IA2 IB2 LM2 B2
  go_wp2_with fail
  refine (rDistance_any A B c d v u w3 IA3.out.1 IB3.out.1 (Lib.hid (vec_two HV2.out).1) (Lib.hid (vec_two HV2.out).2.2.1) (Lib.hid (vec_two HV2.out).2.2.2) (vec_two HV2.out).2.1).mono ?_
  rintro e w4 ⟨rfl, n4, hb⟩
  have IA4 : Hid (InOk w4 (A, c, v)) := Lib.hid (by rw [hb]; exact IA3.out.below (below_drewN' _ _))
  have IB4 : Hid (InOk w4 (B, d, u)) := Lib.hid (by rw [hb]; exact IB3.out.below (below_drewN' _ _))
  have LM4 : Hid (LL w4 C M) := Lib.hid (by rw [hb]; exact LM3.out.below (below_drewN' _ _))
  have B4 : Hid (Below w.heap.size w w4) := Lib.hid (by rw [hb]; exact B3.out.trans (below_drewN' _ _))
  clear hb IA3 IB3 LM3 B3
  go_wp2_with fail
  refine (Nearest_any A C c c3 v M w4 IA4.out LM4.out 2 (0, 0) (Lib.hid HNB.out)).mono ?_
  rintro e w5 ⟨rfl, hb⟩
  have IA5 : Hid (InOk w5 (A, c, v)) := Lib.hid (IA4.out.below hb)
  have IB5 : Hid (InOk w5 (B, d, u)) := Lib.hid (IB4.out.below hb)
  have LM5 : Hid (LL w5 C M) := Lib.hid (LM4.out.below hb)
  have B5 : Hid (Below w.heap.size w w5) := Lib.hid (B4.out.trans (hb.mono B4.out.size))
  clear hb IA4 IB4 LM4 B4
  go_wp2_with fail
  obtain ⟨W7, hW⟩ : ∃ x, x = w5.alloc (.cells #[.slice A v.length c] 22) := ⟨_, rfl⟩
  rw [← hW]
  have N7 : Hid (LL W7 (some ⟨w5.heap.size, 0, none⟩) [(A, c, v)]) := Lib.hid (by rw [hW]; exact LL.one (heap_alloc_new _ _) (IA5.out.alloc _))
  have hb : Below w5.heap.size w5 W7 := by rw [hW]; exact (Below.refl _ _).alloc (Nat.le_refl _) _
  clear hW
  have IA6 : Hid (InOk W7 (A, c, v)) := Lib.hid (IA5.out.below hb)
  have IB6 : Hid (InOk W7 (B, d, u)) := Lib.hid (IB5.out.below hb)
  have LM6 : Hid (LL W7 C M) := Lib.hid (LM5.out.below hb)
  have B6 : Hid (Below w.heap.size w W7) := Lib.hid (B5.out.trans (hb.mono B5.out.size))
  clear hb IA5 IB5 LM5 B5
  refine (rVectors_one w5.heap.size A c v W7 N7.out true h1v).mono ?_
  rintro e w7 ⟨rfl, n7, hb⟩
  have IA7 : Hid (InOk w7 (A, c, v)) := Lib.hid (by rw [hb]; exact IA6.out.below (below_drewN' _ _))
  have IB7 : Hid (InOk w7 (B, d, u)) := Lib.hid (by rw [hb]; exact IB6.out.below (below_drewN' _ _))
  have LM7 : Hid (LL w7 C M) := Lib.hid (by rw [hb]; exact LM6.out.below (below_drewN' _ _))
  have B7 : Hid (Below w.heap.size w w7) := Lib.hid (by rw [hb]; exact B6.out.trans (below_drewN' _ _))
  clear hb IA6 IB6 LM6 B6
  go_wp2_with fail
  refine (rBook_any C c3 M w7 LM7.out (by omega) false h1b).mono ?_
  rintro e w8 ⟨rfl, n8, hb⟩
  have IA8 : Hid (InOk w8 (A, c, v)) := Lib.hid (by rw [hb]; exact IA7.out.below (below_drewN' _ _))
  have IB8 : Hid (InOk w8 (B, d, u)) := Lib.hid (by rw [hb]; exact IB7.out.below (below_drewN' _ _))
  have LM8 : Hid (LL w8 C M) := Lib.hid (by rw [hb]; exact LM7.out.below (below_drewN' _ _))
  have B8 : Hid (Below w.heap.size w w8) := Lib.hid (by rw [hb]; exact B7.out.trans (below_drewN' _ _))
  clear hb IA7 IB7 LM7 B7
  go_wp2_with fail
  refine (hk _ (hC.below B8.out)).mono ?_
  rintro e w99 ⟨rfl, hb⟩
  go_wp2_with fail
  go_ret
  exact ⟨rfl, B8.out.trans (hb.mono B8.out.size)⟩
set_option maxRecDepth 100000 in
set_option maxHeartbeats 4000000 in
theorem FeatureNearest_dlen (A B C : Option Addr) (c d c3 : Nat) (v u : List Int) (M : List Inn) (w : World) (hA : InOk w (A, c, v)) (hB : InOk w (B, d, u)) (hM : LL w C M) (hm : M.length ≤ 300) (hC : CosOk w) (hk : Kn) (h1 : v.length ≤ 70) (h2 : u.length ≤ 70) (hf : Hid (fewR (vsOf M) 40 = true)) (hv : Hid (vecOk [v, u] = true)) (h1v : Hid (vecOk [v] = true)) (h1b : Hid (bookOk (vsOf M) = true)) (hl : v.length ≠ len0 (vsOf M)) :
    Calls Tryd.prog 15 #[.slice A v.length c, .slice B u.length d, .slice C M.length c3] w (RetB true w) := by
  have HV2 : Hid (vecR [v, u] = 0) := Lib.hid (vec_two_iff.2 hv.out)
  have hpos : 0 < M.length := by have := (bookOk_iff.1 h1b.out).1; simp at this; omega
  have HNB : Hid (neaR v (vsOf M) = (2, 0, 0)) := Lib.hid (nea_bad (by simpa using hm) (.inr (.inr hl)))
  have hlx : Hid (v.length ≠ M[0].2.2.length) := Lib.hid (by rw [← len0_at hpos]; exact hl)
  clear hl
  go_enter Tryd.func15, Tryd.ntmps15
  go_wp2_with fail
  refine (few_any C c3 40 M w hM (by omega) (by omega) true hf).mono ?_
  rintro e w' ⟨rfl, rfl⟩
  go_wp2_with fail
  refine (Distance_any A B c d v u w hA hB 0 (dst v u) (Lib.hid (dis_ok hv.out))).mono ?_
  rintro e w1 ⟨rfl, hb⟩
  have IA1 : Hid (InOk w1 (A, c, v)) := Lib.hid (hA.below hb)
  have IB1 : Hid (InOk w1 (B, d, u)) := Lib.hid (hB.below hb)
  have LM1 : Hid (LL w1 C M) := Lib.hid (hM.below hb)
  have B1 : Hid (Below w.heap.size w w1) := Lib.hid (hb)
  clear hb 
  go_wp2_with fail
  obtain ⟨W2, hW⟩ : ∃ x, x = w1.alloc (.cells #[.slice A v.length c, .slice B u.length d] 22) := ⟨_, rfl⟩
  rw [← hW]
  have N2 : Hid (LL W2 (some ⟨w1.heap.size, 0, none⟩) [(A, c, v), (B, d, u)]) := Lib.hid (by rw [hW]; exact LL.two (heap_alloc_new _ _) (IA1.out.alloc _) (IB1.out.alloc _))
  have hb : Below w1.heap.size w1 W2 := by rw [hW]; exact (Below.refl _ _).alloc (Nat.le_refl _) _
  clear hW
  have IA2 : Hid (InOk W2 (A, c, v)) := Lib.hid (IA1.out.below hb)
  have IB2 : Hid (InOk W2 (B, d, u)) := Lib.hid (IB1.out.below hb)
  have LM2 : Hid (LL W2 C M) := Lib.hid (LM1.out.below hb)
  have B2 : Hid (Below w.heap.size w W2) := Lib.hid (B1.out.trans (hb.mono B1.out.size))
  clear hb IA1 IB1 LM1 B1
  refine (rVectors_two w1.heap.size A B c d v u W2 N2.out true hv).mono ?_
  rintro e w3 ⟨rfl, n3, hb⟩
  have IA3 : Hid (InOk w3 (A, c, v)) := Lib.hid (by rw [hb]; exact IA2.out.below (below_drewN' _ _))
  have IB3 : Hid (InOk w3 (B, d, u)) := Lib.hid (by rw [hb]; exact IB2.out.below (below_drewN' _ _))
  have LM3 : Hid (LL w3 C M) := Lib.hid (by rw [hb]; exact LM2.out.below (below_drewN' _ _))
  have B3 : Hid (Below w.heap.size w w3) := Lib.hid (by rw [hb]; exact B2.out.trans (below_drewN' _ _))
  clear hb IA2 IB2 LM2 B2
  go_wp2_with fail
  refine (rDistance_any A B c d v u w3 IA3.out.1 IB3.out.1 (Lib.hid (vec_two HV2.out).1) (Lib.hid (vec_two HV2.out).2.2.1) (Lib.hid (vec_two HV2.out).2.2.2) (vec_two HV2.out).2.1).mono ?_
  rintro e w4 ⟨rfl, n4, hb⟩
  have IA4 : Hid (InOk w4 (A, c, v)) := Lib.hid (by rw [hb]; exact IA3.out.below (below_drewN' _ _))
  have IB4 : Hid (InOk w4 (B, d, u)) := Lib.hid (by rw [hb]; exact IB3.out.below (below_drewN' _ _))
  have LM4 : Hid (LL w4 C M) := Lib.hid (by rw [hb]; exact LM3.out.below (below_drewN' _ _))
  have B4 : Hid (Below w.heap.size w w4) := Lib.hid (by rw [hb]; exact B3.out.trans (below_drewN' _ _))
  clear hb IA3 IB3 LM3 B3
  go_wp2_with fail
  refine (Nearest_any A C c c3 v M w4 IA4.out LM4.out 2 (0, 0) (Lib.hid HNB.out)).mono ?_
  rintro e w5 ⟨rfl, hb⟩
  have IA5 : Hid (InOk w5 (A, c, v)) := Lib.hid (IA4.out.below hb)
  have IB5 : Hid (InOk w5 (B, d, u)) := Lib.hid (IB4.out.below hb)
  have LM5 : Hid (LL w5 C M) := Lib.hid (LM4.out.below hb)
  have B5 : Hid (Below w.heap.size w w5) := Lib.hid (B4.out.trans (hb.mono B4.out.size))
  clear hb IA4 IB4 LM4 B4
  go_wp2_with fail
  obtain ⟨W7, hW⟩ : ∃ x, x = w5.alloc (.cells #[.slice A v.length c] 22) := ⟨_, rfl⟩
  rw [← hW]
  have N7 : Hid (LL W7 (some ⟨w5.heap.size, 0, none⟩) [(A, c, v)]) := Lib.hid (by rw [hW]; exact LL.one (heap_alloc_new _ _) (IA5.out.alloc _))
  have hb : Below w5.heap.size w5 W7 := by rw [hW]; exact (Below.refl _ _).alloc (Nat.le_refl _) _
  clear hW
  have IA6 : Hid (InOk W7 (A, c, v)) := Lib.hid (IA5.out.below hb)
  have IB6 : Hid (InOk W7 (B, d, u)) := Lib.hid (IB5.out.below hb)
  have LM6 : Hid (LL W7 C M) := Lib.hid (LM5.out.below hb)
  have B6 : Hid (Below w.heap.size w W7) := Lib.hid (B5.out.trans (hb.mono B5.out.size))
  clear hb IA5 IB5 LM5 B5
  refine (rVectors_one w5.heap.size A c v W7 N7.out true h1v).mono ?_
  rintro e w7 ⟨rfl, n7, hb⟩
  have IA7 : Hid (InOk w7 (A, c, v)) := Lib.hid (by rw [hb]; exact IA6.out.below (below_drewN' _ _))
  have IB7 : Hid (InOk w7 (B, d, u)) := Lib.hid (by rw [hb]; exact IB6.out.below (below_drewN' _ _))
  have LM7 : Hid (LL w7 C M) := Lib.hid (by rw [hb]; exact LM6.out.below (below_drewN' _ _))
  have B7 : Hid (Below w.heap.size w w7) := Lib.hid (by rw [hb]; exact B6.out.trans (below_drewN' _ _))
  clear hb IA6 IB6 LM6 B6
  obtain ⟨b0, o0, rfl, hb0, hc0⟩ := LM7.out.lies.lat hpos
  rw [Nat.add_zero] at hc0
  generalize hX : M[0] = X at *
  have HX := Lib.hid hX
  clear hX
  obtain ⟨XA, Xc, xl⟩ := X
  simp only at hc0 hlx
  go_wp2_with fail
  refine (rBook_any (some ⟨b0, o0, none⟩) c3 M w7 LM7.out (by omega) true h1b).mono ?_
  rintro e w8 ⟨rfl, n8, hb⟩
  have hc1 : w8.cell? ⟨b0, o0, none⟩ = some (.slice XA xl.length Xc) := by rw [hb]; exact hc0
  clear hc0
  have IA8 : Hid (InOk w8 (A, c, v)) := Lib.hid (by rw [hb]; exact IA7.out.below (below_drewN' _ _))
  have IB8 : Hid (InOk w8 (B, d, u)) := Lib.hid (by rw [hb]; exact IB7.out.below (below_drewN' _ _))
  have LM8 : Hid (LL w8 (some ⟨b0, o0, none⟩) M) := Lib.hid (by rw [hb]; exact LM7.out.below (below_drewN' _ _))
  have B8 : Hid (Below w.heap.size w w8) := Lib.hid (by rw [hb]; exact B7.out.trans (below_drewN' _ _))
  clear hb IA7 IB7 LM7 B7
  have q9 : ((v.length : Int) != (xl.length : Int)) = true := by have := hlx.out; simp; omega
  go_wp2_with fail
  refine (hk _ (hC.below B8.out)).mono ?_
  rintro e w99 ⟨rfl, hb⟩
  go_wp2_with fail
  go_ret
  exact ⟨rfl, B8.out.trans (hb.mono B8.out.size)⟩
set_option maxRecDepth 100000 in
set_option maxHeartbeats 4000000 in
theorem FeatureNearest_nok (A B C : Option Addr) (c d c3 : Nat) (v u : List Int) (M : List Inn) (w : World) (hA : InOk w (A, c, v)) (hB : InOk w (B, d, u)) (hM : LL w C M) (hm : M.length ≤ 300) (hC : CosOk w) (hk : Kn) (h1 : v.length ≤ 70) (h2 : u.length ≤ 70) (hf : Hid (fewR (vsOf M) 40 = true)) (hv : Hid (vecOk [v, u] = false)) (h1v : Hid (vecOk [v] = true)) (h1b : Hid (bookOk (vsOf M) = true)) (hl : v.length = len0 (vsOf M)) :
    Calls Tryd.prog 15 #[.slice A v.length c, .slice B u.length d, .slice C M.length c3] w (RetB true w) := by
  have hpos : 0 < M.length := by have := (bookOk_iff.1 h1b.out).1; simp at this; omega
  have hlx : Hid (v.length = M[0].2.2.length) := Lib.hid (by rw [← len0_at hpos]; exact hl)
  have HFO : Hid (fitR [v] (vsOf M) = 0) := Lib.hid (fit_one h1v.out h1b.out hl)
  have HV : Hid (Hid (allR (-1048576) 1048576 v = true) ∧ Hid (Wds v M) ∧ v.length ≤ 64) := Lib.hid (by
    have h8 := vecOk_mem h1v.out (x := v) (by simp)
    exact ⟨Lib.hid h8.2.2.2, Lib.hid (fit_words (fit_of HFO.out) (x := v) (by simp)), h8.2.2.1⟩)
  obtain ⟨a, ha, hna, hnb⟩ := (fit_of HFO.out).near (x := v) (by simp)
  have HNR : Hid (nr v (vsOf M) = ((a : Int), dst v ((vsOf M)[a]?.getD []))) := Lib.hid (Prod.ext hna hnb)
  have ha : a < M.length := by simpa using ha
  clear hna hnb hl
  go_enter Tryd.func15, Tryd.ntmps15
  go_wp2_with fail
  refine (few_any C c3 40 M w hM (by omega) (by omega) true hf).mono ?_
  rintro e w' ⟨rfl, rfl⟩
  go_wp2_with fail
  refine (Distance_any A B c d v u w hA hB 2 0 (Lib.hid (dis_bad hv.out))).mono ?_
  rintro e w1 ⟨rfl, hb⟩
  have IA1 : Hid (InOk w1 (A, c, v)) := Lib.hid (hA.below hb)
  have IB1 : Hid (InOk w1 (B, d, u)) := Lib.hid (hB.below hb)
  have LM1 : Hid (LL w1 C M) := Lib.hid (hM.below hb)
  have B1 : Hid (Below w.heap.size w w1) := Lib.hid (hb)
  clear hb 
  go_wp2_with fail
  obtain ⟨W2, hW⟩ : ∃ x, x = w1.alloc (.cells #[.slice A v.length c, .slice B u.length d] 22) := ⟨_, rfl⟩
  rw [← hW]
  have N2 : Hid (LL W2 (some ⟨w1.heap.size, 0, none⟩) [(A, c, v), (B, d, u)]) := Lib.hid (by rw [hW]; exact LL.two (heap_alloc_new _ _) (IA1.out.alloc _) (IB1.out.alloc _))
  have hb : Below w1.heap.size w1 W2 := by rw [hW]; exact (Below.refl _ _).alloc (Nat.le_refl _) _
  clear hW
  have IA2 : Hid (InOk W2 (A, c, v)) := Lib.hid (IA1.out.below hb)
  have IB2 : Hid (InOk W2 (B, d, u)) := Lib.hid (IB1.out.below hb)
  have LM2 : Hid (LL W2 C M) := Lib.hid (LM1.out.below hb)
  have B2 : Hid (Below w.heap.size w W2) := Lib.hid (B1.out.trans (hb.mono B1.out.size))
  clear hb IA1 IB1 LM1 B1
  refine (rVectors_two w1.heap.size A B c d v u W2 N2.out false hv).mono ?_
  rintro e w3 ⟨rfl, n3, hb⟩
  have IA3 : Hid (InOk w3 (A, c, v)) := Lib.hid (by rw [hb]; exact IA2.out.below (below_drewN' _ _))
  have IB3 : Hid (InOk w3 (B, d, u)) := Lib.hid (by rw [hb]; exact IB2.out.below (below_drewN' _ _))
  have LM3 : Hid (LL w3 C M) := Lib.hid (by rw [hb]; exact LM2.out.below (below_drewN' _ _))
  have B3 : Hid (Below w.heap.size w w3) := Lib.hid (by rw [hb]; exact B2.out.trans (below_drewN' _ _))
  clear hb IA2 IB2 LM2 B2
  go_wp2_with fail
  refine (Nearest_any A C c c3 v M w3 IA3.out LM3.out 0 ((a : Int), dst v ((vsOf M)[a]?.getD [])) (Lib.hid (by rw [neaR, if_pos HFO.out, ← HNR.out]))).mono ?_
  rintro e w4 ⟨rfl, hb⟩
  have IA4 : Hid (InOk w4 (A, c, v)) := Lib.hid (IA3.out.below hb)
  have IB4 : Hid (InOk w4 (B, d, u)) := Lib.hid (IB3.out.below hb)
  have LM4 : Hid (LL w4 C M) := Lib.hid (LM3.out.below hb)
  have B4 : Hid (Below w.heap.size w w4) := Lib.hid (B3.out.trans (hb.mono B3.out.size))
  clear hb IA3 IB3 LM3 B3
  go_wp2_with fail
  obtain ⟨W7, hW⟩ : ∃ x, x = w4.alloc (.cells #[.slice A v.length c] 22) := ⟨_, rfl⟩
  rw [← hW]
  have N7 : Hid (LL W7 (some ⟨w4.heap.size, 0, none⟩) [(A, c, v)]) := Lib.hid (by rw [hW]; exact LL.one (heap_alloc_new _ _) (IA4.out.alloc _))
  have hb : Below w4.heap.size w4 W7 := by rw [hW]; exact (Below.refl _ _).alloc (Nat.le_refl _) _
  clear hW
  have IA5 : Hid (InOk W7 (A, c, v)) := Lib.hid (IA4.out.below hb)
  have IB5 : Hid (InOk W7 (B, d, u)) := Lib.hid (IB4.out.below hb)
  have LM5 : Hid (LL W7 C M) := Lib.hid (LM4.out.below hb)
  have B5 : Hid (Below w.heap.size w W7) := Lib.hid (B4.out.trans (hb.mono B4.out.size))
  clear hb IA4 IB4 LM4 B4
  refine (rVectors_one w4.heap.size A c v W7 N7.out true h1v).mono ?_
  rintro e w6 ⟨rfl, n6, hb⟩
  have IA6 : Hid (InOk w6 (A, c, v)) := Lib.hid (by rw [hb]; exact IA5.out.below (below_drewN' _ _))
  have IB6 : Hid (InOk w6 (B, d, u)) := Lib.hid (by rw [hb]; exact IB5.out.below (below_drewN' _ _))
  have LM6 : Hid (LL w6 C M) := Lib.hid (by rw [hb]; exact LM5.out.below (below_drewN' _ _))
  have B6 : Hid (Below w.heap.size w w6) := Lib.hid (by rw [hb]; exact B5.out.trans (below_drewN' _ _))
  clear hb IA5 IB5 LM5 B5
  obtain ⟨b0, o0, rfl, hb0, hc0⟩ := LM6.out.lies.lat hpos
  rw [Nat.add_zero] at hc0
  generalize hX : M[0] = X at *
  have HX := Lib.hid hX
  clear hX
  obtain ⟨XA, Xc, xl⟩ := X
  simp only at hc0 hlx
  go_wp2_with fail
  refine (rBook_any (some ⟨b0, o0, none⟩) c3 M w6 LM6.out (by omega) true h1b).mono ?_
  rintro e w7 ⟨rfl, n7, hb⟩
  have hc1 : w7.cell? ⟨b0, o0, none⟩ = some (.slice XA xl.length Xc) := by rw [hb]; exact hc0
  clear hc0
  have IA7 : Hid (InOk w7 (A, c, v)) := Lib.hid (by rw [hb]; exact IA6.out.below (below_drewN' _ _))
  have IB7 : Hid (InOk w7 (B, d, u)) := Lib.hid (by rw [hb]; exact IB6.out.below (below_drewN' _ _))
  have LM7 : Hid (LL w7 (some ⟨b0, o0, none⟩) M) := Lib.hid (by rw [hb]; exact LM6.out.below (below_drewN' _ _))
  have B7 : Hid (Below w.heap.size w w7) := Lib.hid (by rw [hb]; exact B6.out.trans (below_drewN' _ _))
  clear hb IA6 IB6 LM6 B6
  have q9 : ((v.length : Int) != (xl.length : Int)) = false := by have := hlx.out; simp; omega
  go_wp2_with fail
  clear q9 hc1
  refine (rNearest_any A (some ⟨b0, o0, none⟩) c c3 v M w7 IA7.out.1 LM7.out HV.out.1 HV.out.2.1 HV.out.2.2 (by omega) hpos).mono ?_
  rw [HNR.out]
  rintro e w8 ⟨rfl, n8, hb⟩
  have IA8 : Hid (InOk w8 (A, c, v)) := Lib.hid (by rw [hb]; exact IA7.out.below (below_drewN' _ _))
  have IB8 : Hid (InOk w8 (B, d, u)) := Lib.hid (by rw [hb]; exact IB7.out.below (below_drewN' _ _))
  have LM8 : Hid (LL w8 (some ⟨b0, o0, none⟩) M) := Lib.hid (by rw [hb]; exact LM7.out.below (below_drewN' _ _))
  have B8 : Hid (Below w.heap.size w w8) := Lib.hid (by rw [hb]; exact B7.out.trans (below_drewN' _ _))
  clear hb IA7 IB7 LM7 B7
  obtain ⟨b2, o2, eA, hb2, hc2⟩ := LM8.out.lies.lat ha
  cases eA
  have hy := LM8.out.inn _ (List.getElem_mem ha)
  have hyw := HV.out.2.1.out _ (List.getElem_mem ha)
  rw [vsOf_get ha]
  generalize hY : M[a] = Y at *
  have HY := Lib.hid hY
  clear hY
  obtain ⟨YA, Yc, yl⟩ := Y
  simp only at *
  have HYI := Lib.hid hy
  have HYW := Lib.hid hyw
  clear hy hyw
  go_wp2_with fail
  refine (rDistance_any A YA c Yc v yl w8 IA8.out.1 HYI.out.1 (Lib.hid HYW.out.1) HV.out.1 (Lib.hid HYW.out.2.2) HV.out.2.2).mono ?_
  rintro e w9 ⟨rfl, n9, hb⟩
  have IA9 : Hid (InOk w9 (A, c, v)) := Lib.hid (by rw [hb]; exact IA8.out.below (below_drewN' _ _))
  have IB9 : Hid (InOk w9 (B, d, u)) := Lib.hid (by rw [hb]; exact IB8.out.below (below_drewN' _ _))
  have LM9 : Hid (LL w9 (some ⟨b0, o0, none⟩) M) := Lib.hid (by rw [hb]; exact LM8.out.below (below_drewN' _ _))
  have B9 : Hid (Below w.heap.size w w9) := Lib.hid (by rw [hb]; exact B8.out.trans (below_drewN' _ _))
  clear hb IA8 IB8 LM8 B8
  go_wp2_with fail
  refine (hk _ (hC.below B9.out)).mono ?_
  rintro e w99 ⟨rfl, hb⟩
  go_wp2_with fail
  go_ret
  exact ⟨rfl, B9.out.trans (hb.mono B9.out.size)⟩
set_option maxRecDepth 100000 in
set_option maxHeartbeats 4000000 in
theorem FeatureNearest_nv (A B C : Option Addr) (c d c3 : Nat) (v u : List Int) (M : List Inn) (w : World) (hA : InOk w (A, c, v)) (hB : InOk w (B, d, u)) (hM : LL w C M) (hm : M.length ≤ 300) (hC : CosOk w) (hk : Kn) (h1 : v.length ≤ 70) (h2 : u.length ≤ 70) (hf : Hid (fewR (vsOf M) 40 = true)) (hv : Hid (vecOk [v, u] = false)) (h1v : Hid (vecOk [v] = false)) :
    Calls Tryd.prog 15 #[.slice A v.length c, .slice B u.length d, .slice C M.length c3] w (RetB true w) := by
  have HNB : Hid (neaR v (vsOf M) = (2, 0, 0)) := Lib.hid (nea_bad (by simpa using hm) (.inl h1v.out))
  go_enter Tryd.func15, Tryd.ntmps15
  go_wp2_with fail
  refine (few_any C c3 40 M w hM (by omega) (by omega) true hf).mono ?_
  rintro e w' ⟨rfl, rfl⟩
  go_wp2_with fail
  refine (Distance_any A B c d v u w hA hB 2 0 (Lib.hid (dis_bad hv.out))).mono ?_
  rintro e w1 ⟨rfl, hb⟩
  have IA1 : Hid (InOk w1 (A, c, v)) := Lib.hid (hA.below hb)
  have IB1 : Hid (InOk w1 (B, d, u)) := Lib.hid (hB.below hb)
  have LM1 : Hid (LL w1 C M) := Lib.hid (hM.below hb)
  have B1 : Hid (Below w.heap.size w w1) := Lib.hid (hb)
  clear hb 
  go_wp2_with fail
  obtain ⟨W2, hW⟩ : ∃ x, x = w1.alloc (.cells #[.slice A v.length c, .slice B u.length d] 22) := ⟨_, rfl⟩
  rw [← hW]
  have N2 : Hid (LL W2 (some ⟨w1.heap.size, 0, none⟩) [(A, c, v), (B, d, u)]) := Lib.hid (by rw [hW]; exact LL.two (heap_alloc_new _ _) (IA1.out.alloc _) (IB1.out.alloc _))
  have hb : Below w1.heap.size w1 W2 := by rw [hW]; exact (Below.refl _ _).alloc (Nat.le_refl _) _
  clear hW
  have IA2 : Hid (InOk W2 (A, c, v)) := Lib.hid (IA1.out.below hb)
  have IB2 : Hid (InOk W2 (B, d, u)) := Lib.hid (IB1.out.below hb)
  have LM2 : Hid (LL W2 C M) := Lib.hid (LM1.out.below hb)
  have B2 : Hid (Below w.heap.size w W2) := Lib.hid (B1.out.trans (hb.mono B1.out.size))
  clear hb IA1 IB1 LM1 B1
  refine (rVectors_two w1.heap.size A B c d v u W2 N2.out false hv).mono ?_
  rintro e w3 ⟨rfl, n3, hb⟩
  have IA3 : Hid (InOk w3 (A, c, v)) := Lib.hid (by rw [hb]; exact IA2.out.below (below_drewN' _ _))
  have IB3 : Hid (InOk w3 (B, d, u)) := Lib.hid (by rw [hb]; exact IB2.out.below (below_drewN' _ _))
  have LM3 : Hid (LL w3 C M) := Lib.hid (by rw [hb]; exact LM2.out.below (below_drewN' _ _))
  have B3 : Hid (Below w.heap.size w w3) := Lib.hid (by rw [hb]; exact B2.out.trans (below_drewN' _ _))
  clear hb IA2 IB2 LM2 B2
  go_wp2_with fail
  refine (Nearest_any A C c c3 v M w3 IA3.out LM3.out 2 (0, 0) (Lib.hid HNB.out)).mono ?_
  rintro e w4 ⟨rfl, hb⟩
  have IA4 : Hid (InOk w4 (A, c, v)) := Lib.hid (IA3.out.below hb)
  have IB4 : Hid (InOk w4 (B, d, u)) := Lib.hid (IB3.out.below hb)
  have LM4 : Hid (LL w4 C M) := Lib.hid (LM3.out.below hb)
  have B4 : Hid (Below w.heap.size w w4) := Lib.hid (B3.out.trans (hb.mono B3.out.size))
  clear hb IA3 IB3 LM3 B3
  go_wp2_with fail
  obtain ⟨W7, hW⟩ : ∃ x, x = w4.alloc (.cells #[.slice A v.length c] 22) := ⟨_, rfl⟩
  rw [← hW]
  have N7 : Hid (LL W7 (some ⟨w4.heap.size, 0, none⟩) [(A, c, v)]) := Lib.hid (by rw [hW]; exact LL.one (heap_alloc_new _ _) (IA4.out.alloc _))
  have hb : Below w4.heap.size w4 W7 := by rw [hW]; exact (Below.refl _ _).alloc (Nat.le_refl _) _
  clear hW
  have IA5 : Hid (InOk W7 (A, c, v)) := Lib.hid (IA4.out.below hb)
  have IB5 : Hid (InOk W7 (B, d, u)) := Lib.hid (IB4.out.below hb)
  have LM5 : Hid (LL W7 C M) := Lib.hid (LM4.out.below hb)
  have B5 : Hid (Below w.heap.size w W7) := Lib.hid (B4.out.trans (hb.mono B4.out.size))
  clear hb IA4 IB4 LM4 B4
  refine (rVectors_one w4.heap.size A c v W7 N7.out false h1v).mono ?_
  rintro e w6 ⟨rfl, n6, hb⟩
  have IA6 : Hid (InOk w6 (A, c, v)) := Lib.hid (by rw [hb]; exact IA5.out.below (below_drewN' _ _))
  have IB6 : Hid (InOk w6 (B, d, u)) := Lib.hid (by rw [hb]; exact IB5.out.below (below_drewN' _ _))
  have LM6 : Hid (LL w6 C M) := Lib.hid (by rw [hb]; exact LM5.out.below (below_drewN' _ _))
  have B6 : Hid (Below w.heap.size w w6) := Lib.hid (by rw [hb]; exact B5.out.trans (below_drewN' _ _))
  clear hb IA5 IB5 LM5 B5
  go_wp2_with fail
  refine (hk _ (hC.below B6.out)).mono ?_
  rintro e w99 ⟨rfl, hb⟩
  go_wp2_with fail
  go_ret
  exact ⟨rfl, B6.out.trans (hb.mono B6.out.size)⟩
set_option maxRecDepth 100000 in
set_option maxHeartbeats 4000000 in
theorem FeatureNearest_nb (A B C : Option Addr) (c d c3 : Nat) (v u : List Int) (M : List Inn) (w : World) (hA : InOk w (A, c, v)) (hB : InOk w (B, d, u)) (hM : LL w C M) (hm : M.length ≤ 300) (hC : CosOk w) (hk : Kn) (h1 : v.length ≤ 70) (h2 : u.length ≤ 70) (hf : Hid (fewR (vsOf M) 40 = true)) (hv : Hid (vecOk [v, u] = false)) (h1v : Hid (vecOk [v] = true)) (h1b : Hid (bookOk (vsOf M) = false)) :
    Calls Tryd.prog 15 #[.slice A v.length c, .slice B u.length d, .slice C M.length c3] w (RetB true w) := by
  have HNB : Hid (neaR v (vsOf M) = (2, 0, 0)) := Lib.hid (nea_bad (by simpa using hm) (.inr (.inl h1b.out)))
  go_enter Tryd.func15, Tryd.ntmps15
  go_wp2_with fail
  refine (few_any C c3 40 M w hM (by omega) (by omega) true hf).mono ?_
  rintro e w' ⟨rfl, rfl⟩
  go_wp2_with fail
  refine (Distance_any A B c d v u w hA hB 2 0 (Lib.hid (dis_bad hv.out))).mono ?_
  rintro e w1 ⟨rfl, hb⟩
  have IA1 : Hid (InOk w1 (A, c, v)) := Lib.hid (hA.below hb)
  have IB1 : Hid (InOk w1 (B, d, u)) := Lib.hid (hB.below hb)
  have LM1 : Hid (LL w1 C M) := Lib.hid (hM.below hb)
  have B1 : Hid (Below w.heap.size w w1) := Lib.hid (hb)
  clear hb 
  go_wp2_with fail
  obtain ⟨W2, hW⟩ : ∃ x, x = w1.alloc (.cells #[.slice A v.length c, .slice B u.length d] 22) := ⟨_, rfl⟩
  rw [← hW]
  have N2 : Hid (LL W2 (some ⟨w1.heap.size, 0, none⟩) [(A, c, v), (B, d, u)]) := Lib.hid (by rw [hW]; exact LL.two (heap_alloc_new _ _) (IA1.out.alloc _) (IB1.out.alloc _))
  have hb : Below w1.heap.size w1 W2 := by rw [hW]; exact (Below.refl _ _).alloc (Nat.le_refl _) _
  clear hW
  have IA2 : Hid (InOk W2 (A, c, v)) := Lib.hid (IA1.out.below hb)
  have IB2 : Hid (InOk W2 (B, d, u)) := Lib.hid (IB1.out.below hb)
  have LM2 : Hid (LL W2 C M) := Lib.hid (LM1.out.below hb)
  have B2 : Hid (Below w.heap.size w W2) := Lib.hid (B1.out.trans (hb.mono B1.out.size))
  clear hb IA1 IB1 LM1 B1
  refine (rVectors_two w1.heap.size A B c d v u W2 N2.out false hv).mono ?_
  rintro e w3 ⟨rfl, n3, hb⟩
  have IA3 : Hid (InOk w3 (A, c, v)) := Lib.hid (by rw [hb]; exact IA2.out.below (below_drewN' _ _))
  have IB3 : Hid (InOk w3 (B, d, u)) := Lib.hid (by rw [hb]; exact IB2.out.below (below_drewN' _ _))
  have LM3 : Hid (LL w3 C M) := Lib.hid (by rw [hb]; exact LM2.out.below (below_drewN' _ _))
  have B3 : Hid (Below w.heap.size w w3) := Lib.hid (by rw [hb]; exact B2.out.trans (below_drewN' _ _))
  clear hb IA2 IB2 LM2 B2
  go_wp2_with fail
  refine (Nearest_any A C c c3 v M w3 IA3.out LM3.out 2 (0, 0) (Lib.hid HNB.out)).mono ?_
  rintro e w4 ⟨rfl, hb⟩
  have IA4 : Hid (InOk w4 (A, c, v)) := Lib.hid (IA3.out.below hb)
  have IB4 : Hid (InOk w4 (B, d, u)) := Lib.hid (IB3.out.below hb)
  have LM4 : Hid (LL w4 C M) := Lib.hid (LM3.out.below hb)
  have B4 : Hid (Below w.heap.size w w4) := Lib.hid (B3.out.trans (hb.mono B3.out.size))
  clear hb IA3 IB3 LM3 B3
  go_wp2_with fail
  obtain ⟨W7, hW⟩ : ∃ x, x = w4.alloc (.cells #[.slice A v.length c] 22) := ⟨_, rfl⟩
  rw [← hW]
  have N7 : Hid (LL W7 (some ⟨w4.heap.size, 0, none⟩) [(A, c, v)]) := Lib.hid (by rw [hW]; exact LL.one (heap_alloc_new _ _) (IA4.out.alloc _))
  have hb : Below w4.heap.size w4 W7 := by rw [hW]; exact (Below.refl _ _).alloc (Nat.le_refl _) _
  clear hW
  have IA5 : Hid (InOk W7 (A, c, v)) := Lib.hid (IA4.out.below hb)
  have IB5 : Hid (InOk W7 (B, d, u)) := Lib.hid (IB4.out.below hb)
  have LM5 : Hid (LL W7 C M) := Lib.hid (LM4.out.below hb)
  have B5 : Hid (Below w.heap.size w W7) := Lib.hid (B4.out.trans (hb.mono B4.out.size))
  clear hb IA4 IB4 LM4 B4
  refine (rVectors_one w4.heap.size A c v W7 N7.out true h1v).mono ?_
  rintro e w6 ⟨rfl, n6, hb⟩
  have IA6 : Hid (InOk w6 (A, c, v)) := Lib.hid (by rw [hb]; exact IA5.out.below (below_drewN' _ _))
  have IB6 : Hid (InOk w6 (B, d, u)) := Lib.hid (by rw [hb]; exact IB5.out.below (below_drewN' _ _))
  have LM6 : Hid (LL w6 C M) := Lib.hid (by rw [hb]; exact LM5.out.below (below_drewN' _ _))
  have B6 : Hid (Below w.heap.size w w6) := Lib.hid (by rw [hb]; exact B5.out.trans (below_drewN' _ _))
  clear hb IA5 IB5 LM5 B5
  go_wp2_with fail
  refine (rBook_any C c3 M w6 LM6.out (by omega) false h1b).mono ?_
  rintro e w7 ⟨rfl, n7, hb⟩
  have IA7 : Hid (InOk w7 (A, c, v)) := Lib.hid (by rw [hb]; exact IA6.out.below (below_drewN' _ _))
  have IB7 : Hid (InOk w7 (B, d, u)) := Lib.hid (by rw [hb]; exact IB6.out.below (below_drewN' _ _))
  have LM7 : Hid (LL w7 C M) := Lib.hid (by rw [hb]; exact LM6.out.below (below_drewN' _ _))
  have B7 : Hid (Below w.heap.size w w7) := Lib.hid (by rw [hb]; exact B6.out.trans (below_drewN' _ _))
  clear hb IA6 IB6 LM6 B6
  go_wp2_with fail
  refine (hk _ (hC.below B7.out)).mono ?_
  rintro e w99 ⟨rfl, hb⟩
  go_wp2_with fail
  go_ret
  exact ⟨rfl, B7.out.trans (hb.mono B7.out.size)⟩
set_option maxRecDepth 100000 in
set_option maxHeartbeats 4000000 in
theorem FeatureNearest_nlen (A B C : Option Addr) (c d c3 : Nat) (v u : List Int) (M : List Inn) (w : World) (hA : InOk w (A, c, v)) (hB : InOk w (B, d, u)) (hM : LL w C M) (hm : M.length ≤ 300) (hC : CosOk w) (hk : Kn) (h1 : v.length ≤ 70) (h2 : u.length ≤ 70) (hf : Hid (fewR (vsOf M) 40 = true)) (hv : Hid (vecOk [v, u] = false)) (h1v : Hid (vecOk [v] = true)) (h1b : Hid (bookOk (vsOf M) = true)) (hl : v.length ≠ len0 (vsOf M)) :
    Calls Tryd.prog 15 #[.slice A v.length c, .slice B u.length d, .slice C M.length c3] w (RetB true w) := by
  have hpos : 0 < M.length := by have := (bookOk_iff.1 h1b.out).1; simp at this; omega
  have HNB : Hid (neaR v (vsOf M) = (2, 0, 0)) := Lib.hid (nea_bad (by simpa using hm) (.inr (.inr hl)))
  have hlx : Hid (v.length ≠ M[0].2.2.length) := Lib.hid (by rw [← len0_at hpos]; exact hl)
  clear hl
  go_enter Tryd.func15, Tryd.ntmps15
  go_wp2_with fail
  refine (few_any C c3 40 M w hM (by omega) (by omega) true hf).mono ?_
  rintro e w' ⟨rfl, rfl⟩
  go_wp2_with fail
  refine (Distance_any A B c d v u w hA hB 2 0 (Lib.hid (dis_bad hv.out))).mono ?_
  rintro e w1 ⟨rfl, hb⟩
  have IA1 : Hid (InOk w1 (A, c, v)) := Lib.hid (hA.below hb)
  have IB1 : Hid (InOk w1 (B, d, u)) := Lib.hid (hB.below hb)
  have LM1 : Hid (LL w1 C M) := Lib.hid (hM.below hb)
  have B1 : Hid (Below w.heap.size w w1) := Lib.hid (hb)
  clear hb 
  go_wp2_with fail
  obtain ⟨W2, hW⟩ : ∃ x, x = w1.alloc (.cells #[.slice A v.length c, .slice B u.length d] 22) := ⟨_, rfl⟩
  rw [← hW]
  have N2 : Hid (LL W2 (some ⟨w1.heap.size, 0, none⟩) [(A, c, v), (B, d, u)]) := Lib.hid (by rw [hW]; exact LL.two (heap_alloc_new _ _) (IA1.out.alloc _) (IB1.out.alloc _))
  have hb : Below w1.heap.size w1 W2 := by rw [hW]; exact (Below.refl _ _).alloc (Nat.le_refl _) _
  clear hW
  have IA2 : Hid (InOk W2 (A, c, v)) := Lib.hid (IA1.out.below hb)
  have IB2 : Hid (InOk W2 (B, d, u)) := Lib.hid (IB1.out.below hb)
  have LM2 : Hid (LL W2 C M) := Lib.hid (LM1.out.below hb)
  have B2 : Hid (Below w.heap.size w W2) := Lib.hid (B1.out.trans (hb.mono B1.out.size))
  clear hb IA1 IB1 LM1 B1
  refine (rVectors_two w1.heap.size A B c d v u W2 N2.out false hv).mono ?_
  rintro e w3 ⟨rfl, n3, hb⟩
  have IA3 : Hid (InOk w3 (A, c, v)) := Lib.hid (by rw [hb]; exact IA2.out.below (below_drewN' _ _))
  have IB3 : Hid (InOk w3 (B, d, u)) := Lib.hid (by rw [hb]; exact IB2.out.below (below_drewN' _ _))
  have LM3 : Hid (LL w3 C M) := Lib.hid (by rw [hb]; exact LM2.out.below (below_drewN' _ _))
  have B3 : Hid (Below w.heap.size w w3) := Lib.hid (by rw [hb]; exact B2.out.trans (below_drewN' _ _))
  clear hb IA2 IB2 LM2 B2
  go_wp2_with fail
  refine (Nearest_any A C c c3 v M w3 IA3.out LM3.out 2 (0, 0) (Lib.hid HNB.out)).mono ?_
  rintro e w4 ⟨rfl, hb⟩
  have IA4 : Hid (InOk w4 (A, c, v)) := Lib.hid (IA3.out.below hb)
  have IB4 : Hid (InOk w4 (B, d, u)) := Lib.hid (IB3.out.below hb)
  have LM4 : Hid (LL w4 C M) := Lib.hid (LM3.out.below hb)
  have B4 : Hid (Below w.heap.size w w4) := Lib.hid (B3.out.trans (hb.mono B3.out.size))
  clear hb IA3 IB3 LM3 B3
  go_wp2_with fail
  obtain ⟨W7, hW⟩ : ∃ x, x = w4.alloc (.cells #[.slice A v.length c] 22) := ⟨_, rfl⟩
  rw [← hW]
  have N7 : Hid (LL W7 (some ⟨w4.heap.size, 0, none⟩) [(A, c, v)]) := Lib.hid (by rw [hW]; exact LL.one (heap_alloc_new _ _) (IA4.out.alloc _))
  have hb : Below w4.heap.size w4 W7 := by rw [hW]; exact (Below.refl _ _).alloc (Nat.le_refl _) _
  clear hW
  have IA5 : Hid (InOk W7 (A, c, v)) := Lib.hid (IA4.out.below hb)
  have IB5 : Hid (InOk W7 (B, d, u)) := Lib.hid (IB4.out.below hb)
  have LM5 : Hid (LL W7 C M) := Lib.hid (LM4.out.below hb)
  have B5 : Hid (Below w.heap.size w W7) := Lib.hid (B4.out.trans (hb.mono B4.out.size))
  clear hb IA4 IB4 LM4 B4
  refine (rVectors_one w4.heap.size A c v W7 N7.out true h1v).mono ?_
  rintro e w6 ⟨rfl, n6, hb⟩
  have IA6 : Hid (InOk w6 (A, c, v)) := Lib.hid (by rw [hb]; exact IA5.out.below (below_drewN' _ _))
  have IB6 : Hid (InOk w6 (B, d, u)) := Lib.hid (by rw [hb]; exact IB5.out.below (below_drewN' _ _))
  have LM6 : Hid (LL w6 C M) := Lib.hid (by rw [hb]; exact LM5.out.below (below_drewN' _ _))
  have B6 : Hid (Below w.heap.size w w6) := Lib.hid (by rw [hb]; exact B5.out.trans (below_drewN' _ _))
  clear hb IA5 IB5 LM5 B5
  obtain ⟨b0, o0, rfl, hb0, hc0⟩ := LM6.out.lies.lat hpos
  rw [Nat.add_zero] at hc0
  generalize hX : M[0] = X at *
  have HX := Lib.hid hX
  clear hX
  obtain ⟨XA, Xc, xl⟩ := X
  simp only at hc0 hlx
  go_wp2_with fail
  refine (rBook_any (some ⟨b0, o0, none⟩) c3 M w6 LM6.out (by omega) true h1b).mono ?_
  rintro e w7 ⟨rfl, n7, hb⟩
  have hc1 : w7.cell? ⟨b0, o0, none⟩ = some (.slice XA xl.length Xc) := by rw [hb]; exact hc0
  clear hc0
  have IA7 : Hid (InOk w7 (A, c, v)) := Lib.hid (by rw [hb]; exact IA6.out.below (below_drewN' _ _))
  have IB7 : Hid (InOk w7 (B, d, u)) := Lib.hid (by rw [hb]; exact IB6.out.below (below_drewN' _ _))
  have LM7 : Hid (LL w7 (some ⟨b0, o0, none⟩) M) := Lib.hid (by rw [hb]; exact LM6.out.below (below_drewN' _ _))
  have B7 : Hid (Below w.heap.size w w7) := Lib.hid (by rw [hb]; exact B6.out.trans (below_drewN' _ _))
  clear hb IA6 IB6 LM6 B6
  have q9 : ((v.length : Int) != (xl.length : Int)) = true := by have := hlx.out; simp; omega
  go_wp2_with fail
  refine (hk _ (hC.below B7.out)).mono ?_
  rintro e w99 ⟨rfl, hb⟩
  go_wp2_with fail
  go_ret
  exact ⟨rfl, B7.out.trans (hb.mono B7.out.size)⟩
theorem FeatureNearest_any (A B C : Option Addr) (c d c3 : Nat) (v u : List Int) (M : List Inn) (w : World) (hA : InOk w (A, c, v)) (hB : InOk w (B, d, u)) (hL : Lies w C (lcs M)) (hi : ∀ x ∈ M, InOk w x) (hm : M.length ≤ 9223372036854775807) (hC : CosOk w) (hk : Kn) :
    Calls Tryd.prog 15 #[.slice A v.length c, .slice B u.length d, .slice C M.length c3] w (RetB true w) := by
  have hM : LL w C M := ⟨hL, hi⟩
  by_cases h1 : v.length ≤ 70
  · by_cases h2 : u.length ≤ 70
    · cases hf : fewR (vsOf M) 40 with
      | false =>
        by_cases h3 : M.length ≤ 300
        · exact FeatureNearest_o3 A B C c d c3 v u M w hA hB hM hm hC hk h1 h2 (Lib.hid hf) h3
        · exact FeatureNearest_o4 A B C c d c3 v u M w hA hB hM hm hC hk h1 h2 (Lib.hid hf) (by omega)
      | true =>
        by_cases h3 : M.length ≤ 300
        · cases hv : vecOk [v, u] with
          | true =>
            cases h4 : vecOk [v] with
            | false => exact FeatureNearest_dv A B C c d c3 v u M w hA hB hM h3 hC hk h1 h2 (Lib.hid hf) (Lib.hid hv) (Lib.hid h4)
            | true =>
              cases h5 : bookOk (vsOf M) with
              | false => exact FeatureNearest_db A B C c d c3 v u M w hA hB hM h3 hC hk h1 h2 (Lib.hid hf) (Lib.hid hv) (Lib.hid h4) (Lib.hid h5)
              | true =>
                by_cases h6 : v.length = len0 (vsOf M)
                · exact FeatureNearest_dok A B C c d c3 v u M w hA hB hM h3 hC hk h1 h2 (Lib.hid hf) (Lib.hid hv) (Lib.hid h4) (Lib.hid h5) h6
                · exact FeatureNearest_dlen A B C c d c3 v u M w hA hB hM h3 hC hk h1 h2 (Lib.hid hf) (Lib.hid hv) (Lib.hid h4) (Lib.hid h5) h6
          | false =>
            cases h4 : vecOk [v] with
            | false => exact FeatureNearest_nv A B C c d c3 v u M w hA hB hM h3 hC hk h1 h2 (Lib.hid hf) (Lib.hid hv) (Lib.hid h4)
            | true =>
              cases h5 : bookOk (vsOf M) with
              | false => exact FeatureNearest_nb A B C c d c3 v u M w hA hB hM h3 hC hk h1 h2 (Lib.hid hf) (Lib.hid hv) (Lib.hid h4) (Lib.hid h5)
              | true =>
                by_cases h6 : v.length = len0 (vsOf M)
                · exact FeatureNearest_nok A B C c d c3 v u M w hA hB hM h3 hC hk h1 h2 (Lib.hid hf) (Lib.hid hv) (Lib.hid h4) (Lib.hid h5) h6
                · exact FeatureNearest_nlen A B C c d c3 v u M w hA hB hM h3 hC hk h1 h2 (Lib.hid hf) (Lib.hid hv) (Lib.hid h4) (Lib.hid h5) h6
        · exact FeatureNearest_o5 A B C c d c3 v u M w hA hB hM hm hC hk h1 h2 (Lib.hid hf) (by omega)
    · exact FeatureNearest_o2 A B C c d c3 v u M w hA hB hM hm hC hk h1 (by omega)
  · exact FeatureNearest_o1 A B C c d c3 v u M w hA hB hM hm hC hk (by omega)
end Go.Proofs.YtfapmghhmkekaaaDoor
