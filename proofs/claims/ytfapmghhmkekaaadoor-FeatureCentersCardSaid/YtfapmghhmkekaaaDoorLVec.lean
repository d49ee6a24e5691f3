/- FeatureVectors: the walk (printed by vecgen.py) -/
import Derived.Test.YtfapmghhmkekaaaDoorRVec
import Derived.Test.YtfapmghhmkekaaaDoorRDif
import Derived.Test.YtfapmghhmkekaaaDoorRCen
import Derived.Test.YtfapmghhmkekaaaDoorMc
namespace Go.Proofs.YtfapmghhmkekaaaDoor
open Go.RowKit Ear

set_option maxRecDepth 100000 in
set_option maxHeartbeats 4000000 in
theorem FeatureVectors_many (A : Option Addr) (c : Nat) (L : List Inn) (w : World) (hA : LL w A L) (hn : L.length ≤ 9223372036854775807) (hC : CosOk w) (hk : Kn) (hf : Hid (fewR (vsOf L) 40 = false)) :
    Calls Tryd.prog 11 #[.slice A L.length c] w (RetB true w) := by
  go_enter Tryd.func11, Tryd.ntmps11
  go_wp2_with fail
  refine (few_any A c 40 L w hA hn (by omega) false hf).mono ?_
  rintro e w' ⟨rfl, rfl⟩
  go_wp2_with fail
  refine (hk _ hC).mono ?_
  rintro e w1 ⟨rfl, hb1⟩
  go_wp2_with fail
  go_ret
  exact ⟨rfl, hb1⟩
set_option maxRecDepth 100000 in
set_option maxHeartbeats 4000000 in
theorem FeatureVectors_bad (A : Option Addr) (c : Nat) (L : List Inn) (w : World) (hA : LL w A L) (hn : L.length ≤ 9223372036854775807) (hC : CosOk w) (hk : Kn) (hf : Hid (fewR (vsOf L) 40 = true)) (r : Int) (hr : Hid (vecR (vsOf L) = r)) (h0 : r ≠ 0) :
    Calls Tryd.prog 11 #[.slice A L.length c] w (RetB true w) := by
  go_enter Tryd.func11, Tryd.ntmps11
  go_wp2_with fail
  refine (few_any A c 40 L w hA hn (by omega) true hf).mono ?_
  rintro e w' ⟨rfl, rfl⟩
  go_wp2_with fail
  refine (Differences_any A c L w hA hn r [] (Lib.hid (by rw [difR, hr.out, if_neg h0]))).mono ?_
  rintro e w1 ⟨Ad, cd, Od, rfl, hvd, hld, hb1⟩
  have LA1 := Lib.hid (hA.below hb1)
  have LD1 := Lib.hid hld.ll
  have B1 := Lib.hid hb1
  clear hld hb1
  go_wp2_with fail
  refine (Center_any A c L w1 LA1.out hn r [] (Lib.hid (by rw [cenR, hr.out, if_neg h0]))).mono ?_
  rintro e w2 ⟨Ac, cc, Oc, rfl, hvc, hlc, hb2⟩
  have LA2 := Lib.hid (LA1.out.below hb2)
  have LD2 := Lib.hid (LD1.out.below hb2)
  have LC2 := Lib.hid hlc.ll
  have B2 := Lib.hid (B1.out.trans (hb2.mono B1.out.size))
  clear hlc hb2 LA1 LD1 B1
  have zd : Hid (Od.length = 0) := Lib.hid (by have := congrArg List.length hvd.out; simpa using this)
  clear LD2
  generalize Od.length = nd at *
  obtain rfl : nd = 0 := zd.out
  have zc : Hid (Oc.length = 0) := Lib.hid (by have := congrArg List.length hvc.out; simpa using this)
  clear LC2
  generalize Oc.length = nc at *
  obtain rfl : nc = 0 := zc.out
  have q0 : (r != 0) = true := by simpa using h0
  go_wp2_with fail
  refine (r3Wrong_any A c L w2 LA2.out hn r hr).mono ?_
  rintro e w3 ⟨rfl, n3, rfl⟩
  have B3 := Lib.hid (B2.out.trans (below_drewN' (B := w.heap.size) w2 n3))
  go_wp2_with fail
  refine (hk _ (hC.below B3.out)).mono ?_
  rintro e w9 ⟨rfl, hb9⟩
  go_wp2_with fail
  go_ret
  exact ⟨rfl, B3.out.trans (hb9.mono B3.out.size)⟩
set_option maxRecDepth 100000 in
set_option maxHeartbeats 4000000 in
theorem FeatureVectors_11 (A : Option Addr) (c : Nat) (L : List Inn) (w : World) (hA : LL w A L) (hn : L.length ≤ 9223372036854775807) (hC : CosOk w) (hk : Kn) (hf : Hid (fewR (vsOf L) 40 = true)) (h0 : Hid (vecR (vsOf L) = 0)) (hd : Hid (vecOk (difL (vsOf L)) = true)) (hc : Hid (vecOk (cenL (vsOf L)) = true)) (hd2 : Hid (vecR (difL (vsOf L)) = 0)) (hc2 : Hid (vecR (cenL (vsOf L)) = 0)) :
    Calls Tryd.prog 11 #[.slice A L.length c] w (RetB true w) := by
  go_enter Tryd.func11, Tryd.ntmps11
  go_wp2_with fail
  refine (few_any A c 40 L w hA hn (by omega) true hf).mono ?_
  rintro e w' ⟨rfl, rfl⟩
  go_wp2_with fail
  refine (Differences_any A c L w hA hn 0 (difL (vsOf L)) (Lib.hid (by rw [difR, if_pos h0.out, if_pos hd2.out]))).mono ?_
  rintro e w1 ⟨Ad, cd, Od, rfl, hvd, hld, hb1⟩
  have LA1 := Lib.hid (hA.below hb1)
  have LD1 := Lib.hid hld.ll
  have B1 := Lib.hid hb1
  clear hld hb1
  go_wp2_with fail
  refine (Center_any A c L w1 LA1.out hn 0 (cenL (vsOf L)) (Lib.hid (by rw [cenR, if_pos h0.out, if_pos hc2.out]))).mono ?_
  rintro e w2 ⟨Ac, cc, Oc, rfl, hvc, hlc, hb2⟩
  have LA2 := Lib.hid (LA1.out.below hb2)
  have LD2 := Lib.hid (LD1.out.below hb2)
  have LC2 := Lib.hid hlc.ll
  have B2 := Lib.hid (B1.out.trans (hb2.mono B1.out.size))
  clear hlc hb2 LA1 LD1 B1
  have KL : Hid (L.length ≤ 10000) := Lib.hid (by have := (vecR_ok.1 h0.out).1; simpa using this)
  go_wp2_with fail
  refine (r3Wrong_any A c L w2 LA2.out hn 0 h0).mono ?_
  rintro e w3 ⟨rfl, n3, hw3⟩
  have LA3 : Hid (LL w3 A L) := Lib.hid (by rw [hw3]; exact LA2.out.below (below_drewN' _ _))
  have LD3 : Hid (LL w3 Ad Od) := Lib.hid (by rw [hw3]; exact LD2.out.below (below_drewN' _ _))
  have LC3 : Hid (LL w3 Ac Oc) := Lib.hid (by rw [hw3]; exact LC2.out.below (below_drewN' _ _))
  have B3 : Hid (Below w.heap.size w w3) := Lib.hid (by rw [hw3]; exact B2.out.trans (below_drewN' _ _))
  clear hw3 LA2 B2
  go_wp2_with fail
  refine (rDifferences_any A c L w3 LA3.out h0).mono ?_
  rintro e w4 ⟨A1, c1, O1, rfl, hv1, hl1, hb4⟩
  have LA4 := Lib.hid (LA3.out.below hb4)
  have LD4 := Lib.hid (LD3.out.below hb4)
  have LC4 := Lib.hid (LC3.out.below hb4)
  have LX4 := Lib.hid hl1.ll
  have B4 := Lib.hid (B3.out.trans (hb4.mono B3.out.size))
  have N1 : Hid (O1.length = L.length) := Lib.hid (by have := congrArg List.length hv1.out; rw [difL_length] at this; simpa using this)
  clear hl1 hb4 LA3 B3
  go_wp2_with fail
  refine (rCenter_any A c L w4 LA4.out h0).mono ?_
  rintro e w5 ⟨A2, c2, O2, rfl, hv2, hl2, hb5⟩
  have LD5 := Lib.hid (LD4.out.below hb5)
  have LC5 := Lib.hid (LC4.out.below hb5)
  have LX5 := Lib.hid (LX4.out.below hb5)
  have LY5 := Lib.hid hl2.ll
  have B5 := Lib.hid (B4.out.trans (hb5.mono B4.out.size))
  have N2 : Hid (O2.length = L.length) := Lib.hid (by have := congrArg List.length hv2.out; rw [cenL_length] at this; simpa using this)
  clear hl2 hb5 LA4 B4
  go_wp2_with fail
  refine (rVectors_any A1 c1 O1 w5 LX5.out (by rw [N1.out]; exact hn) true (Lib.hid (by rw [hv1.out]; exact hd.out))).mono ?_
  rintro e w6 ⟨rfl, n6, hw6⟩
  have LD6 : Hid (LL w6 Ad Od) := Lib.hid (by rw [hw6]; exact LD5.out.below (below_drewN' _ _))
  have LC6 : Hid (LL w6 Ac Oc) := Lib.hid (by rw [hw6]; exact LC5.out.below (below_drewN' _ _))
  have LX6 : Hid (LL w6 A1 O1) := Lib.hid (by rw [hw6]; exact LX5.out.below (below_drewN' _ _))
  have LY6 : Hid (LL w6 A2 O2) := Lib.hid (by rw [hw6]; exact LY5.out.below (below_drewN' _ _))
  have B6 : Hid (Below w.heap.size w w6) := Lib.hid (by rw [hw6]; exact B5.out.trans (below_drewN' _ _))
  clear hw6 LX5 LY5 B5
  go_wp2_with fail
  refine (sames_b Ad A1 cd c1 Od O1 w6 LD6.out LX6.out (by have := KL.out; have := congrArg List.length (hvd.out.trans hv1.out.symm); simp at this; rw [this, N1.out]; omega) true (Lib.hid (by rw [hvd.out, hv1.out]; exact decide_eq_true rfl))).mono ?_
  rintro e w7 ⟨rfl, hb7⟩
  have LC7 := Lib.hid (LC6.out.below hb7)
  have LY7 := Lib.hid (LY6.out.below hb7)
  have B7 := Lib.hid (B6.out.trans (hb7.mono B6.out.size))
  clear hb7
  go_wp2_with fail
  refine (rVectors_any A2 c2 O2 w7 LY7.out (by rw [N2.out]; exact hn) true (Lib.hid (by rw [hv2.out]; exact hc.out))).mono ?_
  rintro e w8 ⟨rfl, n8, hw8⟩
  have LY8 : Hid (LL w8 A2 O2) := Lib.hid (by rw [hw8]; exact LY7.out.below (below_drewN' _ _))
  have B8 : Hid (Below w.heap.size w w8) := Lib.hid (by rw [hw8]; exact B7.out.trans (below_drewN' _ _))
  have LC8 : Hid (LL w8 Ac Oc) := Lib.hid (by rw [hw8]; exact LC7.out.below (below_drewN' _ _))
  clear hw8
  go_wp2_with fail
  refine (sames_b Ac A2 cc c2 Oc O2 w8 LC8.out LY8.out (by have := KL.out; have := congrArg List.length (hvc.out.trans hv2.out.symm); simp at this; rw [this, N2.out]; omega) true (Lib.hid (by rw [hvc.out, hv2.out]; exact decide_eq_true rfl))).mono ?_
  rintro e w10 ⟨rfl, hb10⟩
  have B10 := Lib.hid (B8.out.trans (hb10.mono B8.out.size))
  clear hb10
  go_wp2_with fail
  refine (hk _ (hC.below B10.out)).mono ?_
  rintro e w9 ⟨rfl, hb9⟩
  go_wp2_with fail
  go_ret
  exact ⟨rfl, B10.out.trans (hb9.mono B10.out.size)⟩
set_option maxRecDepth 100000 in
set_option maxHeartbeats 4000000 in
theorem FeatureVectors_10 (A : Option Addr) (c : Nat) (L : List Inn) (w : World) (hA : LL w A L) (hn : L.length ≤ 9223372036854775807) (hC : CosOk w) (hk : Kn) (hf : Hid (fewR (vsOf L) 40 = true)) (h0 : Hid (vecR (vsOf L) = 0)) (hd : Hid (vecOk (difL (vsOf L)) = true)) (hc : Hid (vecOk (cenL (vsOf L)) = false)) (hd2 : Hid (vecR (difL (vsOf L)) = 0)) (hc2 : Hid (vecR (cenL (vsOf L)) = 2)) :
    Calls Tryd.prog 11 #[.slice A L.length c] w (RetB true w) := by
  go_enter Tryd.func11, Tryd.ntmps11
  go_wp2_with fail
  refine (few_any A c 40 L w hA hn (by omega) true hf).mono ?_
  rintro e w' ⟨rfl, rfl⟩
  go_wp2_with fail
  refine (Differences_any A c L w hA hn 0 (difL (vsOf L)) (Lib.hid (by rw [difR, if_pos h0.out, if_pos hd2.out]))).mono ?_
  rintro e w1 ⟨Ad, cd, Od, rfl, hvd, hld, hb1⟩
  have LA1 := Lib.hid (hA.below hb1)
  have LD1 := Lib.hid hld.ll
  have B1 := Lib.hid hb1
  clear hld hb1
  go_wp2_with fail
  refine (Center_any A c L w1 LA1.out hn 2 [] (Lib.hid (by rw [cenR, if_pos h0.out, hc2.out, if_neg (by omega)]))).mono ?_
  rintro e w2 ⟨Ac, cc, Oc, rfl, hvc, hlc, hb2⟩
  have LA2 := Lib.hid (LA1.out.below hb2)
  have LD2 := Lib.hid (LD1.out.below hb2)
  have LC2 := Lib.hid hlc.ll
  have B2 := Lib.hid (B1.out.trans (hb2.mono B1.out.size))
  clear hlc hb2 LA1 LD1 B1
  have zc : Hid (Oc.length = 0) := Lib.hid (by have := congrArg List.length hvc.out; simpa using this)
  clear LC2
  generalize Oc.length = nc at *
  obtain rfl : nc = 0 := zc.out
  have KL : Hid (L.length ≤ 10000) := Lib.hid (by have := (vecR_ok.1 h0.out).1; simpa using this)
  go_wp2_with fail
  refine (r3Wrong_any A c L w2 LA2.out hn 0 h0).mono ?_
  rintro e w3 ⟨rfl, n3, hw3⟩
  have LA3 : Hid (LL w3 A L) := Lib.hid (by rw [hw3]; exact LA2.out.below (below_drewN' _ _))
  have LD3 : Hid (LL w3 Ad Od) := Lib.hid (by rw [hw3]; exact LD2.out.below (below_drewN' _ _))
  have B3 : Hid (Below w.heap.size w w3) := Lib.hid (by rw [hw3]; exact B2.out.trans (below_drewN' _ _))
  clear hw3 LA2 B2
  go_wp2_with fail
  refine (rDifferences_any A c L w3 LA3.out h0).mono ?_
  rintro e w4 ⟨A1, c1, O1, rfl, hv1, hl1, hb4⟩
  have LA4 := Lib.hid (LA3.out.below hb4)
  have LD4 := Lib.hid (LD3.out.below hb4)
  have LX4 := Lib.hid hl1.ll
  have B4 := Lib.hid (B3.out.trans (hb4.mono B3.out.size))
  have N1 : Hid (O1.length = L.length) := Lib.hid (by have := congrArg List.length hv1.out; rw [difL_length] at this; simpa using this)
  clear hl1 hb4 LA3 B3
  go_wp2_with fail
  refine (rCenter_any A c L w4 LA4.out h0).mono ?_
  rintro e w5 ⟨A2, c2, O2, rfl, hv2, hl2, hb5⟩
  have LD5 := Lib.hid (LD4.out.below hb5)
  have LX5 := Lib.hid (LX4.out.below hb5)
  have LY5 := Lib.hid hl2.ll
  have B5 := Lib.hid (B4.out.trans (hb5.mono B4.out.size))
  have N2 : Hid (O2.length = L.length) := Lib.hid (by have := congrArg List.length hv2.out; rw [cenL_length] at this; simpa using this)
  clear hl2 hb5 LA4 B4
  go_wp2_with fail
  refine (rVectors_any A1 c1 O1 w5 LX5.out (by rw [N1.out]; exact hn) true (Lib.hid (by rw [hv1.out]; exact hd.out))).mono ?_
  rintro e w6 ⟨rfl, n6, hw6⟩
  have LD6 : Hid (LL w6 Ad Od) := Lib.hid (by rw [hw6]; exact LD5.out.below (below_drewN' _ _))
  have LX6 : Hid (LL w6 A1 O1) := Lib.hid (by rw [hw6]; exact LX5.out.below (below_drewN' _ _))
  have LY6 : Hid (LL w6 A2 O2) := Lib.hid (by rw [hw6]; exact LY5.out.below (below_drewN' _ _))
  have B6 : Hid (Below w.heap.size w w6) := Lib.hid (by rw [hw6]; exact B5.out.trans (below_drewN' _ _))
  clear hw6 LX5 LY5 B5
  go_wp2_with fail
  refine (sames_b Ad A1 cd c1 Od O1 w6 LD6.out LX6.out (by have := KL.out; have := congrArg List.length (hvd.out.trans hv1.out.symm); simp at this; rw [this, N1.out]; omega) true (Lib.hid (by rw [hvd.out, hv1.out]; exact decide_eq_true rfl))).mono ?_
  rintro e w7 ⟨rfl, hb7⟩
  have LY7 := Lib.hid (LY6.out.below hb7)
  have B7 := Lib.hid (B6.out.trans (hb7.mono B6.out.size))
  clear hb7
  go_wp2_with fail
  refine (rVectors_any A2 c2 O2 w7 LY7.out (by rw [N2.out]; exact hn) false (Lib.hid (by rw [hv2.out]; exact hc.out))).mono ?_
  rintro e w8 ⟨rfl, n8, hw8⟩
  have LY8 : Hid (LL w8 A2 O2) := Lib.hid (by rw [hw8]; exact LY7.out.below (below_drewN' _ _))
  have B8 : Hid (Below w.heap.size w w8) := Lib.hid (by rw [hw8]; exact B7.out.trans (below_drewN' _ _))
  clear hw8
  go_wp2_with fail
  refine (hk _ (hC.below B8.out)).mono ?_
  rintro e w9 ⟨rfl, hb9⟩
  go_wp2_with fail
  go_ret
  exact ⟨rfl, B8.out.trans (hb9.mono B8.out.size)⟩
set_option maxRecDepth 100000 in
set_option maxHeartbeats 4000000 in
theorem FeatureVectors_01 (A : Option Addr) (c : Nat) (L : List Inn) (w : World) (hA : LL w A L) (hn : L.length ≤ 9223372036854775807) (hC : CosOk w) (hk : Kn) (hf : Hid (fewR (vsOf L) 40 = true)) (h0 : Hid (vecR (vsOf L) = 0)) (hd : Hid (vecOk (difL (vsOf L)) = false)) (hc : Hid (vecOk (cenL (vsOf L)) = true)) (hd2 : Hid (vecR (difL (vsOf L)) = 2)) (hc2 : Hid (vecR (cenL (vsOf L)) = 0)) :
    Calls Tryd.prog 11 #[.slice A L.length c] w (RetB true w) := by
  go_enter Tryd.func11, Tryd.ntmps11
  go_wp2_with fail
  refine (few_any A c 40 L w hA hn (by omega) true hf).mono ?_
  rintro e w' ⟨rfl, rfl⟩
  go_wp2_with fail
  refine (Differences_any A c L w hA hn 2 [] (Lib.hid (by rw [difR, if_pos h0.out, hd2.out, if_neg (by omega)]))).mono ?_
  rintro e w1 ⟨Ad, cd, Od, rfl, hvd, hld, hb1⟩
  have LA1 := Lib.hid (hA.below hb1)
  have LD1 := Lib.hid hld.ll
  have B1 := Lib.hid hb1
  clear hld hb1
  go_wp2_with fail
  refine (Center_any A c L w1 LA1.out hn 0 (cenL (vsOf L)) (Lib.hid (by rw [cenR, if_pos h0.out, if_pos hc2.out]))).mono ?_
  rintro e w2 ⟨Ac, cc, Oc, rfl, hvc, hlc, hb2⟩
  have LA2 := Lib.hid (LA1.out.below hb2)
  have LD2 := Lib.hid (LD1.out.below hb2)
  have LC2 := Lib.hid hlc.ll
  have B2 := Lib.hid (B1.out.trans (hb2.mono B1.out.size))
  clear hlc hb2 LA1 LD1 B1
  have zd : Hid (Od.length = 0) := Lib.hid (by have := congrArg List.length hvd.out; simpa using this)
  clear LD2
  generalize Od.length = nd at *
  obtain rfl : nd = 0 := zd.out
  have KL : Hid (L.length ≤ 10000) := Lib.hid (by have := (vecR_ok.1 h0.out).1; simpa using this)
  go_wp2_with fail
  refine (r3Wrong_any A c L w2 LA2.out hn 0 h0).mono ?_
  rintro e w3 ⟨rfl, n3, hw3⟩
  have LA3 : Hid (LL w3 A L) := Lib.hid (by rw [hw3]; exact LA2.out.below (below_drewN' _ _))
  have LC3 : Hid (LL w3 Ac Oc) := Lib.hid (by rw [hw3]; exact LC2.out.below (below_drewN' _ _))
  have B3 : Hid (Below w.heap.size w w3) := Lib.hid (by rw [hw3]; exact B2.out.trans (below_drewN' _ _))
  clear hw3 LA2 B2
  go_wp2_with fail
  refine (rDifferences_any A c L w3 LA3.out h0).mono ?_
  rintro e w4 ⟨A1, c1, O1, rfl, hv1, hl1, hb4⟩
  have LA4 := Lib.hid (LA3.out.below hb4)
  have LC4 := Lib.hid (LC3.out.below hb4)
  have LX4 := Lib.hid hl1.ll
  have B4 := Lib.hid (B3.out.trans (hb4.mono B3.out.size))
  have N1 : Hid (O1.length = L.length) := Lib.hid (by have := congrArg List.length hv1.out; rw [difL_length] at this; simpa using this)
  clear hl1 hb4 LA3 B3
  go_wp2_with fail
  refine (rCenter_any A c L w4 LA4.out h0).mono ?_
  rintro e w5 ⟨A2, c2, O2, rfl, hv2, hl2, hb5⟩
  have LC5 := Lib.hid (LC4.out.below hb5)
  have LX5 := Lib.hid (LX4.out.below hb5)
  have LY5 := Lib.hid hl2.ll
  have B5 := Lib.hid (B4.out.trans (hb5.mono B4.out.size))
  have N2 : Hid (O2.length = L.length) := Lib.hid (by have := congrArg List.length hv2.out; rw [cenL_length] at this; simpa using this)
  clear hl2 hb5 LA4 B4
  go_wp2_with fail
  refine (rVectors_any A1 c1 O1 w5 LX5.out (by rw [N1.out]; exact hn) false (Lib.hid (by rw [hv1.out]; exact hd.out))).mono ?_
  rintro e w6 ⟨rfl, n6, hw6⟩
  have LC6 : Hid (LL w6 Ac Oc) := Lib.hid (by rw [hw6]; exact LC5.out.below (below_drewN' _ _))
  have LX6 : Hid (LL w6 A1 O1) := Lib.hid (by rw [hw6]; exact LX5.out.below (below_drewN' _ _))
  have LY6 : Hid (LL w6 A2 O2) := Lib.hid (by rw [hw6]; exact LY5.out.below (below_drewN' _ _))
  have B6 : Hid (Below w.heap.size w w6) := Lib.hid (by rw [hw6]; exact B5.out.trans (below_drewN' _ _))
  clear hw6 LX5 LY5 B5
  go_wp2_with fail
  refine (rVectors_any A2 c2 O2 w6 LY6.out (by rw [N2.out]; exact hn) true (Lib.hid (by rw [hv2.out]; exact hc.out))).mono ?_
  rintro e w8 ⟨rfl, n8, hw8⟩
  have LY8 : Hid (LL w8 A2 O2) := Lib.hid (by rw [hw8]; exact LY6.out.below (below_drewN' _ _))
  have B8 : Hid (Below w.heap.size w w8) := Lib.hid (by rw [hw8]; exact B6.out.trans (below_drewN' _ _))
  have LC8 : Hid (LL w8 Ac Oc) := Lib.hid (by rw [hw8]; exact LC6.out.below (below_drewN' _ _))
  clear hw8
  go_wp2_with fail
  refine (sames_b Ac A2 cc c2 Oc O2 w8 LC8.out LY8.out (by have := KL.out; have := congrArg List.length (hvc.out.trans hv2.out.symm); simp at this; rw [this, N2.out]; omega) true (Lib.hid (by rw [hvc.out, hv2.out]; exact decide_eq_true rfl))).mono ?_
  rintro e w10 ⟨rfl, hb10⟩
  have B10 := Lib.hid (B8.out.trans (hb10.mono B8.out.size))
  clear hb10
  go_wp2_with fail
  refine (hk _ (hC.below B10.out)).mono ?_
  rintro e w9 ⟨rfl, hb9⟩
  go_wp2_with fail
  go_ret
  exact ⟨rfl, B10.out.trans (hb9.mono B10.out.size)⟩
set_option maxRecDepth 100000 in
set_option maxHeartbeats 4000000 in
theorem FeatureVectors_00 (A : Option Addr) (c : Nat) (L : List Inn) (w : World) (hA : LL w A L) (hn : L.length ≤ 9223372036854775807) (hC : CosOk w) (hk : Kn) (hf : Hid (fewR (vsOf L) 40 = true)) (h0 : Hid (vecR (vsOf L) = 0)) (hd : Hid (vecOk (difL (vsOf L)) = false)) (hc : Hid (vecOk (cenL (vsOf L)) = false)) (hd2 : Hid (vecR (difL (vsOf L)) = 2)) (hc2 : Hid (vecR (cenL (vsOf L)) = 2)) :
    Calls Tryd.prog 11 #[.slice A L.length c] w (RetB true w) := by
  go_enter Tryd.func11, Tryd.ntmps11
  go_wp2_with fail
  refine (few_any A c 40 L w hA hn (by omega) true hf).mono ?_
  rintro e w' ⟨rfl, rfl⟩
  go_wp2_with fail
  refine (Differences_any A c L w hA hn 2 [] (Lib.hid (by rw [difR, if_pos h0.out, hd2.out, if_neg (by omega)]))).mono ?_
  rintro e w1 ⟨Ad, cd, Od, rfl, hvd, hld, hb1⟩
  have LA1 := Lib.hid (hA.below hb1)
  have LD1 := Lib.hid hld.ll
  have B1 := Lib.hid hb1
  clear hld hb1
  go_wp2_with fail
  refine (Center_any A c L w1 LA1.out hn 2 [] (Lib.hid (by rw [cenR, if_pos h0.out, hc2.out, if_neg (by omega)]))).mono ?_
  rintro e w2 ⟨Ac, cc, Oc, rfl, hvc, hlc, hb2⟩
  have LA2 := Lib.hid (LA1.out.below hb2)
  have LD2 := Lib.hid (LD1.out.below hb2)
  have LC2 := Lib.hid hlc.ll
  have B2 := Lib.hid (B1.out.trans (hb2.mono B1.out.size))
  clear hlc hb2 LA1 LD1 B1
  have zd : Hid (Od.length = 0) := Lib.hid (by have := congrArg List.length hvd.out; simpa using this)
  clear LD2
  generalize Od.length = nd at *
  obtain rfl : nd = 0 := zd.out
  have zc : Hid (Oc.length = 0) := Lib.hid (by have := congrArg List.length hvc.out; simpa using this)
  clear LC2
  generalize Oc.length = nc at *
  obtain rfl : nc = 0 := zc.out
  have KL : Hid (L.length ≤ 10000) := Lib.hid (by have := (vecR_ok.1 h0.out).1; simpa using this)
  go_wp2_with fail
  refine (r3Wrong_any A c L w2 LA2.out hn 0 h0).mono ?_
  rintro e w3 ⟨rfl, n3, hw3⟩
  have LA3 : Hid (LL w3 A L) := Lib.hid (by rw [hw3]; exact LA2.out.below (below_drewN' _ _))
  have B3 : Hid (Below w.heap.size w w3) := Lib.hid (by rw [hw3]; exact B2.out.trans (below_drewN' _ _))
  clear hw3 LA2 B2
  go_wp2_with fail
  refine (rDifferences_any A c L w3 LA3.out h0).mono ?_
  rintro e w4 ⟨A1, c1, O1, rfl, hv1, hl1, hb4⟩
  have LA4 := Lib.hid (LA3.out.below hb4)
  have LX4 := Lib.hid hl1.ll
  have B4 := Lib.hid (B3.out.trans (hb4.mono B3.out.size))
  have N1 : Hid (O1.length = L.length) := Lib.hid (by have := congrArg List.length hv1.out; rw [difL_length] at this; simpa using this)
  clear hl1 hb4 LA3 B3
  go_wp2_with fail
  refine (rCenter_any A c L w4 LA4.out h0).mono ?_
  rintro e w5 ⟨A2, c2, O2, rfl, hv2, hl2, hb5⟩
  have LX5 := Lib.hid (LX4.out.below hb5)
  have LY5 := Lib.hid hl2.ll
  have B5 := Lib.hid (B4.out.trans (hb5.mono B4.out.size))
  have N2 : Hid (O2.length = L.length) := Lib.hid (by have := congrArg List.length hv2.out; rw [cenL_length] at this; simpa using this)
  clear hl2 hb5 LA4 B4
  go_wp2_with fail
  refine (rVectors_any A1 c1 O1 w5 LX5.out (by rw [N1.out]; exact hn) false (Lib.hid (by rw [hv1.out]; exact hd.out))).mono ?_
  rintro e w6 ⟨rfl, n6, hw6⟩
  have LX6 : Hid (LL w6 A1 O1) := Lib.hid (by rw [hw6]; exact LX5.out.below (below_drewN' _ _))
  have LY6 : Hid (LL w6 A2 O2) := Lib.hid (by rw [hw6]; exact LY5.out.below (below_drewN' _ _))
  have B6 : Hid (Below w.heap.size w w6) := Lib.hid (by rw [hw6]; exact B5.out.trans (below_drewN' _ _))
  clear hw6 LX5 LY5 B5
  go_wp2_with fail
  refine (rVectors_any A2 c2 O2 w6 LY6.out (by rw [N2.out]; exact hn) false (Lib.hid (by rw [hv2.out]; exact hc.out))).mono ?_
  rintro e w8 ⟨rfl, n8, hw8⟩
  have LY8 : Hid (LL w8 A2 O2) := Lib.hid (by rw [hw8]; exact LY6.out.below (below_drewN' _ _))
  have B8 : Hid (Below w.heap.size w w8) := Lib.hid (by rw [hw8]; exact B6.out.trans (below_drewN' _ _))
  clear hw8
  go_wp2_with fail
  refine (hk _ (hC.below B8.out)).mono ?_
  rintro e w9 ⟨rfl, hb9⟩
  go_wp2_with fail
  go_ret
  exact ⟨rfl, B8.out.trans (hb9.mono B8.out.size)⟩
theorem vecR_two {vs : List (List Int)} (hl : vs.length ≤ 10000) (h : vecOk vs = false) : vecR vs = 2 := by
  rw [vecR, if_neg (by omega), h, if_neg (by simp)]
theorem FeatureVectors_any (A : Option Addr) (c : Nat) (L : List Inn) (w : World) (hL : Lies w A (lcs L)) (hi : ∀ x ∈ L, InOk w x) (hn : L.length ≤ 9223372036854775807) (hC : CosOk w) (hk : Kn) :
    Calls Tryd.prog 11 #[.slice A L.length c] w (RetB true w) := by
  have hA : LL w A L := ⟨hL, hi⟩
  cases hf : fewR (vsOf L) 40 with
  | false => exact FeatureVectors_many A c L w hA hn hC hk (Lib.hid hf)
  | true =>
    by_cases h0 : vecR (vsOf L) = 0
    · have hl := (vecR_ok.1 h0).1
      have hld : (difL (vsOf L)).length ≤ 10000 := by rw [difL_length]; exact hl
      have hlc : (cenL (vsOf L)).length ≤ 10000 := by rw [cenL_length]; exact hl
      cases hd : vecOk (difL (vsOf L)) with
      | true =>
        cases hc : vecOk (cenL (vsOf L)) with
        | true => exact FeatureVectors_11 A c L w hA hn hC hk (Lib.hid hf) (Lib.hid h0) (Lib.hid hd) (Lib.hid hc) (Lib.hid (vecR_ok.2 ⟨hld, hd⟩)) (Lib.hid (vecR_ok.2 ⟨hlc, hc⟩))
        | false => exact FeatureVectors_10 A c L w hA hn hC hk (Lib.hid hf) (Lib.hid h0) (Lib.hid hd) (Lib.hid hc) (Lib.hid (vecR_ok.2 ⟨hld, hd⟩)) (Lib.hid (vecR_two hlc hc))
      | false =>
        cases hc : vecOk (cenL (vsOf L)) with
        | true => exact FeatureVectors_01 A c L w hA hn hC hk (Lib.hid hf) (Lib.hid h0) (Lib.hid hd) (Lib.hid hc) (Lib.hid (vecR_two hld hd)) (Lib.hid (vecR_ok.2 ⟨hlc, hc⟩))
        | false => exact FeatureVectors_00 A c L w hA hn hC hk (Lib.hid hf) (Lib.hid h0) (Lib.hid hd) (Lib.hid hc) (Lib.hid (vecR_two hld hd)) (Lib.hid (vecR_two hlc hc))
    · exact FeatureVectors_bad A c L w hA hn hC hk (Lib.hid hf) _ (Lib.hid rfl) h0
end Go.Proofs.YtfapmghhmkekaaaDoor
