/- FeatureImproves: the walk -/
import Derived.Test.YtfapmghhmkekaaaDoorLQua
import Derived.Test.YtfapmghhmkekaaaDoorQTrn
import Derived.Test.YtfapmghhmkekaaaDoorRTrn
namespace Go.Proofs.YtfapmghhmkekaaaDoor
open Go.RowKit Ear
set_option linter.unusedVariables false
set_option maxRecDepth 100000 in
set_option maxHeartbeats 4000000 in
theorem FeatureImproves_o1 (A B : Option Addr) (c d : Nat) (L M : List Inn) (r : Int) (w : World) (hA : LL w A L) (hB : LL w B M) (hn : L.length ≤ 9223372036854775807) (hm : M.length ≤ 9223372036854775807) (hC : CosOk w) (hk : Kn) (hf : Hid (fewR (vsOf L) 30 = false)) :
    Calls Tryd.prog 17 #[.slice A L.length c, .slice B M.length d, .int .i64 r] w (RetB true w) := by
  go_enter Tryd.func17, Tryd.ntmps17
  go_wp2_with fail
  refine (few_any A c 30 L w hA (by omega) (by omega) false hf).mono ?_
  rintro e w' ⟨rfl, rfl⟩
  go_wp2_with fail
  refine (hk _ hC).mono ?_
  rintro e w99 ⟨rfl, hb⟩
  go_wp2_with fail
  go_ret
  exact ⟨rfl, hb⟩
set_option maxRecDepth 100000 in
set_option maxHeartbeats 4000000 in
theorem FeatureImproves_o2 (A B : Option Addr) (c d : Nat) (L M : List Inn) (r : Int) (w : World) (hA : LL w A L) (hB : LL w B M) (hn : L.length ≤ 9223372036854775807) (hm : M.length ≤ 9223372036854775807) (hC : CosOk w) (hk : Kn) (hf : Hid (fewR (vsOf L) 30 = true)) (hg : Hid (fewR (vsOf M) 12 = false)) :
    Calls Tryd.prog 17 #[.slice A L.length c, .slice B M.length d, .int .i64 r] w (RetB true w) := by
  go_enter Tryd.func17, Tryd.ntmps17
  go_wp2_with fail
  refine (few_any A c 30 L w hA (by omega) (by omega) true hf).mono ?_
  rintro e w' ⟨rfl, rfl⟩
  go_wp2_with fail
  refine (few_any B d 12 M w hB (by omega) (by omega) false hg).mono ?_
  rintro e w' ⟨rfl, rfl⟩
  go_wp2_with fail
  refine (hk _ hC).mono ?_
  rintro e w99 ⟨rfl, hb⟩
  go_wp2_with fail
  go_ret
  exact ⟨rfl, hb⟩
set_option maxRecDepth 100000 in
set_option maxHeartbeats 4000000 in
theorem FeatureImproves_o3 (A B : Option Addr) (c d : Nat) (L M : List Inn) (r : Int) (w : World) (hA : LL w A L) (hB : LL w B M) (hn : L.length ≤ 9223372036854775807) (hm : M.length ≤ 9223372036854775807) (hC : CosOk w) (hk : Kn) (hf : Hid (fewR (vsOf L) 30 = true)) (hg : Hid (fewR (vsOf M) 12 = true)) (h12 : 12 < M.length) :
    Calls Tryd.prog 17 #[.slice A L.length c, .slice B M.length d, .int .i64 r] w (RetB true w) := by
  go_enter Tryd.func17, Tryd.ntmps17
  go_wp2_with fail
  refine (few_any A c 30 L w hA (by omega) (by omega) true hf).mono ?_
  rintro e w' ⟨rfl, rfl⟩
  go_wp2_with fail
  refine (few_any B d 12 M w hB (by omega) (by omega) true hg).mono ?_
  rintro e w' ⟨rfl, rfl⟩
  go_wp2_with fail
  refine (hk _ hC).mono ?_
  rintro e w99 ⟨rfl, hb⟩
  go_wp2_with fail
  go_ret
  exact ⟨rfl, hb⟩
set_option maxRecDepth 100000 in
set_option maxHeartbeats 4000000 in
theorem FeatureImproves_o4 (A B : Option Addr) (c d : Nat) (L M : List Inn) (r : Int) (w : World) (hA : LL w A L) (hB : LL w B M) (hn : L.length ≤ 9223372036854775807) (hm : M.length ≤ 12) (hC : CosOk w) (hk : Kn) (hf : Hid (fewR (vsOf L) 30 = true)) (hg : Hid (fewR (vsOf M) 12 = true)) (h1 : 20 < r) (h2 : r ≤ 1000) :
    Calls Tryd.prog 17 #[.slice A L.length c, .slice B M.length d, .int .i64 r] w (RetB true w) := by
  go_enter Tryd.func17, Tryd.ntmps17
  go_wp2_with fail
  refine (few_any A c 30 L w hA (by omega) (by omega) true hf).mono ?_
  rintro e w' ⟨rfl, rfl⟩
  go_wp2_with fail
  refine (few_any B d 12 M w hB (by omega) (by omega) true hg).mono ?_
  rintro e w' ⟨rfl, rfl⟩
  go_wp2_with fail
  refine (hk _ hC).mono ?_
  rintro e w99 ⟨rfl, hb⟩
  go_wp2_with fail
  go_ret
  exact ⟨rfl, hb⟩
set_option maxRecDepth 100000 in
set_option maxHeartbeats 4000000 in
theorem FeatureImproves_bada (A B : Option Addr) (c d : Nat) (L M : List Inn) (r : Int) (w : World) (hA : LL w A L) (hB : LL w B M) (hn : L.length ≤ 9223372036854775807) (hm : M.length ≤ 12) (hC : CosOk w) (hk : Kn) (hf : Hid (fewR (vsOf L) 30 = true)) (hg : Hid (fewR (vsOf M) 12 = true)) (e0 : Int) (hr : Hid (fitR (vsOf L) (vsOf M) = e0)) (h0 : e0 ≠ 0) (hc : r ≤ 20) :
    Calls Tryd.prog 17 #[.slice A L.length c, .slice B M.length d, .int .i64 r] w (RetB true w) := by
  have q0 : (e0 != 0) = true := by simpa using h0
  go_enter Tryd.func17, Tryd.ntmps17
  go_wp2_with fail
  refine (few_any A c 30 L w hA (by omega) (by omega) true hf).mono ?_
  rintro e w' ⟨rfl, rfl⟩
  go_wp2_with fail
  refine (few_any B d 12 M w hB (by omega) (by omega) true hg).mono ?_
  rintro e w' ⟨rfl, rfl⟩
  go_wp2_with fail
  refine (Improve_any A B c d L M w hA hB e0 [] (Lib.hid (by rw [impR, hr.out, if_neg h0]))).mono ?_
  rintro e w1 ⟨PA1, Pc1, PO1, rfl, hv1, -, hb⟩
  have LA1 : Hid (LL w1 A L) := Lib.hid (hA.below hb)
  have LB1 : Hid (LL w1 B M) := Lib.hid (hB.below hb)
  have B1 : Hid (Below w.heap.size w w1) := Lib.hid (hb)
  clear hb 
  have HZ1 : Hid (PO1.length = 0) := Lib.hid (by have := congrArg List.length hv1.out; simpa using this)
  clear hv1
  go_wp2_with fail
  refine (Train_any A B c d L M r w1 LA1.out LB1.out e0 0 [] (Lib.hid (by rw [trnR, hr.out, if_neg h0]))).mono ?_
  rintro e w2 ⟨PA2, Pc2, PO2, rfl, hv2, -, hb⟩
  have LA2 : Hid (LL w2 A L) := Lib.hid (LA1.out.below hb)
  have LB2 : Hid (LL w2 B M) := Lib.hid (LB1.out.below hb)
  have B2 : Hid (Below w.heap.size w w2) := Lib.hid (B1.out.trans (hb.mono B1.out.size))
  clear hb LA1 LB1 B1
  have HZ2 : Hid (PO2.length = 0) := Lib.hid (by have := congrArg List.length hv2.out; simpa using this)
  clear hv2
  go_wp2_with fail
  refine (rFits_any A B c d L M w2 LA2.out LB2.out hn (by omega) e0 hr).mono ?_
  rintro e w3 ⟨rfl, n3, hb⟩
  have LA3 : Hid (LL w3 A L) := Lib.hid (by rw [hb]; exact LA2.out.below (below_drewN' _ _))
  have LB3 : Hid (LL w3 B M) := Lib.hid (by rw [hb]; exact LB2.out.below (below_drewN' _ _))
  have B3 : Hid (Below w.heap.size w w3) := Lib.hid (by rw [hb]; exact B2.out.trans (below_drewN' _ _))
  clear hb LA2 LB2 B2
  have hz1 := HZ1.out
  have hz2 := HZ2.out
  clear HZ1 HZ2
  generalize PO1.length = n1 at *
  generalize PO2.length = n2 at *
  subst hz1 hz2
  go_wp2_with fail
  refine (hk _ (hC.below B3.out)).mono ?_
  rintro e w99 ⟨rfl, hb⟩
  go_wp2_with fail
  go_ret
  exact ⟨rfl, B3.out.trans (hb.mono B3.out.size)⟩
set_option maxRecDepth 100000 in
set_option maxHeartbeats 4000000 in
theorem FeatureImproves_badb (A B : Option Addr) (c d : Nat) (L M : List Inn) (r : Int) (w : World) (hA : LL w A L) (hB : LL w B M) (hn : L.length ≤ 9223372036854775807) (hm : M.length ≤ 12) (hC : CosOk w) (hk : Kn) (hf : Hid (fewR (vsOf L) 30 = true)) (hg : Hid (fewR (vsOf M) 12 = true)) (e0 : Int) (hr : Hid (fitR (vsOf L) (vsOf M) = e0)) (h0 : e0 ≠ 0) (hc : 1000 < r) :
    Calls Tryd.prog 17 #[.slice A L.length c, .slice B M.length d, .int .i64 r] w (RetB true w) := by
  have q0 : (e0 != 0) = true := by simpa using h0
  go_enter Tryd.func17, Tryd.ntmps17
  go_wp2_with fail
  refine (few_any A c 30 L w hA (by omega) (by omega) true hf).mono ?_
  rintro e w' ⟨rfl, rfl⟩
  go_wp2_with fail
  refine (few_any B d 12 M w hB (by omega) (by omega) true hg).mono ?_
  rintro e w' ⟨rfl, rfl⟩
  go_wp2_with fail
  refine (Improve_any A B c d L M w hA hB e0 [] (Lib.hid (by rw [impR, hr.out, if_neg h0]))).mono ?_
  rintro e w1 ⟨PA1, Pc1, PO1, rfl, hv1, -, hb⟩
  have LA1 : Hid (LL w1 A L) := Lib.hid (hA.below hb)
  have LB1 : Hid (LL w1 B M) := Lib.hid (hB.below hb)
  have B1 : Hid (Below w.heap.size w w1) := Lib.hid (hb)
  clear hb 
  have HZ1 : Hid (PO1.length = 0) := Lib.hid (by have := congrArg List.length hv1.out; simpa using this)
  clear hv1
  go_wp2_with fail
  refine (Train_any A B c d L M r w1 LA1.out LB1.out e0 0 [] (Lib.hid (by rw [trnR, hr.out, if_neg h0]))).mono ?_
  rintro e w2 ⟨PA2, Pc2, PO2, rfl, hv2, -, hb⟩
  have LA2 : Hid (LL w2 A L) := Lib.hid (LA1.out.below hb)
  have LB2 : Hid (LL w2 B M) := Lib.hid (LB1.out.below hb)
  have B2 : Hid (Below w.heap.size w w2) := Lib.hid (B1.out.trans (hb.mono B1.out.size))
  clear hb LA1 LB1 B1
  have HZ2 : Hid (PO2.length = 0) := Lib.hid (by have := congrArg List.length hv2.out; simpa using this)
  clear hv2
  go_wp2_with fail
  refine (rFits_any A B c d L M w2 LA2.out LB2.out hn (by omega) e0 hr).mono ?_
  rintro e w3 ⟨rfl, n3, hb⟩
  have LA3 : Hid (LL w3 A L) := Lib.hid (by rw [hb]; exact LA2.out.below (below_drewN' _ _))
  have LB3 : Hid (LL w3 B M) := Lib.hid (by rw [hb]; exact LB2.out.below (below_drewN' _ _))
  have B3 : Hid (Below w.heap.size w w3) := Lib.hid (by rw [hb]; exact B2.out.trans (below_drewN' _ _))
  clear hb LA2 LB2 B2
  have hz1 := HZ1.out
  have hz2 := HZ2.out
  clear HZ1 HZ2
  generalize PO1.length = n1 at *
  generalize PO2.length = n2 at *
  subst hz1 hz2
  go_wp2_with fail
  refine (hk _ (hC.below B3.out)).mono ?_
  rintro e w99 ⟨rfl, hb⟩
  go_wp2_with fail
  go_ret
  exact ⟨rfl, B3.out.trans (hb.mono B3.out.size)⟩
set_option maxRecDepth 100000 in
set_option maxHeartbeats 4000000 in
theorem FeatureImproves_neg (A B : Option Addr) (c d : Nat) (L M : List Inn) (r : Int) (w : World) (hA : LL w A L) (hB : LL w B M) (hn : L.length ≤ 10000) (hm : M.length ≤ 12) (hC : CosOk w) (hk : Kn) (hf : Hid (fewR (vsOf L) 30 = true)) (hg : Hid (fewR (vsOf M) 12 = true)) (hr : Hid (fitR (vsOf L) (vsOf M) = 0)) (h1 : r < 0) :
    Calls Tryd.prog 17 #[.slice A L.length c, .slice B M.length d, .int .i64 r] w (RetB true w) := by
  go_enter Tryd.func17, Tryd.ntmps17
  go_wp2_with fail
  refine (few_any A c 30 L w hA (by omega) (by omega) true hf).mono ?_
  rintro e w' ⟨rfl, rfl⟩
  go_wp2_with fail
  refine (few_any B d 12 M w hB (by omega) (by omega) true hg).mono ?_
  rintro e w' ⟨rfl, rfl⟩
  go_wp2_with fail
  refine (Improve_any A B c d L M w hA hB 0 (impL (vsOf L) (vsOf M)) (Lib.hid (by rw [impR, if_pos hr.out]))).mono ?_
  rintro e w1 ⟨PA1, Pc1, PO1, rfl, hv1, hl, hb⟩
  have LA1 : Hid (LL w1 A L) := Lib.hid (hA.below hb)
  have LB1 : Hid (LL w1 B M) := Lib.hid (hB.below hb)
  have B1 : Hid (Below w.heap.size w w1) := Lib.hid (hb)
  clear hb 
  have O1 : Hid (LL w1 PA1 PO1) := Lib.hid hl.ll
  clear hl
  have HN1 : Hid (PO1.length ≤ 1000000) := Lib.hid (by have := congrArg List.length hv1.out; simp [impL_length] at this; omega)
  go_wp2_with fail
  refine (Train_any A B c d L M r w1 LA1.out LB1.out 2 0 [] (Lib.hid (by rw [trnR, if_pos hr.out, if_neg (by omega)]))).mono ?_
  rintro e w2 ⟨PA2, Pc2, PO2, rfl, hv2, -, hb⟩
  have LA2 : Hid (LL w2 A L) := Lib.hid (LA1.out.below hb)
  have LB2 : Hid (LL w2 B M) := Lib.hid (LB1.out.below hb)
  have S2 : Hid (LL w2 PA1 PO1) := Lib.hid (O1.out.below hb)
  have B2 : Hid (Below w.heap.size w w2) := Lib.hid (B1.out.trans (hb.mono B1.out.size))
  clear hb LA1 LB1 O1 B1
  have hz2 : PO2.length = 0 := by have := congrArg List.length hv2.out; simpa using this
  clear hv2
  generalize PO2.length = n2 at *
  subst hz2
  go_wp2_with fail
  refine (rFits_any A B c d L M w2 LA2.out LB2.out (by omega) (by omega) 0 hr).mono ?_
  rintro e w3 ⟨rfl, n3, hb⟩
  have LA3 : Hid (LL w3 A L) := Lib.hid (by rw [hb]; exact LA2.out.below (below_drewN' _ _))
  have LB3 : Hid (LL w3 B M) := Lib.hid (by rw [hb]; exact LB2.out.below (below_drewN' _ _))
  have S3 : Hid (LL w3 PA1 PO1) := Lib.hid (by rw [hb]; exact S2.out.below (below_drewN' _ _))
  have B3 : Hid (Below w.heap.size w w3) := Lib.hid (by rw [hb]; exact B2.out.trans (below_drewN' _ _))
  clear hb LA2 LB2 S2 B2
  go_wp2_with fail
  refine (rImprove_any A B c d L M w3 LA3.out LB3.out hr).mono ?_
  rintro e w4 ⟨PA4, Pc4, PO4, rfl, hv4, hl, hb⟩
  have LA4 : Hid (LL w4 A L) := Lib.hid (LA3.out.below hb)
  have LB4 : Hid (LL w4 B M) := Lib.hid (LB3.out.below hb)
  have S4 : Hid (LL w4 PA1 PO1) := Lib.hid (S3.out.below hb)
  have B4 : Hid (Below w.heap.size w w4) := Lib.hid (B3.out.trans (hb.mono B3.out.size))
  clear hb LA3 LB3 S3 B3
  have O4 : Hid (LL w4 PA4 PO4) := Lib.hid hl.ll
  clear hl
  go_wp2_with fail
  refine (sames_b PA1 PA4 Pc1 Pc4 PO1 PO4 w4 S4.out O4.out HN1.out true (Lib.hid (decide_eq_true (by rw [hv1.out, hv4.out])))).mono ?_
  rintro e w5 ⟨rfl, hb⟩
  have LA5 : Hid (LL w5 A L) := Lib.hid (LA4.out.below hb)
  have LB5 : Hid (LL w5 B M) := Lib.hid (LB4.out.below hb)
  have S5 : Hid (LL w5 PA1 PO1) := Lib.hid (S4.out.below hb)
  have U5 : Hid (LL w5 PA4 PO4) := Lib.hid (O4.out.below hb)
  have B5 : Hid (Below w.heap.size w w5) := Lib.hid (B4.out.trans (hb.mono B4.out.size))
  clear hb LA4 LB4 S4 O4 B4
  go_wp2_with fail
  refine (hk _ (hC.below B5.out)).mono ?_
  rintro e w99 ⟨rfl, hb⟩
  go_wp2_with fail
  go_ret
  exact ⟨rfl, B5.out.trans (hb.mono B5.out.size)⟩
set_option maxRecDepth 100000 in
set_option maxHeartbeats 4000000 in
theorem FeatureImproves_big (A B : Option Addr) (c d : Nat) (L M : List Inn) (r : Int) (w : World) (hA : LL w A L) (hB : LL w B M) (hn : L.length ≤ 10000) (hm : M.length ≤ 12) (hC : CosOk w) (hk : Kn) (hf : Hid (fewR (vsOf L) 30 = true)) (hg : Hid (fewR (vsOf M) 12 = true)) (hr : Hid (fitR (vsOf L) (vsOf M) = 0)) (h1 : 1000 < r) :
    Calls Tryd.prog 17 #[.slice A L.length c, .slice B M.length d, .int .i64 r] w (RetB true w) := by
  go_enter Tryd.func17, Tryd.ntmps17
  go_wp2_with fail
  refine (few_any A c 30 L w hA (by omega) (by omega) true hf).mono ?_
  rintro e w' ⟨rfl, rfl⟩
  go_wp2_with fail
  refine (few_any B d 12 M w hB (by omega) (by omega) true hg).mono ?_
  rintro e w' ⟨rfl, rfl⟩
  go_wp2_with fail
  refine (Improve_any A B c d L M w hA hB 0 (impL (vsOf L) (vsOf M)) (Lib.hid (by rw [impR, if_pos hr.out]))).mono ?_
  rintro e w1 ⟨PA1, Pc1, PO1, rfl, hv1, hl, hb⟩
  have LA1 : Hid (LL w1 A L) := Lib.hid (hA.below hb)
  have LB1 : Hid (LL w1 B M) := Lib.hid (hB.below hb)
  have B1 : Hid (Below w.heap.size w w1) := Lib.hid (hb)
  clear hb 
  have O1 : Hid (LL w1 PA1 PO1) := Lib.hid hl.ll
  clear hl
  have HN1 : Hid (PO1.length ≤ 1000000) := Lib.hid (by have := congrArg List.length hv1.out; simp [impL_length] at this; omega)
  go_wp2_with fail
  refine (Train_any A B c d L M r w1 LA1.out LB1.out 2 0 [] (Lib.hid (by rw [trnR, if_pos hr.out, if_neg (by omega)]))).mono ?_
  rintro e w2 ⟨PA2, Pc2, PO2, rfl, hv2, -, hb⟩
  have LA2 : Hid (LL w2 A L) := Lib.hid (LA1.out.below hb)
  have LB2 : Hid (LL w2 B M) := Lib.hid (LB1.out.below hb)
  have S2 : Hid (LL w2 PA1 PO1) := Lib.hid (O1.out.below hb)
  have B2 : Hid (Below w.heap.size w w2) := Lib.hid (B1.out.trans (hb.mono B1.out.size))
  clear hb LA1 LB1 O1 B1
  have hz2 : PO2.length = 0 := by have := congrArg List.length hv2.out; simpa using this
  clear hv2
  generalize PO2.length = n2 at *
  subst hz2
  go_wp2_with fail
  refine (rFits_any A B c d L M w2 LA2.out LB2.out (by omega) (by omega) 0 hr).mono ?_
  rintro e w3 ⟨rfl, n3, hb⟩
  have LA3 : Hid (LL w3 A L) := Lib.hid (by rw [hb]; exact LA2.out.below (below_drewN' _ _))
  have LB3 : Hid (LL w3 B M) := Lib.hid (by rw [hb]; exact LB2.out.below (below_drewN' _ _))
  have S3 : Hid (LL w3 PA1 PO1) := Lib.hid (by rw [hb]; exact S2.out.below (below_drewN' _ _))
  have B3 : Hid (Below w.heap.size w w3) := Lib.hid (by rw [hb]; exact B2.out.trans (below_drewN' _ _))
  clear hb LA2 LB2 S2 B2
  go_wp2_with fail
  refine (rImprove_any A B c d L M w3 LA3.out LB3.out hr).mono ?_
  rintro e w4 ⟨PA4, Pc4, PO4, rfl, hv4, hl, hb⟩
  have LA4 : Hid (LL w4 A L) := Lib.hid (LA3.out.below hb)
  have LB4 : Hid (LL w4 B M) := Lib.hid (LB3.out.below hb)
  have S4 : Hid (LL w4 PA1 PO1) := Lib.hid (S3.out.below hb)
  have B4 : Hid (Below w.heap.size w w4) := Lib.hid (B3.out.trans (hb.mono B3.out.size))
  clear hb LA3 LB3 S3 B3
  have O4 : Hid (LL w4 PA4 PO4) := Lib.hid hl.ll
  clear hl
  go_wp2_with fail
  refine (sames_b PA1 PA4 Pc1 Pc4 PO1 PO4 w4 S4.out O4.out HN1.out true (Lib.hid (decide_eq_true (by rw [hv1.out, hv4.out])))).mono ?_
  rintro e w5 ⟨rfl, hb⟩
  have LA5 : Hid (LL w5 A L) := Lib.hid (LA4.out.below hb)
  have LB5 : Hid (LL w5 B M) := Lib.hid (LB4.out.below hb)
  have S5 : Hid (LL w5 PA1 PO1) := Lib.hid (S4.out.below hb)
  have U5 : Hid (LL w5 PA4 PO4) := Lib.hid (O4.out.below hb)
  have B5 : Hid (Below w.heap.size w w5) := Lib.hid (B4.out.trans (hb.mono B4.out.size))
  clear hb LA4 LB4 S4 O4 B4
  go_wp2_with fail
  refine (hk _ (hC.below B5.out)).mono ?_
  rintro e w99 ⟨rfl, hb⟩
  go_wp2_with fail
  go_ret
  exact ⟨rfl, B5.out.trans (hb.mono B5.out.size)⟩
set_option maxRecDepth 100000 in
set_option maxHeartbeats 4000000 in
theorem FeatureImproves_ok (A B : Option Addr) (c d : Nat) (L M : List Inn) (r : Int) (w : World) (hA : LL w A L) (hB : LL w B M) (hn : L.length ≤ 10000) (hm : M.length ≤ 12) (hC : CosOk w) (hk : Kn) (hf : Hid (fewR (vsOf L) 30 = true)) (hg : Hid (fewR (vsOf M) 12 = true)) (hr : Hid (fitR (vsOf L) (vsOf M) = 0)) (h1 : 0 ≤ r) (h2 : r ≤ 20) :
    Calls Tryd.prog 17 #[.slice A L.length c, .slice B M.length d, .int .i64 r] w (RetB true w) := by
  go_enter Tryd.func17, Tryd.ntmps17
  go_wp2_with fail
  refine (few_any A c 30 L w hA (by omega) (by omega) true hf).mono ?_
  rintro e w' ⟨rfl, rfl⟩
  go_wp2_with fail
  refine (few_any B d 12 M w hB (by omega) (by omega) true hg).mono ?_
  rintro e w' ⟨rfl, rfl⟩
  go_wp2_with fail
  refine (Improve_any A B c d L M w hA hB 0 (impL (vsOf L) (vsOf M)) (Lib.hid (by rw [impR, if_pos hr.out]))).mono ?_
  rintro e w1 ⟨PA1, Pc1, PO1, rfl, hv1, hl, hb⟩
  have LA1 : Hid (LL w1 A L) := Lib.hid (hA.below hb)
  have LB1 : Hid (LL w1 B M) := Lib.hid (hB.below hb)
  have B1 : Hid (Below w.heap.size w w1) := Lib.hid (hb)
  clear hb 
  have O1 : Hid (LL w1 PA1 PO1) := Lib.hid hl.ll
  clear hl
  have HN1 : Hid (PO1.length ≤ 1000000) := Lib.hid (by have := congrArg List.length hv1.out; simp [impL_length] at this; omega)
  go_wp2_with fail
  refine (Train_any A B c d L M r w1 LA1.out LB1.out 0 (trn (vsOf L) r.toNat (vsOf M)).2 (trn (vsOf L) r.toNat (vsOf M)).1 (Lib.hid (by rw [trnR, if_pos hr.out, if_pos ⟨h1, by omega⟩]))).mono ?_
  rintro e w2 ⟨PA2, Pc2, PO2, rfl, hv2, hl, hb⟩
  have LA2 : Hid (LL w2 A L) := Lib.hid (LA1.out.below hb)
  have LB2 : Hid (LL w2 B M) := Lib.hid (LB1.out.below hb)
  have S2 : Hid (LL w2 PA1 PO1) := Lib.hid (O1.out.below hb)
  have B2 : Hid (Below w.heap.size w w2) := Lib.hid (B1.out.trans (hb.mono B1.out.size))
  clear hb LA1 LB1 O1 B1
  have O2 : Hid (LL w2 PA2 PO2) := Lib.hid hl.ll
  clear hl
  have HN2 : Hid (PO2.length ≤ 1000000) := Lib.hid (by have := congrArg List.length hv2.out; simp [trn_len] at this; omega)
  go_wp2_with fail
  refine (rFits_any A B c d L M w2 LA2.out LB2.out (by omega) (by omega) 0 hr).mono ?_
  rintro e w3 ⟨rfl, n3, hb⟩
  have LA3 : Hid (LL w3 A L) := Lib.hid (by rw [hb]; exact LA2.out.below (below_drewN' _ _))
  have LB3 : Hid (LL w3 B M) := Lib.hid (by rw [hb]; exact LB2.out.below (below_drewN' _ _))
  have S3 : Hid (LL w3 PA1 PO1) := Lib.hid (by rw [hb]; exact S2.out.below (below_drewN' _ _))
  have T3 : Hid (LL w3 PA2 PO2) := Lib.hid (by rw [hb]; exact O2.out.below (below_drewN' _ _))
  have B3 : Hid (Below w.heap.size w w3) := Lib.hid (by rw [hb]; exact B2.out.trans (below_drewN' _ _))
  clear hb LA2 LB2 S2 O2 B2
  go_wp2_with fail
  refine (rImprove_any A B c d L M w3 LA3.out LB3.out hr).mono ?_
  rintro e w4 ⟨PA4, Pc4, PO4, rfl, hv4, hl, hb⟩
  have LA4 : Hid (LL w4 A L) := Lib.hid (LA3.out.below hb)
  have LB4 : Hid (LL w4 B M) := Lib.hid (LB3.out.below hb)
  have S4 : Hid (LL w4 PA1 PO1) := Lib.hid (S3.out.below hb)
  have T4 : Hid (LL w4 PA2 PO2) := Lib.hid (T3.out.below hb)
  have B4 : Hid (Below w.heap.size w w4) := Lib.hid (B3.out.trans (hb.mono B3.out.size))
  clear hb LA3 LB3 S3 T3 B3
  have O4 : Hid (LL w4 PA4 PO4) := Lib.hid hl.ll
  clear hl
  go_wp2_with fail
  refine (sames_b PA1 PA4 Pc1 Pc4 PO1 PO4 w4 S4.out O4.out HN1.out true (Lib.hid (decide_eq_true (by rw [hv1.out, hv4.out])))).mono ?_
  rintro e w5 ⟨rfl, hb⟩
  have LA5 : Hid (LL w5 A L) := Lib.hid (LA4.out.below hb)
  have LB5 : Hid (LL w5 B M) := Lib.hid (LB4.out.below hb)
  have S5 : Hid (LL w5 PA1 PO1) := Lib.hid (S4.out.below hb)
  have T5 : Hid (LL w5 PA2 PO2) := Lib.hid (T4.out.below hb)
  have U5 : Hid (LL w5 PA4 PO4) := Lib.hid (O4.out.below hb)
  have B5 : Hid (Below w.heap.size w w5) := Lib.hid (B4.out.trans (hb.mono B4.out.size))
  clear hb LA4 LB4 S4 T4 O4 B4
  go_wp2_with fail
  refine (rTrain_any A B c d L M r w5 LA5.out LB5.out hr h1 (by omega)).mono ?_
  rintro e w6 ⟨PA6, Pc6, PO6, rfl, hv6, hl, hb⟩
  have LA6 : Hid (LL w6 A L) := Lib.hid (LA5.out.below hb)
  have LB6 : Hid (LL w6 B M) := Lib.hid (LB5.out.below hb)
  have S6 : Hid (LL w6 PA1 PO1) := Lib.hid (S5.out.below hb)
  have T6 : Hid (LL w6 PA2 PO2) := Lib.hid (T5.out.below hb)
  have U6 : Hid (LL w6 PA4 PO4) := Lib.hid (U5.out.below hb)
  have B6 : Hid (Below w.heap.size w w6) := Lib.hid (B5.out.trans (hb.mono B5.out.size))
  clear hb LA5 LB5 S5 T5 U5 B5
  have O6 : Hid (LL w6 PA6 PO6) := Lib.hid hl.ll
  clear hl
  go_wp2_with fail
  refine (sames_b PA2 PA6 Pc2 Pc6 PO2 PO6 w6 T6.out O6.out HN2.out true (Lib.hid (decide_eq_true (by rw [hv2.out, hv6.out])))).mono ?_
  rintro e w7 ⟨rfl, hb⟩
  have LA7 : Hid (LL w7 A L) := Lib.hid (LA6.out.below hb)
  have LB7 : Hid (LL w7 B M) := Lib.hid (LB6.out.below hb)
  have S7 : Hid (LL w7 PA1 PO1) := Lib.hid (S6.out.below hb)
  have T7 : Hid (LL w7 PA2 PO2) := Lib.hid (T6.out.below hb)
  have U7 : Hid (LL w7 PA4 PO4) := Lib.hid (U6.out.below hb)
  have V7 : Hid (LL w7 PA6 PO6) := Lib.hid (O6.out.below hb)
  have B7 : Hid (Below w.heap.size w w7) := Lib.hid (B6.out.trans (hb.mono B6.out.size))
  clear hb LA6 LB6 S6 T6 U6 O6 B6
  go_wp2_with fail
  refine (hk _ (hC.below B7.out)).mono ?_
  rintro e w99 ⟨rfl, hb⟩
  go_wp2_with fail
  go_ret
  exact ⟨rfl, B7.out.trans (hb.mono B7.out.size)⟩
theorem FeatureImproves_any (A B : Option Addr) (c d : Nat) (L M : List Inn) (r : Int) (w : World) (hL : Lies w A (lcs L)) (hi : ∀ x ∈ L, InOk w x) (hn : L.length ≤ 9223372036854775807) (hM : Lies w B (lcs M)) (hj : ∀ x ∈ M, InOk w x) (hm : M.length ≤ 9223372036854775807) (hC : CosOk w) (hk : Kn) :
    Calls Tryd.prog 17 #[.slice A L.length c, .slice B M.length d, .int .i64 r] w (RetB true w) := by
  have hA : LL w A L := ⟨hL, hi⟩
  have hB : LL w B M := ⟨hM, hj⟩
  cases hf : fewR (vsOf L) 30 with
  | false => exact FeatureImproves_o1 A B c d L M r w hA hB hn hm hC hk (Lib.hid hf)
  | true =>
    cases hg : fewR (vsOf M) 12 with
    | false => exact FeatureImproves_o2 A B c d L M r w hA hB hn hm hC hk (Lib.hid hf) (Lib.hid hg)
    | true =>
      by_cases h12 : 12 < M.length
      · exact FeatureImproves_o3 A B c d L M r w hA hB hn hm hC hk (Lib.hid hf) (Lib.hid hg) h12
      · by_cases hr : 20 < r ∧ r ≤ 1000
        · exact FeatureImproves_o4 A B c d L M r w hA hB hn (by omega) hC hk (Lib.hid hf) (Lib.hid hg) hr.1 hr.2
        · by_cases h0 : fitR (vsOf L) (vsOf M) = 0
          · have hl := (fitR_ok.1 h0).1
            have hvl : (vsOf L).length = L.length := by simp
            by_cases h1 : r < 0
            · exact FeatureImproves_neg A B c d L M r w hA hB (by omega) (by omega) hC hk (Lib.hid hf) (Lib.hid hg) (Lib.hid h0) h1
            · by_cases h2 : r ≤ 20
              · exact FeatureImproves_ok A B c d L M r w hA hB (by omega) (by omega) hC hk (Lib.hid hf) (Lib.hid hg) (Lib.hid h0) (by omega) h2
              · exact FeatureImproves_big A B c d L M r w hA hB (by omega) (by omega) hC hk (Lib.hid hf) (Lib.hid hg) (Lib.hid h0) (by omega)
          · by_cases h2 : r ≤ 20
            · exact FeatureImproves_bada A B c d L M r w hA hB hn (by omega) hC hk (Lib.hid hf) (Lib.hid hg) _ (Lib.hid rfl) h0 h2
            · exact FeatureImproves_badb A B c d L M r w hA hB hn (by omega) hC hk (Lib.hid hf) (Lib.hid hg) _ (Lib.hid rfl) h0 (by omega)
end Go.Proofs.YtfapmghhmkekaaaDoor
