/- FeatureFalls: the walk -/
import Derived.Test.YtfapmghhmkekaaaDoorLImp
namespace Go.Proofs.YtfapmghhmkekaaaDoor
open Go.RowKit Ear
set_option linter.unusedVariables false

theorem fit_r {vs bs : List (List Int)} (h : Fit vs bs) (hl : vs.length ≤ 10000) : fitR vs bs = 0 := fitR_ok.2 ⟨hl, h.v, h.b, h.e⟩
/-- the reference refuses what does not fit -/
theorem rFits_no (A B : Option Addr) (c d : Nat) (L M : List Inn) (w : World) (hA : LL w A L) (hB : LL w B M) (hn : L.length ≤ 9223372036854775807) (hm : M.length ≤ 9223372036854775807) (h0 : fitR (vsOf L) (vsOf M) ≠ 0) :
    ∃ r : Int, r ≠ 0 ∧ Calls Tryd.prog 51 #[.slice A L.length c, .slice B M.length d] w (RetI r w) := by
  have e1 : (vsOf L).length = L.length := by simp
  have e2 : (vsOf M).length = M.length := by simp
  by_cases hl : M.length ≤ 10000
  · exact ⟨_, h0, rFits_any A B c d L M w hA hB hn hl _ (Lib.hid rfl)⟩
  · by_cases hv : vecR (vsOf L) = 0
    · refine ⟨2, by decide, rFits_nobook A B c d L M w hA hB ?_ hm (Lib.hid hv) (Lib.hid ?_)⟩
      · have := (vecR_ok.1 hv).1; omega
      · rw [Bool.eq_false_iff]
        intro hb
        have := bookOk_iff.1 hb
        omega
    · exact ⟨_, hv, rFits_bad A B c d L M w hA hn _ (Lib.hid rfl) hv⟩
set_option maxRecDepth 100000 in
set_option maxHeartbeats 4000000 in
theorem FeatureFalls_o1 (A B : Option Addr) (c d : Nat) (L M : List Inn) (r : Int) (w : World) (hA : LL w A L) (hB : LL w B M) (hn : L.length ≤ 9223372036854775807) (hm : M.length ≤ 9223372036854775807) (hC : CosOk w) (hk : Kn) (hf : Hid (fewR (vsOf L) 30 = false)) :
    Calls Tryd.prog 18 #[.slice A L.length c, .slice B M.length d, .int .i64 r] w (RetB true w) := by
  go_enter Tryd.func18, Tryd.ntmps18
  go_wp2_with fail
  refine (few_any A c 30 L w hA (by omega) (by omega) false hf).mono ?_
  rintro e w' ⟨rfl, rfl⟩
  go_wp2_with fail
  refine (hk _ hC).mono ?_
  rintro e w99 ⟨rfl, hb⟩
  go_wp2_with fail
  go_ret
  exact ⟨rfl, hb⟩
set_option maxRecDepth 100000 in
set_option maxHeartbeats 4000000 in
theorem FeatureFalls_o2 (A B : Option Addr) (c d : Nat) (L M : List Inn) (r : Int) (w : World) (hA : LL w A L) (hB : LL w B M) (hn : L.length ≤ 9223372036854775807) (hm : M.length ≤ 9223372036854775807) (hC : CosOk w) (hk : Kn) (hf : Hid (fewR (vsOf L) 30 = true)) (hg : Hid (fewR (vsOf M) 12 = false)) :
    Calls Tryd.prog 18 #[.slice A L.length c, .slice B M.length d, .int .i64 r] w (RetB true w) := by
  go_enter Tryd.func18, Tryd.ntmps18
  go_wp2_with fail
  refine (few_any A c 30 L w hA (by omega) (by omega) true hf).mono ?_
  rintro e w' ⟨rfl, rfl⟩
  go_wp2_with fail
  refine (few_any B d 12 M w hB (by omega) (by omega) false hg).mono ?_
  rintro e w' ⟨rfl, rfl⟩
  go_wp2_with fail
  refine (hk _ hC).mono ?_
  rintro e w99 ⟨rfl, hb⟩
  go_wp2_with fail
  go_ret
  exact ⟨rfl, hb⟩
set_option maxRecDepth 100000 in
set_option maxHeartbeats 4000000 in
theorem FeatureFalls_o3 (A B : Option Addr) (c d : Nat) (L M : List Inn) (r : Int) (w : World) (hA : LL w A L) (hB : LL w B M) (hn : L.length ≤ 9223372036854775807) (hm : M.length ≤ 9223372036854775807) (hC : CosOk w) (hk : Kn) (hf : Hid (fewR (vsOf L) 30 = true)) (hg : Hid (fewR (vsOf M) 12 = true)) (h0 : Hid (fitR (vsOf L) (vsOf M) ≠ 0)) :
    Calls Tryd.prog 18 #[.slice A L.length c, .slice B M.length d, .int .i64 r] w (RetB true w) := by
  obtain ⟨e0, he0, hx⟩ := rFits_no A B c d L M w hA hB hn hm h0.out
  have q0 : (e0 != 0) = true := by simpa using he0
  go_enter Tryd.func18, Tryd.ntmps18
  go_wp2_with fail
  refine (few_any A c 30 L w hA (by omega) (by omega) true hf).mono ?_
  rintro e w' ⟨rfl, rfl⟩
  go_wp2_with fail
  refine (few_any B d 12 M w hB (by omega) (by omega) true hg).mono ?_
  rintro e w' ⟨rfl, rfl⟩
  go_wp2_with fail
  refine (hx).mono ?_
  rintro e w1 ⟨rfl, n1, hb⟩
  have LA1 : Hid (LL w1 A L) := Lib.hid (by rw [hb]; exact hA.below (below_drewN' _ _))
  have LB1 : Hid (LL w1 B M) := Lib.hid (by rw [hb]; exact hB.below (below_drewN' _ _))
  have B1 : Hid (Below w.heap.size w w1) := Lib.hid (by rw [hb]; exact below_drewN' _ _)
  clear hb 
  go_wp2_with fail
  refine (hk _ (hC.below B1.out)).mono ?_
  rintro e w99 ⟨rfl, hb⟩
  go_wp2_with fail
  go_ret
  exact ⟨rfl, B1.out.trans (hb.mono B1.out.size)⟩
set_option maxRecDepth 100000 in
set_option maxHeartbeats 4000000 in
theorem FeatureFalls_o4 (A B : Option Addr) (c d : Nat) (L M : List Inn) (r : Int) (w : World) (hA : LL w A L) (hB : LL w B M) (hn : L.length ≤ 10000) (hm : M.length ≤ 256) (hC : CosOk w) (hk : Kn) (hf : Hid (fewR (vsOf L) 30 = true)) (hg : Hid (fewR (vsOf M) 12 = true)) (hr : Hid (fitR (vsOf L) (vsOf M) = 0)) (h1 : r < 0) :
    Calls Tryd.prog 18 #[.slice A L.length c, .slice B M.length d, .int .i64 r] w (RetB true w) := by
  go_enter Tryd.func18, Tryd.ntmps18
  go_wp2_with fail
  refine (few_any A c 30 L w hA (by omega) (by omega) true hf).mono ?_
  rintro e w' ⟨rfl, rfl⟩
  go_wp2_with fail
  refine (few_any B d 12 M w hB (by omega) (by omega) true hg).mono ?_
  rintro e w' ⟨rfl, rfl⟩
  go_wp2_with fail
  refine (rFits_any A B c d L M w hA hB (by omega) (by omega) 0 hr).mono ?_
  rintro e w1 ⟨rfl, n1, hb⟩
  have LA1 : Hid (LL w1 A L) := Lib.hid (by rw [hb]; exact hA.below (below_drewN' _ _))
  have LB1 : Hid (LL w1 B M) := Lib.hid (by rw [hb]; exact hB.below (below_drewN' _ _))
  have B1 : Hid (Below w.heap.size w w1) := Lib.hid (by rw [hb]; exact below_drewN' _ _)
  clear hb 
  go_wp2_with fail
  refine (hk _ (hC.below B1.out)).mono ?_
  rintro e w99 ⟨rfl, hb⟩
  go_wp2_with fail
  go_ret
  exact ⟨rfl, B1.out.trans (hb.mono B1.out.size)⟩
set_option maxRecDepth 100000 in
set_option maxHeartbeats 4000000 in
theorem FeatureFalls_o5 (A B : Option Addr) (c d : Nat) (L M : List Inn) (r : Int) (w : World) (hA : LL w A L) (hB : LL w B M) (hn : L.length ≤ 10000) (hm : M.length ≤ 256) (hC : CosOk w) (hk : Kn) (hf : Hid (fewR (vsOf L) 30 = true)) (hg : Hid (fewR (vsOf M) 12 = true)) (hr : Hid (fitR (vsOf L) (vsOf M) = 0)) (h1 : 20 < r) :
    Calls Tryd.prog 18 #[.slice A L.length c, .slice B M.length d, .int .i64 r] w (RetB true w) := by
  go_enter Tryd.func18, Tryd.ntmps18
  go_wp2_with fail
  refine (few_any A c 30 L w hA (by omega) (by omega) true hf).mono ?_
  rintro e w' ⟨rfl, rfl⟩
  go_wp2_with fail
  refine (few_any B d 12 M w hB (by omega) (by omega) true hg).mono ?_
  rintro e w' ⟨rfl, rfl⟩
  go_wp2_with fail
  refine (rFits_any A B c d L M w hA hB (by omega) (by omega) 0 hr).mono ?_
  rintro e w1 ⟨rfl, n1, hb⟩
  have LA1 : Hid (LL w1 A L) := Lib.hid (by rw [hb]; exact hA.below (below_drewN' _ _))
  have LB1 : Hid (LL w1 B M) := Lib.hid (by rw [hb]; exact hB.below (below_drewN' _ _))
  have B1 : Hid (Below w.heap.size w w1) := Lib.hid (by rw [hb]; exact below_drewN' _ _)
  clear hb 
  go_wp2_with fail
  refine (hk _ (hC.below B1.out)).mono ?_
  rintro e w99 ⟨rfl, hb⟩
  go_wp2_with fail
  go_ret
  exact ⟨rfl, B1.out.trans (hb.mono B1.out.size)⟩
set_option maxRecDepth 100000 in
set_option maxHeartbeats 4000000 in
theorem FeatureFalls_done0 (A B : Option Addr) (c d : Nat) (L M : List Inn) (r : Int) (w : World) (hA : LL w A L) (hB : LL w B M) (hn : L.length ≤ 10000) (hm : M.length ≤ 256) (hC : CosOk w) (hk : Kn) (hf : Hid (fewR (vsOf L) 30 = true)) (hg : Hid (fewR (vsOf M) 12 = true)) (hr : Hid (fitR (vsOf L) (vsOf M) = 0)) (h1 : 0 ≤ r) (h2 : r ≤ 20) (h3 : 0 < r) (hdn : ((trn (vsOf L) r.toNat (vsOf M)).2 : Int) < r) :
    Calls Tryd.prog 18 #[.slice A L.length c, .slice B M.length d, .int .i64 r] w (RetB true w) := by
  have HVL : Hid ((vsOf L).length = L.length) := Lib.hid (by simp)
  have HFT := Lib.hid (fit_of hr.out)
  have HTE : Hid ((r + 1).toNat = r.toNat + 1) := Lib.hid (by omega)
  have HF1 : Hid (fitR (vsOf L) (impL (vsOf L) (vsOf M)) = 0) := Lib.hid (fit_r HFT.out.improve (by rw [HVL.out]; exact hn))
  have HF2 : Hid (fitR (vsOf L) (trn (vsOf L) r.toNat (vsOf M)).1 = 0) := Lib.hid (fit_r (trn_fit _ _ HFT.out) (by rw [HVL.out]; exact hn))
  have HF3 : Hid (fitR (vsOf L) (trn (vsOf L) (r + 1).toNat (vsOf M)).1 = 0) := Lib.hid (fit_r (trn_fit _ _ HFT.out) (by rw [HVL.out]; exact hn))
  have HNL : Hid (((trn (vsOf L) r.toNat (vsOf M)).1).length ≤ 256) := Lib.hid (bookOk_iff.1 (trn_fit (vs := vsOf L) r.toNat (vsOf M) HFT.out).b).2.1
  have HI1 : Hid (costL (vsOf L) (impL (vsOf L) (vsOf M)) ≤ costL (vsOf L) (vsOf M)) := Lib.hid HFT.out.falls
  have HI2 : Hid (costL (vsOf L) (trn (vsOf L) r.toNat (vsOf M)).1 ≤ costL (vsOf L) (vsOf M)) := Lib.hid (trn_cost _ _ HFT.out)
  have HI3 : Hid (costL (vsOf L) (trn (vsOf L) (r + 1).toNat (vsOf M)).1 ≤ costL (vsOf L) (trn (vsOf L) r.toNat (vsOf M)).1) := Lib.hid (by rw [HTE.out]; exact (trn_more _ _ HFT.out).1)
  have HI4 : Hid (0 < r → costL (vsOf L) (trn (vsOf L) r.toNat (vsOf M)).1 ≤ costL (vsOf L) (impL (vsOf L) (vsOf M))) := Lib.hid (fun h => trn_first (by omega) HFT.out)
  have HI5 : Hid (((trn (vsOf L) r.toNat (vsOf M)).2 : Int) ≤ r) := Lib.hid (by have := trn_le (vsOf L) r.toNat (vsOf M); omega)
  have HI6 : Hid ((trn (vsOf L) r.toNat (vsOf M)).2 ≤ (trn (vsOf L) (r + 1).toNat (vsOf M)).2) := Lib.hid (by rw [HTE.out]; exact (trn_more _ _ HFT.out).2)
  have hwr : IntKind.i64.wrap (r + 1) = r + 1 := IntWalk.i64_in _ (by omega)
  have HDN := Lib.hid hdn
  clear hdn
  have HDD : Hid (impL (vsOf L) (trn (vsOf L) r.toNat (vsOf M)).1 = (trn (vsOf L) r.toNat (vsOf M)).1 ∧ trn (vsOf L) (r + 1).toNat (vsOf M) = trn (vsOf L) r.toNat (vsOf M)) := Lib.hid (by rw [HTE.out]; exact trn_done _ _ (by have := HDN.out; omega))
  go_enter Tryd.func18, Tryd.ntmps18
  go_wp2_with fail
  refine (few_any A c 30 L w hA (by omega) (by omega) true hf).mono ?_
  rintro e w' ⟨rfl, rfl⟩
  go_wp2_with fail
  refine (few_any B d 12 M w hB (by omega) (by omega) true hg).mono ?_
  rintro e w' ⟨rfl, rfl⟩
  go_wp2_with fail
  refine (rFits_any A B c d L M w hA hB (by omega) (by omega) 0 hr).mono ?_
  rintro e w1 ⟨rfl, n1, hb⟩
  have LA1 : Hid (LL w1 A L) := Lib.hid (by rw [hb]; exact hA.below (below_drewN' _ _))
  have LB1 : Hid (LL w1 B M) := Lib.hid (by rw [hb]; exact hB.below (below_drewN' _ _))
  have B1 : Hid (Below w.heap.size w w1) := Lib.hid (by rw [hb]; exact below_drewN' _ _)
  clear hb 
  go_wp2_with fail
  refine (Cost_any A B c d L M w1 LA1.out LB1.out 0 (costL (vsOf L) (vsOf M)) (Lib.hid (by rw [costR, if_pos hr.out]))).mono ?_
  rintro e w2 ⟨rfl, hb⟩
  have LA2 : Hid (LL w2 A L) := Lib.hid (LA1.out.below hb)
  have LB2 : Hid (LL w2 B M) := Lib.hid (LB1.out.below hb)
  have B2 : Hid (Below w.heap.size w w2) := Lib.hid (B1.out.trans (hb.mono B1.out.size))
  clear hb LA1 LB1 B1
  go_wp2_with fail
  refine (Improve_any A B c d L M w2 LA2.out LB2.out 0 (impL (vsOf L) (vsOf M)) (Lib.hid (by rw [impR, if_pos hr.out]))).mono ?_
  rintro e w3 ⟨PA3, Pc3, PO3, rfl, hv3, hl, hb⟩
  have LA3 : Hid (LL w3 A L) := Lib.hid (LA2.out.below hb)
  have LB3 : Hid (LL w3 B M) := Lib.hid (LB2.out.below hb)
  have B3 : Hid (Below w.heap.size w w3) := Lib.hid (B2.out.trans (hb.mono B2.out.size))
  clear hb LA2 LB2 B2
  have O3 : Hid (LL w3 PA3 PO3) := Lib.hid hl.ll
  clear hl
  go_wp2_with fail
  refine (Cost_any A PA3 c Pc3 L PO3 w3 LA3.out O3.out 0 (costL (vsOf L) (impL (vsOf L) (vsOf M))) (Lib.hid (by rw [hv3.out, costR, if_pos HF1.out]))).mono ?_
  rintro e w4 ⟨rfl, hb⟩
  have LA4 : Hid (LL w4 A L) := Lib.hid (LA3.out.below hb)
  have LB4 : Hid (LL w4 B M) := Lib.hid (LB3.out.below hb)
  have S4 : Hid (LL w4 PA3 PO3) := Lib.hid (O3.out.below hb)
  have B4 : Hid (Below w.heap.size w w4) := Lib.hid (B3.out.trans (hb.mono B3.out.size))
  clear hb LA3 LB3 O3 B3
  go_wp2_with fail
  refine (Train_any A B c d L M r w4 LA4.out LB4.out 0 (trn (vsOf L) r.toNat (vsOf M)).2 (trn (vsOf L) r.toNat (vsOf M)).1 (Lib.hid (by rw [trnR, if_pos hr.out, if_pos ⟨h1, by omega⟩]))).mono ?_
  rintro e w5 ⟨PA5, Pc5, PO5, rfl, hv5, hl, hb⟩
  have LA5 : Hid (LL w5 A L) := Lib.hid (LA4.out.below hb)
  have LB5 : Hid (LL w5 B M) := Lib.hid (LB4.out.below hb)
  have S5 : Hid (LL w5 PA3 PO3) := Lib.hid (S4.out.below hb)
  have B5 : Hid (Below w.heap.size w w5) := Lib.hid (B4.out.trans (hb.mono B4.out.size))
  clear hb LA4 LB4 S4 B4
  have O5 : Hid (LL w5 PA5 PO5) := Lib.hid hl.ll
  clear hl
  go_wp2_with fail
  refine (Cost_any A PA5 c Pc5 L PO5 w5 LA5.out O5.out 0 (costL (vsOf L) (trn (vsOf L) r.toNat (vsOf M)).1) (Lib.hid (by rw [hv5.out, costR, if_pos HF2.out]))).mono ?_
  rintro e w6 ⟨rfl, hb⟩
  have LA6 : Hid (LL w6 A L) := Lib.hid (LA5.out.below hb)
  have LB6 : Hid (LL w6 B M) := Lib.hid (LB5.out.below hb)
  have S6 : Hid (LL w6 PA3 PO3) := Lib.hid (S5.out.below hb)
  have T6 : Hid (LL w6 PA5 PO5) := Lib.hid (O5.out.below hb)
  have B6 : Hid (Below w.heap.size w w6) := Lib.hid (B5.out.trans (hb.mono B5.out.size))
  clear hb LA5 LB5 S5 O5 B5
  go_wp2_with fail
  refine (Train_any A B c d L M (r + 1) w6 LA6.out LB6.out 0 (trn (vsOf L) (r + 1).toNat (vsOf M)).2 (trn (vsOf L) (r + 1).toNat (vsOf M)).1 (Lib.hid (by rw [trnR, if_pos hr.out, if_pos ⟨by omega, by omega⟩]))).mono ?_
  rintro e w7 ⟨PA7, Pc7, PO7, rfl, hv7, hl, hb⟩
  have LA7 : Hid (LL w7 A L) := Lib.hid (LA6.out.below hb)
  have LB7 : Hid (LL w7 B M) := Lib.hid (LB6.out.below hb)
  have S7 : Hid (LL w7 PA3 PO3) := Lib.hid (S6.out.below hb)
  have T7 : Hid (LL w7 PA5 PO5) := Lib.hid (T6.out.below hb)
  have B7 : Hid (Below w.heap.size w w7) := Lib.hid (B6.out.trans (hb.mono B6.out.size))
  clear hb LA6 LB6 S6 T6 B6
  have O7 : Hid (LL w7 PA7 PO7) := Lib.hid hl.ll
  clear hl
  go_wp2_with fail
  refine (Cost_any A PA7 c Pc7 L PO7 w7 LA7.out O7.out 0 (costL (vsOf L) (trn (vsOf L) (r + 1).toNat (vsOf M)).1) (Lib.hid (by rw [hv7.out, costR, if_pos HF3.out]))).mono ?_
  rintro e w8 ⟨rfl, hb⟩
  have LA8 : Hid (LL w8 A L) := Lib.hid (LA7.out.below hb)
  have LB8 : Hid (LL w8 B M) := Lib.hid (LB7.out.below hb)
  have S8 : Hid (LL w8 PA3 PO3) := Lib.hid (S7.out.below hb)
  have T8 : Hid (LL w8 PA5 PO5) := Lib.hid (T7.out.below hb)
  have V8 : Hid (LL w8 PA7 PO7) := Lib.hid (O7.out.below hb)
  have B8 : Hid (Below w.heap.size w w8) := Lib.hid (B7.out.trans (hb.mono B7.out.size))
  clear hb LA7 LB7 S7 T7 O7 B7
  have hi1 := HI1.out
  have hi2 := HI2.out
  have hi3 := HI3.out
  have hi4 := HI4.out
  have hi5 := HI5.out
  have hi6 := HI6.out
  clear HI1 HI2 HI3 HI4 HI5 HI6
  generalize costL (vsOf L) (vsOf M) = xa at *
  generalize costL (vsOf L) (impL (vsOf L) (vsOf M)) = xb at *
  generalize costL (vsOf L) (trn (vsOf L) r.toNat (vsOf M)).1 = xd at *
  generalize costL (vsOf L) (trn (vsOf L) (r + 1).toNat (vsOf M)).1 = xk at *
  generalize hxn : (trn (vsOf L) r.toNat (vsOf M)).2 = xn at *
  generalize hxm : (trn (vsOf L) (r + 1).toNat (vsOf M)).2 = xm at *
  have HXN := Lib.hid hxn
  have HXM := Lib.hid hxm
  clear hxn hxm
  have q9 : (xn : Int) < r := HDN.out
  go_wp2_with fail
  clear hi1 hi2 hi3 hi4 hi5 hi6 q9
  refine (Improve_any A PA5 c Pc5 L PO5 w8 LA8.out T8.out 0 (trn (vsOf L) r.toNat (vsOf M)).1 (Lib.hid (by rw [hv5.out, impR, if_pos HF2.out, HDD.out.1]))).mono ?_
  rintro e w9 ⟨PA9, Pc9, PO9, rfl, hv9, hl, hb⟩
  have LA9 : Hid (LL w9 A L) := Lib.hid (LA8.out.below hb)
  have LB9 : Hid (LL w9 B M) := Lib.hid (LB8.out.below hb)
  have S9 : Hid (LL w9 PA3 PO3) := Lib.hid (S8.out.below hb)
  have T9 : Hid (LL w9 PA5 PO5) := Lib.hid (T8.out.below hb)
  have V9 : Hid (LL w9 PA7 PO7) := Lib.hid (V8.out.below hb)
  have B9 : Hid (Below w.heap.size w w9) := Lib.hid (B8.out.trans (hb.mono B8.out.size))
  clear hb LA8 LB8 S8 T8 V8 B8
  have O9 : Hid (LL w9 PA9 PO9) := Lib.hid hl.ll
  clear hl
  go_wp2_with fail
  refine (sames_b PA9 PA5 Pc9 Pc5 PO9 PO5 w9 O9.out T9.out (by have := congrArg List.length hv9.out; have h8 := HNL.out; simp at this; omega) true (Lib.hid (decide_eq_true (by rw [hv9.out, hv5.out])))).mono ?_
  rintro e w10 ⟨rfl, hb⟩
  have LA10 : Hid (LL w10 A L) := Lib.hid (LA9.out.below hb)
  have LB10 : Hid (LL w10 B M) := Lib.hid (LB9.out.below hb)
  have S10 : Hid (LL w10 PA3 PO3) := Lib.hid (S9.out.below hb)
  have T10 : Hid (LL w10 PA5 PO5) := Lib.hid (T9.out.below hb)
  have V10 : Hid (LL w10 PA7 PO7) := Lib.hid (V9.out.below hb)
  have Q10 : Hid (LL w10 PA9 PO9) := Lib.hid (O9.out.below hb)
  have B10 : Hid (Below w.heap.size w w10) := Lib.hid (B9.out.trans (hb.mono B9.out.size))
  clear hb LA9 LB9 S9 T9 V9 O9 B9
  have q8 : xm = xn := by rw [← HXN.out, ← HXM.out, HDD.out.2]
  subst q8
  go_wp2_with fail
  refine (sames_b PA7 PA5 Pc7 Pc5 PO7 PO5 w10 V10.out T10.out (by have := congrArg List.length hv7.out; have h8 := HNL.out; rw [HDD.out.2] at this; simp at this; omega) true (Lib.hid (decide_eq_true (by rw [hv7.out, hv5.out, HDD.out.2])))).mono ?_
  rintro e w11 ⟨rfl, hb⟩
  have LA11 : Hid (LL w11 A L) := Lib.hid (LA10.out.below hb)
  have LB11 : Hid (LL w11 B M) := Lib.hid (LB10.out.below hb)
  have S11 : Hid (LL w11 PA3 PO3) := Lib.hid (S10.out.below hb)
  have T11 : Hid (LL w11 PA5 PO5) := Lib.hid (T10.out.below hb)
  have V11 : Hid (LL w11 PA7 PO7) := Lib.hid (V10.out.below hb)
  have Q11 : Hid (LL w11 PA9 PO9) := Lib.hid (Q10.out.below hb)
  have B11 : Hid (Below w.heap.size w w11) := Lib.hid (B10.out.trans (hb.mono B10.out.size))
  clear hb LA10 LB10 S10 T10 V10 Q10 B10
  go_wp2_with fail
  refine (hk _ (hC.below B11.out)).mono ?_
  rintro e w99 ⟨rfl, hb⟩
  go_wp2_with fail
  go_ret
  exact ⟨rfl, B11.out.trans (hb.mono B11.out.size)⟩
set_option maxRecDepth 100000 in
set_option maxHeartbeats 4000000 in
theorem FeatureFalls_open0 (A B : Option Addr) (c d : Nat) (L M : List Inn) (r : Int) (w : World) (hA : LL w A L) (hB : LL w B M) (hn : L.length ≤ 10000) (hm : M.length ≤ 256) (hC : CosOk w) (hk : Kn) (hf : Hid (fewR (vsOf L) 30 = true)) (hg : Hid (fewR (vsOf M) 12 = true)) (hr : Hid (fitR (vsOf L) (vsOf M) = 0)) (h1 : 0 ≤ r) (h2 : r ≤ 20) (h3 : 0 < r) (hdn : ¬ ((trn (vsOf L) r.toNat (vsOf M)).2 : Int) < r) :
    Calls Tryd.prog 18 #[.slice A L.length c, .slice B M.length d, .int .i64 r] w (RetB true w) := by
  have HVL : Hid ((vsOf L).length = L.length) := Lib.hid (by simp)
  have HFT := Lib.hid (fit_of hr.out)
  have HTE : Hid ((r + 1).toNat = r.toNat + 1) := Lib.hid (by omega)
  have HF1 : Hid (fitR (vsOf L) (impL (vsOf L) (vsOf M)) = 0) := Lib.hid (fit_r HFT.out.improve (by rw [HVL.out]; exact hn))
  have HF2 : Hid (fitR (vsOf L) (trn (vsOf L) r.toNat (vsOf M)).1 = 0) := Lib.hid (fit_r (trn_fit _ _ HFT.out) (by rw [HVL.out]; exact hn))
  have HF3 : Hid (fitR (vsOf L) (trn (vsOf L) (r + 1).toNat (vsOf M)).1 = 0) := Lib.hid (fit_r (trn_fit _ _ HFT.out) (by rw [HVL.out]; exact hn))
  have HNL : Hid (((trn (vsOf L) r.toNat (vsOf M)).1).length ≤ 256) := Lib.hid (bookOk_iff.1 (trn_fit (vs := vsOf L) r.toNat (vsOf M) HFT.out).b).2.1
  have HI1 : Hid (costL (vsOf L) (impL (vsOf L) (vsOf M)) ≤ costL (vsOf L) (vsOf M)) := Lib.hid HFT.out.falls
  have HI2 : Hid (costL (vsOf L) (trn (vsOf L) r.toNat (vsOf M)).1 ≤ costL (vsOf L) (vsOf M)) := Lib.hid (trn_cost _ _ HFT.out)
  have HI3 : Hid (costL (vsOf L) (trn (vsOf L) (r + 1).toNat (vsOf M)).1 ≤ costL (vsOf L) (trn (vsOf L) r.toNat (vsOf M)).1) := Lib.hid (by rw [HTE.out]; exact (trn_more _ _ HFT.out).1)
  have HI4 : Hid (0 < r → costL (vsOf L) (trn (vsOf L) r.toNat (vsOf M)).1 ≤ costL (vsOf L) (impL (vsOf L) (vsOf M))) := Lib.hid (fun h => trn_first (by omega) HFT.out)
  have HI5 : Hid (((trn (vsOf L) r.toNat (vsOf M)).2 : Int) ≤ r) := Lib.hid (by have := trn_le (vsOf L) r.toNat (vsOf M); omega)
  have HI6 : Hid ((trn (vsOf L) r.toNat (vsOf M)).2 ≤ (trn (vsOf L) (r + 1).toNat (vsOf M)).2) := Lib.hid (by rw [HTE.out]; exact (trn_more _ _ HFT.out).2)
  have hwr : IntKind.i64.wrap (r + 1) = r + 1 := IntWalk.i64_in _ (by omega)
  have HDN := Lib.hid hdn
  clear hdn
  go_enter Tryd.func18, Tryd.ntmps18
  go_wp2_with fail
  refine (few_any A c 30 L w hA (by omega) (by omega) true hf).mono ?_
  rintro e w' ⟨rfl, rfl⟩
  go_wp2_with fail
  refine (few_any B d 12 M w hB (by omega) (by omega) true hg).mono ?_
  rintro e w' ⟨rfl, rfl⟩
  go_wp2_with fail
  refine (rFits_any A B c d L M w hA hB (by omega) (by omega) 0 hr).mono ?_
  rintro e w1 ⟨rfl, n1, hb⟩
  have LA1 : Hid (LL w1 A L) := Lib.hid (by rw [hb]; exact hA.below (below_drewN' _ _))
  have LB1 : Hid (LL w1 B M) := Lib.hid (by rw [hb]; exact hB.below (below_drewN' _ _))
  have B1 : Hid (Below w.heap.size w w1) := Lib.hid (by rw [hb]; exact below_drewN' _ _)
  clear hb 
  go_wp2_with fail
  refine (Cost_any A B c d L M w1 LA1.out LB1.out 0 (costL (vsOf L) (vsOf M)) (Lib.hid (by rw [costR, if_pos hr.out]))).mono ?_
  rintro e w2 ⟨rfl, hb⟩
  have LA2 : Hid (LL w2 A L) := Lib.hid (LA1.out.below hb)
  have LB2 : Hid (LL w2 B M) := Lib.hid (LB1.out.below hb)
  have B2 : Hid (Below w.heap.size w w2) := Lib.hid (B1.out.trans (hb.mono B1.out.size))
  clear hb LA1 LB1 B1
  go_wp2_with fail
  refine (Improve_any A B c d L M w2 LA2.out LB2.out 0 (impL (vsOf L) (vsOf M)) (Lib.hid (by rw [impR, if_pos hr.out]))).mono ?_
  rintro e w3 ⟨PA3, Pc3, PO3, rfl, hv3, hl, hb⟩
  have LA3 : Hid (LL w3 A L) := Lib.hid (LA2.out.below hb)
  have LB3 : Hid (LL w3 B M) := Lib.hid (LB2.out.below hb)
  have B3 : Hid (Below w.heap.size w w3) := Lib.hid (B2.out.trans (hb.mono B2.out.size))
  clear hb LA2 LB2 B2
  have O3 : Hid (LL w3 PA3 PO3) := Lib.hid hl.ll
  clear hl
  go_wp2_with fail
  refine (Cost_any A PA3 c Pc3 L PO3 w3 LA3.out O3.out 0 (costL (vsOf L) (impL (vsOf L) (vsOf M))) (Lib.hid (by rw [hv3.out, costR, if_pos HF1.out]))).mono ?_
  rintro e w4 ⟨rfl, hb⟩
  have LA4 : Hid (LL w4 A L) := Lib.hid (LA3.out.below hb)
  have LB4 : Hid (LL w4 B M) := Lib.hid (LB3.out.below hb)
  have S4 : Hid (LL w4 PA3 PO3) := Lib.hid (O3.out.below hb)
  have B4 : Hid (Below w.heap.size w w4) := Lib.hid (B3.out.trans (hb.mono B3.out.size))
  clear hb LA3 LB3 O3 B3
  go_wp2_with fail
  refine (Train_any A B c d L M r w4 LA4.out LB4.out 0 (trn (vsOf L) r.toNat (vsOf M)).2 (trn (vsOf L) r.toNat (vsOf M)).1 (Lib.hid (by rw [trnR, if_pos hr.out, if_pos ⟨h1, by omega⟩]))).mono ?_
  rintro e w5 ⟨PA5, Pc5, PO5, rfl, hv5, hl, hb⟩
  have LA5 : Hid (LL w5 A L) := Lib.hid (LA4.out.below hb)
  have LB5 : Hid (LL w5 B M) := Lib.hid (LB4.out.below hb)
  have S5 : Hid (LL w5 PA3 PO3) := Lib.hid (S4.out.below hb)
  have B5 : Hid (Below w.heap.size w w5) := Lib.hid (B4.out.trans (hb.mono B4.out.size))
  clear hb LA4 LB4 S4 B4
  have O5 : Hid (LL w5 PA5 PO5) := Lib.hid hl.ll
  clear hl
  go_wp2_with fail
  refine (Cost_any A PA5 c Pc5 L PO5 w5 LA5.out O5.out 0 (costL (vsOf L) (trn (vsOf L) r.toNat (vsOf M)).1) (Lib.hid (by rw [hv5.out, costR, if_pos HF2.out]))).mono ?_
  rintro e w6 ⟨rfl, hb⟩
  have LA6 : Hid (LL w6 A L) := Lib.hid (LA5.out.below hb)
  have LB6 : Hid (LL w6 B M) := Lib.hid (LB5.out.below hb)
  have S6 : Hid (LL w6 PA3 PO3) := Lib.hid (S5.out.below hb)
  have T6 : Hid (LL w6 PA5 PO5) := Lib.hid (O5.out.below hb)
  have B6 : Hid (Below w.heap.size w w6) := Lib.hid (B5.out.trans (hb.mono B5.out.size))
  clear hb LA5 LB5 S5 O5 B5
  go_wp2_with fail
  refine (Train_any A B c d L M (r + 1) w6 LA6.out LB6.out 0 (trn (vsOf L) (r + 1).toNat (vsOf M)).2 (trn (vsOf L) (r + 1).toNat (vsOf M)).1 (Lib.hid (by rw [trnR, if_pos hr.out, if_pos ⟨by omega, by omega⟩]))).mono ?_
  rintro e w7 ⟨PA7, Pc7, PO7, rfl, hv7, hl, hb⟩
  have LA7 : Hid (LL w7 A L) := Lib.hid (LA6.out.below hb)
  have LB7 : Hid (LL w7 B M) := Lib.hid (LB6.out.below hb)
  have S7 : Hid (LL w7 PA3 PO3) := Lib.hid (S6.out.below hb)
  have T7 : Hid (LL w7 PA5 PO5) := Lib.hid (T6.out.below hb)
  have B7 : Hid (Below w.heap.size w w7) := Lib.hid (B6.out.trans (hb.mono B6.out.size))
  clear hb LA6 LB6 S6 T6 B6
  have O7 : Hid (LL w7 PA7 PO7) := Lib.hid hl.ll
  clear hl
  go_wp2_with fail
  refine (Cost_any A PA7 c Pc7 L PO7 w7 LA7.out O7.out 0 (costL (vsOf L) (trn (vsOf L) (r + 1).toNat (vsOf M)).1) (Lib.hid (by rw [hv7.out, costR, if_pos HF3.out]))).mono ?_
  rintro e w8 ⟨rfl, hb⟩
  have LA8 : Hid (LL w8 A L) := Lib.hid (LA7.out.below hb)
  have LB8 : Hid (LL w8 B M) := Lib.hid (LB7.out.below hb)
  have S8 : Hid (LL w8 PA3 PO3) := Lib.hid (S7.out.below hb)
  have T8 : Hid (LL w8 PA5 PO5) := Lib.hid (T7.out.below hb)
  have V8 : Hid (LL w8 PA7 PO7) := Lib.hid (O7.out.below hb)
  have B8 : Hid (Below w.heap.size w w8) := Lib.hid (B7.out.trans (hb.mono B7.out.size))
  clear hb LA7 LB7 S7 T7 O7 B7
  have hi1 := HI1.out
  have hi2 := HI2.out
  have hi3 := HI3.out
  have hi4 := HI4.out
  have hi5 := HI5.out
  have hi6 := HI6.out
  clear HI1 HI2 HI3 HI4 HI5 HI6
  generalize costL (vsOf L) (vsOf M) = xa at *
  generalize costL (vsOf L) (impL (vsOf L) (vsOf M)) = xb at *
  generalize costL (vsOf L) (trn (vsOf L) r.toNat (vsOf M)).1 = xd at *
  generalize costL (vsOf L) (trn (vsOf L) (r + 1).toNat (vsOf M)).1 = xk at *
  generalize hxn : (trn (vsOf L) r.toNat (vsOf M)).2 = xn at *
  generalize hxm : (trn (vsOf L) (r + 1).toNat (vsOf M)).2 = xm at *
  have HXN := Lib.hid hxn
  have HXM := Lib.hid hxm
  clear hxn hxm
  have q9 : ¬ (xn : Int) < r := by have := HDN.out; omega
  go_wp2_with fail
  refine (hk _ (hC.below B8.out)).mono ?_
  rintro e w99 ⟨rfl, hb⟩
  go_wp2_with fail
  go_ret
  exact ⟨rfl, B8.out.trans (hb.mono B8.out.size)⟩
set_option maxRecDepth 100000 in
set_option maxHeartbeats 4000000 in
theorem FeatureFalls_openz (A B : Option Addr) (c d : Nat) (L M : List Inn) (r : Int) (w : World) (hA : LL w A L) (hB : LL w B M) (hn : L.length ≤ 10000) (hm : M.length ≤ 256) (hC : CosOk w) (hk : Kn) (hf : Hid (fewR (vsOf L) 30 = true)) (hg : Hid (fewR (vsOf M) 12 = true)) (hr : Hid (fitR (vsOf L) (vsOf M) = 0)) (h1 : 0 ≤ r) (h2 : r ≤ 20) (h3 : ¬ 0 < r) (hdn : ¬ ((trn (vsOf L) r.toNat (vsOf M)).2 : Int) < r) :
    Calls Tryd.prog 18 #[.slice A L.length c, .slice B M.length d, .int .i64 r] w (RetB true w) := by
  have HVL : Hid ((vsOf L).length = L.length) := Lib.hid (by simp)
  have HFT := Lib.hid (fit_of hr.out)
  have HTE : Hid ((r + 1).toNat = r.toNat + 1) := Lib.hid (by omega)
  have HF1 : Hid (fitR (vsOf L) (impL (vsOf L) (vsOf M)) = 0) := Lib.hid (fit_r HFT.out.improve (by rw [HVL.out]; exact hn))
  have HF2 : Hid (fitR (vsOf L) (trn (vsOf L) r.toNat (vsOf M)).1 = 0) := Lib.hid (fit_r (trn_fit _ _ HFT.out) (by rw [HVL.out]; exact hn))
  have HF3 : Hid (fitR (vsOf L) (trn (vsOf L) (r + 1).toNat (vsOf M)).1 = 0) := Lib.hid (fit_r (trn_fit _ _ HFT.out) (by rw [HVL.out]; exact hn))
  have HNL : Hid (((trn (vsOf L) r.toNat (vsOf M)).1).length ≤ 256) := Lib.hid (bookOk_iff.1 (trn_fit (vs := vsOf L) r.toNat (vsOf M) HFT.out).b).2.1
  have HI1 : Hid (costL (vsOf L) (impL (vsOf L) (vsOf M)) ≤ costL (vsOf L) (vsOf M)) := Lib.hid HFT.out.falls
  have HI2 : Hid (costL (vsOf L) (trn (vsOf L) r.toNat (vsOf M)).1 ≤ costL (vsOf L) (vsOf M)) := Lib.hid (trn_cost _ _ HFT.out)
  have HI3 : Hid (costL (vsOf L) (trn (vsOf L) (r + 1).toNat (vsOf M)).1 ≤ costL (vsOf L) (trn (vsOf L) r.toNat (vsOf M)).1) := Lib.hid (by rw [HTE.out]; exact (trn_more _ _ HFT.out).1)
  have HI4 : Hid (0 < r → costL (vsOf L) (trn (vsOf L) r.toNat (vsOf M)).1 ≤ costL (vsOf L) (impL (vsOf L) (vsOf M))) := Lib.hid (fun h => trn_first (by omega) HFT.out)
  have HI5 : Hid (((trn (vsOf L) r.toNat (vsOf M)).2 : Int) ≤ r) := Lib.hid (by have := trn_le (vsOf L) r.toNat (vsOf M); omega)
  have HI6 : Hid ((trn (vsOf L) r.toNat (vsOf M)).2 ≤ (trn (vsOf L) (r + 1).toNat (vsOf M)).2) := Lib.hid (by rw [HTE.out]; exact (trn_more _ _ HFT.out).2)
  have hwr : IntKind.i64.wrap (r + 1) = r + 1 := IntWalk.i64_in _ (by omega)
  have HDN := Lib.hid hdn
  clear hdn
  go_enter Tryd.func18, Tryd.ntmps18
  go_wp2_with fail
  refine (few_any A c 30 L w hA (by omega) (by omega) true hf).mono ?_
  rintro e w' ⟨rfl, rfl⟩
  go_wp2_with fail
  refine (few_any B d 12 M w hB (by omega) (by omega) true hg).mono ?_
  rintro e w' ⟨rfl, rfl⟩
  go_wp2_with fail
  refine (rFits_any A B c d L M w hA hB (by omega) (by omega) 0 hr).mono ?_
  rintro e w1 ⟨rfl, n1, hb⟩
  have LA1 : Hid (LL w1 A L) := Lib.hid (by rw [hb]; exact hA.below (below_drewN' _ _))
  have LB1 : Hid (LL w1 B M) := Lib.hid (by rw [hb]; exact hB.below (below_drewN' _ _))
  have B1 : Hid (Below w.heap.size w w1) := Lib.hid (by rw [hb]; exact below_drewN' _ _)
  clear hb 
  go_wp2_with fail
  refine (Cost_any A B c d L M w1 LA1.out LB1.out 0 (costL (vsOf L) (vsOf M)) (Lib.hid (by rw [costR, if_pos hr.out]))).mono ?_
  rintro e w2 ⟨rfl, hb⟩
  have LA2 : Hid (LL w2 A L) := Lib.hid (LA1.out.below hb)
  have LB2 : Hid (LL w2 B M) := Lib.hid (LB1.out.below hb)
  have B2 : Hid (Below w.heap.size w w2) := Lib.hid (B1.out.trans (hb.mono B1.out.size))
  clear hb LA1 LB1 B1
  go_wp2_with fail
  refine (Improve_any A B c d L M w2 LA2.out LB2.out 0 (impL (vsOf L) (vsOf M)) (Lib.hid (by rw [impR, if_pos hr.out]))).mono ?_
  rintro e w3 ⟨PA3, Pc3, PO3, rfl, hv3, hl, hb⟩
  have LA3 : Hid (LL w3 A L) := Lib.hid (LA2.out.below hb)
  have LB3 : Hid (LL w3 B M) := Lib.hid (LB2.out.below hb)
  have B3 : Hid (Below w.heap.size w w3) := Lib.hid (B2.out.trans (hb.mono B2.out.size))
  clear hb LA2 LB2 B2
  have O3 : Hid (LL w3 PA3 PO3) := Lib.hid hl.ll
  clear hl
  go_wp2_with fail
  refine (Cost_any A PA3 c Pc3 L PO3 w3 LA3.out O3.out 0 (costL (vsOf L) (impL (vsOf L) (vsOf M))) (Lib.hid (by rw [hv3.out, costR, if_pos HF1.out]))).mono ?_
  rintro e w4 ⟨rfl, hb⟩
  have LA4 : Hid (LL w4 A L) := Lib.hid (LA3.out.below hb)
  have LB4 : Hid (LL w4 B M) := Lib.hid (LB3.out.below hb)
  have S4 : Hid (LL w4 PA3 PO3) := Lib.hid (O3.out.below hb)
  have B4 : Hid (Below w.heap.size w w4) := Lib.hid (B3.out.trans (hb.mono B3.out.size))
  clear hb LA3 LB3 O3 B3
  go_wp2_with fail
  refine (Train_any A B c d L M r w4 LA4.out LB4.out 0 (trn (vsOf L) r.toNat (vsOf M)).2 (trn (vsOf L) r.toNat (vsOf M)).1 (Lib.hid (by rw [trnR, if_pos hr.out, if_pos ⟨h1, by omega⟩]))).mono ?_
  rintro e w5 ⟨PA5, Pc5, PO5, rfl, hv5, hl, hb⟩
  have LA5 : Hid (LL w5 A L) := Lib.hid (LA4.out.below hb)
  have LB5 : Hid (LL w5 B M) := Lib.hid (LB4.out.below hb)
  have S5 : Hid (LL w5 PA3 PO3) := Lib.hid (S4.out.below hb)
  have B5 : Hid (Below w.heap.size w w5) := Lib.hid (B4.out.trans (hb.mono B4.out.size))
  clear hb LA4 LB4 S4 B4
  have O5 : Hid (LL w5 PA5 PO5) := Lib.hid hl.ll
  clear hl
  go_wp2_with fail
  refine (Cost_any A PA5 c Pc5 L PO5 w5 LA5.out O5.out 0 (costL (vsOf L) (trn (vsOf L) r.toNat (vsOf M)).1) (Lib.hid (by rw [hv5.out, costR, if_pos HF2.out]))).mono ?_
  rintro e w6 ⟨rfl, hb⟩
  have LA6 : Hid (LL w6 A L) := Lib.hid (LA5.out.below hb)
  have LB6 : Hid (LL w6 B M) := Lib.hid (LB5.out.below hb)
  have S6 : Hid (LL w6 PA3 PO3) := Lib.hid (S5.out.below hb)
  have T6 : Hid (LL w6 PA5 PO5) := Lib.hid (O5.out.below hb)
  have B6 : Hid (Below w.heap.size w w6) := Lib.hid (B5.out.trans (hb.mono B5.out.size))
  clear hb LA5 LB5 S5 O5 B5
  go_wp2_with fail
  refine (Train_any A B c d L M (r + 1) w6 LA6.out LB6.out 0 (trn (vsOf L) (r + 1).toNat (vsOf M)).2 (trn (vsOf L) (r + 1).toNat (vsOf M)).1 (Lib.hid (by rw [trnR, if_pos hr.out, if_pos ⟨by omega, by omega⟩]))).mono ?_
  rintro e w7 ⟨PA7, Pc7, PO7, rfl, hv7, hl, hb⟩
  have LA7 : Hid (LL w7 A L) := Lib.hid (LA6.out.below hb)
  have LB7 : Hid (LL w7 B M) := Lib.hid (LB6.out.below hb)
  have S7 : Hid (LL w7 PA3 PO3) := Lib.hid (S6.out.below hb)
  have T7 : Hid (LL w7 PA5 PO5) := Lib.hid (T6.out.below hb)
  have B7 : Hid (Below w.heap.size w w7) := Lib.hid (B6.out.trans (hb.mono B6.out.size))
  clear hb LA6 LB6 S6 T6 B6
  have O7 : Hid (LL w7 PA7 PO7) := Lib.hid hl.ll
  clear hl
  go_wp2_with fail
  refine (Cost_any A PA7 c Pc7 L PO7 w7 LA7.out O7.out 0 (costL (vsOf L) (trn (vsOf L) (r + 1).toNat (vsOf M)).1) (Lib.hid (by rw [hv7.out, costR, if_pos HF3.out]))).mono ?_
  rintro e w8 ⟨rfl, hb⟩
  have LA8 : Hid (LL w8 A L) := Lib.hid (LA7.out.below hb)
  have LB8 : Hid (LL w8 B M) := Lib.hid (LB7.out.below hb)
  have S8 : Hid (LL w8 PA3 PO3) := Lib.hid (S7.out.below hb)
  have T8 : Hid (LL w8 PA5 PO5) := Lib.hid (T7.out.below hb)
  have V8 : Hid (LL w8 PA7 PO7) := Lib.hid (O7.out.below hb)
  have B8 : Hid (Below w.heap.size w w8) := Lib.hid (B7.out.trans (hb.mono B7.out.size))
  clear hb LA7 LB7 S7 T7 O7 B7
  have hi1 := HI1.out
  have hi2 := HI2.out
  have hi3 := HI3.out
  have hi4 := HI4.out
  have hi5 := HI5.out
  have hi6 := HI6.out
  clear HI1 HI2 HI3 HI4 HI5 HI6
  generalize costL (vsOf L) (vsOf M) = xa at *
  generalize costL (vsOf L) (impL (vsOf L) (vsOf M)) = xb at *
  generalize costL (vsOf L) (trn (vsOf L) r.toNat (vsOf M)).1 = xd at *
  generalize costL (vsOf L) (trn (vsOf L) (r + 1).toNat (vsOf M)).1 = xk at *
  generalize hxn : (trn (vsOf L) r.toNat (vsOf M)).2 = xn at *
  generalize hxm : (trn (vsOf L) (r + 1).toNat (vsOf M)).2 = xm at *
  have HXN := Lib.hid hxn
  have HXM := Lib.hid hxm
  clear hxn hxm
  have q9 : ¬ (xn : Int) < r := by have := HDN.out; omega
  go_wp2_with fail
  refine (hk _ (hC.below B8.out)).mono ?_
  rintro e w99 ⟨rfl, hb⟩
  go_wp2_with fail
  go_ret
  exact ⟨rfl, B8.out.trans (hb.mono B8.out.size)⟩
theorem FeatureFalls_any (A B : Option Addr) (c d : Nat) (L M : List Inn) (r : Int) (w : World) (hL : Lies w A (lcs L)) (hi : ∀ x ∈ L, InOk w x) (hn : L.length ≤ 9223372036854775807) (hM : Lies w B (lcs M)) (hj : ∀ x ∈ M, InOk w x) (hm : M.length ≤ 9223372036854775807) (hC : CosOk w) (hk : Kn) :
    Calls Tryd.prog 18 #[.slice A L.length c, .slice B M.length d, .int .i64 r] w (RetB true w) := by
  have hA : LL w A L := ⟨hL, hi⟩
  have hB : LL w B M := ⟨hM, hj⟩
  cases hf : fewR (vsOf L) 30 with
  | false => exact FeatureFalls_o1 A B c d L M r w hA hB hn hm hC hk (Lib.hid hf)
  | true =>
    cases hg : fewR (vsOf M) 12 with
    | false => exact FeatureFalls_o2 A B c d L M r w hA hB hn hm hC hk (Lib.hid hf) (Lib.hid hg)
    | true =>
      by_cases h0 : fitR (vsOf L) (vsOf M) = 0
      · have hl := (fitR_ok.1 h0).1
        have hb := (bookOk_iff.1 (fit_of h0).b).2.1
        have hvl : (vsOf L).length = L.length := by simp
        have hvm : (vsOf M).length = M.length := by simp
        by_cases h1 : r < 0
        · exact FeatureFalls_o4 A B c d L M r w hA hB (by omega) (by omega) hC hk (Lib.hid hf) (Lib.hid hg) (Lib.hid h0) h1
        · by_cases h2 : 20 < r
          · exact FeatureFalls_o5 A B c d L M r w hA hB (by omega) (by omega) hC hk (Lib.hid hf) (Lib.hid hg) (Lib.hid h0) h2
          · by_cases hd : ((trn (vsOf L) r.toNat (vsOf M)).2 : Int) < r
            · exact FeatureFalls_done0 A B c d L M r w hA hB (by omega) (by omega) hC hk (Lib.hid hf) (Lib.hid hg) (Lib.hid h0) (by omega) (by omega) (by omega) hd
            · by_cases h3 : 0 < r
              · exact FeatureFalls_open0 A B c d L M r w hA hB (by omega) (by omega) hC hk (Lib.hid hf) (Lib.hid hg) (Lib.hid h0) (by omega) (by omega) h3 hd
              · exact FeatureFalls_openz A B c d L M r w hA hB (by omega) (by omega) hC hk (Lib.hid hf) (Lib.hid hg) (Lib.hid h0) (by omega) (by omega) h3 hd
      · exact FeatureFalls_o3 A B c d L M r w hA hB hn hm hC hk (Lib.hid hf) (Lib.hid hg) (Lib.hid h0)
end Go.Proofs.YtfapmghhmkekaaaDoor
