/- FeatureQuantizes: the walk -/
import Derived.Test.YtfapmghhmkekaaaDoorQRfi
import Derived.Test.YtfapmghhmkekaaaDoorQRqu
import Derived.Test.YtfapmghhmkekaaaDoorQRco
import Derived.Test.YtfapmghhmkekaaaDoorMc
namespace Go.Proofs.YtfapmghhmkekaaaDoor
open Go.RowKit Ear

theorem rFits_any (A B : Option Addr) (c d : Nat) (L M : List Inn) (w : World) (hA : LL w A L) (hB : LL w B M) (hn : L.length ≤ 9223372036854775807) (hm : M.length ≤ 10000) (r : Int) (hr : Hid (fitR (vsOf L) (vsOf M) = r)) :
    Calls Tryd.prog 51 #[.slice A L.length c, .slice B M.length d] w (RetI r w) := by
  have hr' := hr.out
  have e1 : (vsOf L).length = L.length := by simp
  have e2 : (vsOf M).length = M.length := by simp
  unfold fitR at hr'
  rw [e1, e2] at hr'
  by_cases h0 : vecR (vsOf L) = 0
  · have hl := vecR_ok.1 h0
    rw [e1] at hl
    rw [if_neg (by omega), hl.2] at hr'
    cases hb : bookOk (vsOf M) with
    | false =>
      rw [hb, if_neg (by simp)] at hr'
      subst hr'
      exact rFits_nobook A B c d L M w hA hB hl.1 (by omega) (Lib.hid h0) (Lib.hid hb)
    | true =>
      refine rFits_book A B c d L M w hA hB hl.1 hm (Lib.hid h0) (Lib.hid hb) r (Lib.hid ?_)
      rw [hb] at hr'
      rw [← hr']
      by_cases hz : L.length = 0
      · have : vsOf L = [] := List.length_eq_zero_iff.1 (by rw [e1]; exact hz)
        simp [hz, this]
      · have : vsOf L ≠ [] := fun e => hz (by rw [← e1, e]; rfl)
        simp [hz, this]
  · refine rFits_bad A B c d L M w hA hn r (Lib.hid ?_) ?_
    · unfold vecR at h0 ⊢
      rw [e1] at h0 ⊢
      by_cases hl : 10000 < L.length
      · rw [if_pos hl]; rw [if_pos (.inl hl)] at hr'; exact hr'
      · rw [if_neg hl] at h0 ⊢
        rw [if_neg (by omega)] at hr'
        cases hv : vecOk (vsOf L) with
        | true => rw [hv, if_pos rfl] at h0; exact absurd rfl h0
        | false => rw [hv, if_neg (by simp)] at hr'; rw [if_neg (by simp)]; exact hr'
    · rw [← hr']
      by_cases hl : 10000 < L.length
      · rw [if_pos (.inl hl)]; omega
      · rw [if_neg (by omega)]
        have : vecOk (vsOf L) ≠ true := fun e => h0 (vecR_ok.2 ⟨by rw [e1]; omega, e⟩)
        rw [if_neg (fun h => this h.1)]; omega
set_option maxRecDepth 100000 in
set_option maxHeartbeats 4000000 in
theorem FeatureQuantizes_bad (A B : Option Addr) (c d : Nat) (L M : List Inn) (w : World) (hA : LL w A L) (hB : LL w B M) (hn : L.length ≤ 9223372036854775807) (hm : M.length ≤ 40) (hC : CosOk w) (hk : Kn) (hf : Hid (fewR (vsOf L) 40 = true)) (hg : Hid (fewR (vsOf M) 40 = true)) (r : Int) (hr : Hid (fitR (vsOf L) (vsOf M) = r)) (h0 : r ≠ 0) :
    Calls Tryd.prog 13 #[.slice A L.length c, .slice B M.length d] w (RetB true w) := by
  have q0 : (r != 0) = true := by simpa using h0
  go_enter Tryd.func13, Tryd.ntmps13
  go_wp2_with fail
  refine (few_any A c 40 L w hA hn (by omega) true hf).mono ?_
  rintro e w' ⟨rfl, rfl⟩
  go_wp2_with fail
  refine (few_any B d 40 M w hB (by omega) (by omega) true hg).mono ?_
  rintro e w' ⟨rfl, rfl⟩
  go_wp2_with fail
  refine (Quantize_any A B c d L M w hA hB r [] (Lib.hid (by rw [quaR, hr.out, if_neg h0]))).mono ?_
  rintro e w1 ⟨A1, c1, rfl, -, hb1⟩
  have LA1 := Lib.hid (hA.below hb1)
  have LB1 := Lib.hid (hB.below hb1)
  have B1 := Lib.hid hb1
  clear hb1
  go_wp2_with fail
  refine (Cost_any A B c d L M w1 LA1.out LB1.out r 0 (Lib.hid (by rw [costR, hr.out, if_neg h0]))).mono ?_
  rintro e w2 ⟨rfl, hb2⟩
  have LA2 := Lib.hid (LA1.out.below hb2)
  have LB2 := Lib.hid (LB1.out.below hb2)
  have B2 := Lib.hid (B1.out.trans (hb2.mono B1.out.size))
  clear hb2 LA1 LB1 B1
  go_wp2_with fail
  refine (rFits_any A B c d L M w2 LA2.out LB2.out hn (by omega) r hr).mono ?_
  rintro e w3 ⟨rfl, n3, rfl⟩
  have B3 := Lib.hid (B2.out.trans (below_drewN' (B := w.heap.size) w2 n3))
  go_wp2_with fail
  refine (hk _ (hC.below B3.out)).mono ?_
  rintro e w9 ⟨rfl, hb9⟩
  go_wp2_with fail
  go_ret
  exact ⟨rfl, B3.out.trans (hb9.mono B3.out.size)⟩
set_option maxRecDepth 100000 in
set_option maxHeartbeats 4000000 in
theorem FeatureQuantizes_ok (A B : Option Addr) (c d : Nat) (L M : List Inn) (w : World) (hA : LL w A L) (hB : LL w B M) (hn : L.length ≤ 10000) (hm : M.length ≤ 40) (hC : CosOk w) (hk : Kn) (hf : Hid (fewR (vsOf L) 40 = true)) (hg : Hid (fewR (vsOf M) 40 = true)) (hr : Hid (fitR (vsOf L) (vsOf M) = 0)) :
    Calls Tryd.prog 13 #[.slice A L.length c, .slice B M.length d] w (RetB true w) := by
  have NQ : Hid ((qL (vsOf L) (vsOf M)).length ≤ 10000) := Lib.hid (by unfold qL; simpa using hn)
  go_enter Tryd.func13, Tryd.ntmps13
  go_wp2_with fail
  refine (few_any A c 40 L w hA (by omega) (by omega) true hf).mono ?_
  rintro e w' ⟨rfl, rfl⟩
  go_wp2_with fail
  refine (few_any B d 40 M w hB (by omega) (by omega) true hg).mono ?_
  rintro e w' ⟨rfl, rfl⟩
  go_wp2_with fail
  refine (Quantize_any A B c d L M w hA hB 0 (qL (vsOf L) (vsOf M)) (Lib.hid (by rw [quaR, if_pos hr.out]))).mono ?_
  rintro e w1 ⟨A1, c1, rfl, ho1, hb1⟩
  have LA1 := Lib.hid (hA.below hb1)
  have LB1 := Lib.hid (hB.below hb1)
  have Q1 := Lib.hid (Lies.of_own ho1)
  have B1 := Lib.hid hb1
  clear hb1 ho1
  go_wp2_with fail
  refine (Cost_any A B c d L M w1 LA1.out LB1.out 0 (costL (vsOf L) (vsOf M)) (Lib.hid (by rw [costR, if_pos hr.out]))).mono ?_
  rintro e w2 ⟨rfl, hb2⟩
  have LA2 := Lib.hid (LA1.out.below hb2)
  have LB2 := Lib.hid (LB1.out.below hb2)
  have Q2 := Lib.hid (Q1.out.below hb2)
  have B2 := Lib.hid (B1.out.trans (hb2.mono B1.out.size))
  clear hb2 LA1 LB1 B1 Q1
  go_wp2_with fail
  refine (rFits_any A B c d L M w2 LA2.out LB2.out (by omega) (by omega) 0 hr).mono ?_
  rintro e w3 ⟨rfl, n3, hw3⟩
  have LA3 : Hid (LL w3 A L) := Lib.hid (by rw [hw3]; exact LA2.out.below (below_drewN' _ _))
  have LB3 : Hid (LL w3 B M) := Lib.hid (by rw [hw3]; exact LB2.out.below (below_drewN' _ _))
  have Q3 : Hid (Lies w3 A1 (ics (qL (vsOf L) (vsOf M)))) := Lib.hid (by rw [hw3]; exact Q2.out.drewN n3)
  have B3 : Hid (Below w.heap.size w w3) := Lib.hid (by rw [hw3]; exact B2.out.trans (below_drewN' _ _))
  clear hw3 LA2 LB2 Q2 B2
  go_wp2_with fail
  refine (rQuantize_any A B c d L M w3 LA3.out LB3.out hr.out).mono ?_
  rintro e w4 ⟨A4, c4, rfl, ho4, hb4⟩
  have LA4 := Lib.hid (LA3.out.below hb4)
  have LB4 := Lib.hid (LB3.out.below hb4)
  have Q4 := Lib.hid (Q3.out.below hb4)
  have P4 := Lib.hid (Lies.of_own ho4)
  have B4 := Lib.hid (B3.out.trans (hb4.mono B3.out.size))
  clear hb4 ho4 LA3 LB3 Q3 B3
  go_wp2_with fail
  refine (same_b A1 A4 c1 c4 _ _ w4 Q4.out P4.out (by have := NQ.out; omega) (by have := NQ.out; omega) true (Lib.hid (decide_eq_true rfl))).mono ?_
  rintro e w5 ⟨rfl, hb5⟩
  have LA5 := Lib.hid (LA4.out.below hb5)
  have LB5 := Lib.hid (LB4.out.below hb5)
  have B5 := Lib.hid (B4.out.trans (hb5.mono B4.out.size))
  clear hb5 LA4 LB4 B4
  go_wp2_with fail
  refine (rCost_any A B c d L M w5 LA5.out LB5.out hr.out).mono ?_
  rintro e w6 ⟨rfl, n6, rfl⟩
  have B6 := Lib.hid (B5.out.trans (below_drewN' (B := w.heap.size) w5 n6))
  go_wp2_with fail
  refine (hk _ (hC.below B6.out)).mono ?_
  rintro e w9 ⟨rfl, hb9⟩
  go_wp2_with fail
  go_ret
  exact ⟨rfl, B6.out.trans (hb9.mono B6.out.size)⟩
set_option maxRecDepth 100000 in
set_option maxHeartbeats 4000000 in
theorem FeatureQuantizes_o1 (A B : Option Addr) (c d : Nat) (L M : List Inn) (w : World) (hA : LL w A L) (hn : L.length ≤ 9223372036854775807) (hC : CosOk w) (hk : Kn) (hf : Hid (fewR (vsOf L) 40 = false)) :
    Calls Tryd.prog 13 #[.slice A L.length c, .slice B M.length d] w (RetB true w) := by
  go_enter Tryd.func13, Tryd.ntmps13
  go_wp2_with fail
  refine (few_any A c 40 L w hA hn (by omega) false hf).mono ?_
  rintro e w' ⟨rfl, rfl⟩
  go_wp2_with fail
  refine (hk _ hC).mono ?_
  rintro e w9 ⟨rfl, hb9⟩
  go_wp2_with fail
  go_ret
  exact ⟨rfl, hb9⟩
set_option maxRecDepth 100000 in
set_option maxHeartbeats 4000000 in
theorem FeatureQuantizes_o2 (A B : Option Addr) (c d : Nat) (L M : List Inn) (w : World) (hA : LL w A L) (hB : LL w B M) (hn : L.length ≤ 9223372036854775807) (hm : M.length ≤ 9223372036854775807) (hC : CosOk w) (hk : Kn) (hf : Hid (fewR (vsOf L) 40 = true)) (hg : Hid (fewR (vsOf M) 40 = false)) :
    Calls Tryd.prog 13 #[.slice A L.length c, .slice B M.length d] w (RetB true w) := by
  go_enter Tryd.func13, Tryd.ntmps13
  go_wp2_with fail
  refine (few_any A c 40 L w hA hn (by omega) true hf).mono ?_
  rintro e w' ⟨rfl, rfl⟩
  go_wp2_with fail
  refine (few_any B d 40 M w hB hm (by omega) false hg).mono ?_
  rintro e w' ⟨rfl, rfl⟩
  go_wp2_with fail
  refine (hk _ hC).mono ?_
  rintro e w9 ⟨rfl, hb9⟩
  go_wp2_with fail
  go_ret
  exact ⟨rfl, hb9⟩
set_option maxRecDepth 100000 in
set_option maxHeartbeats 4000000 in
theorem FeatureQuantizes_o3 (A B : Option Addr) (c d : Nat) (L M : List Inn) (w : World) (hA : LL w A L) (hB : LL w B M) (hn : L.length ≤ 9223372036854775807) (hm : M.length ≤ 9223372036854775807) (hC : CosOk w) (hk : Kn) (hf : Hid (fewR (vsOf L) 40 = true)) (hg : Hid (fewR (vsOf M) 40 = true)) (h40 : 40 < M.length) :
    Calls Tryd.prog 13 #[.slice A L.length c, .slice B M.length d] w (RetB true w) := by
  go_enter Tryd.func13, Tryd.ntmps13
  go_wp2_with fail
  refine (few_any A c 40 L w hA hn (by omega) true hf).mono ?_
  rintro e w' ⟨rfl, rfl⟩
  go_wp2_with fail
  refine (few_any B d 40 M w hB hm (by omega) true hg).mono ?_
  rintro e w' ⟨rfl, rfl⟩
  go_wp2_with fail
  refine (hk _ hC).mono ?_
  rintro e w9 ⟨rfl, hb9⟩
  go_wp2_with fail
  go_ret
  exact ⟨rfl, hb9⟩
theorem FeatureQuantizes_any (A B : Option Addr) (c d : Nat) (L M : List Inn) (w : World) (hL : Lies w A (lcs L)) (hi : ∀ x ∈ L, InOk w x) (hn : L.length ≤ 9223372036854775807) (hM : Lies w B (lcs M)) (hj : ∀ x ∈ M, InOk w x) (hm : M.length ≤ 9223372036854775807) (hC : CosOk w) (hk : Kn) :
    Calls Tryd.prog 13 #[.slice A L.length c, .slice B M.length d] w (RetB true w) := by
  have hA : LL w A L := ⟨hL, hi⟩
  have hB : LL w B M := ⟨hM, hj⟩
  cases hf : fewR (vsOf L) 40 with
  | false => exact FeatureQuantizes_o1 A B c d L M w hA hn hC hk (Lib.hid hf)
  | true =>
    cases hg : fewR (vsOf M) 40 with
    | false => exact FeatureQuantizes_o2 A B c d L M w hA hB hn hm hC hk (Lib.hid hf) (Lib.hid hg)
    | true =>
      by_cases h40 : 40 < M.length
      · exact FeatureQuantizes_o3 A B c d L M w hA hB hn hm hC hk (Lib.hid hf) (Lib.hid hg) h40
      · by_cases h0 : fitR (vsOf L) (vsOf M) = 0
        · have hl := (fitR_ok.1 h0).1
          have hvl : (vsOf L).length = L.length := by simp
          exact FeatureQuantizes_ok A B c d L M w hA hB (by omega) (by omega) hC hk (Lib.hid hf) (Lib.hid hg) (Lib.hid h0)
        · exact FeatureQuantizes_bad A B c d L M w hA hB hn (by omega) hC hk (Lib.hid hf) (Lib.hid hg) _ (Lib.hid rfl) h0
end Go.Proofs.YtfapmghhmkekaaaDoor
