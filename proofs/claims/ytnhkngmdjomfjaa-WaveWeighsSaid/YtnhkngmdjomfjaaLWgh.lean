/- WaveWeighs: the walk -/
import Derived.Test.YtnhkngmdjomfjaaKnown
import Derived.Test.YtnhkngmdjomfjaaRWgh
import Derived.Test.YtnhkngmdjomfjaaPWgh
import Derived.Test.YtnhkngmdjomfjaaMeas2
namespace Go.Proofs.Ytnhkngmdjomfjaa
open Go.RowKit Ear

set_option maxHeartbeats 2000000 in
theorem WaveWeighs_far (A : Option Addr) (c : Nat) (l : List Int) (kind : Int) (w : World) (hl : 5000 < l.length) :
    Calls Try.prog 11 #[.slice A l.length c, .int .i64 kind] w fun e w' => e = .returned (.bool true) ∧ Below w.heap.size w w' := by
  go_enter Try.func11, Try.ntmps11
  go_wp2_with fail
  refine (known2_any _).mono ?_
  rintro e w7 ⟨rfl, hb7⟩
  go_wp2_with fail
  go_ret
  exact ⟨rfl, hb7⟩

set_option maxHeartbeats 2000000 in
theorem WaveWeighs_no (A : Option Addr) (c : Nat) (l : List Int) (kind : Int) (w : World) (h : Lies w A (ics l)) (hl : l.length ≤ 5000)
    (hW : ∀ w, Lies w A (ics l) → Calls Try.prog 39 #[.slice A l.length c, .int .i64 kind] w (IntsErr 2 [] w)) (hR : ∀ w, Lies w A (ics l) → Calls Try.prog 40 #[.slice A l.length c, .int .i64 kind] w (IntsBool false [] w)) :
    Calls Try.prog 11 #[.slice A l.length c, .int .i64 kind] w fun e w' => e = .returned (.bool true) ∧ Below w.heap.size w w' := by
  have HW := Lib.hid hW
  have HR := Lib.hid hR
  clear hW hR
  go_enter Try.func11, Try.ntmps11
  go_wp2_with fail
  refine (HW.out _ h).mono ?_
  rintro e w1 ⟨A1, c1, rfl, ho1, hb1⟩
  have L1 := Lib.hid (h.below hb1)
  simp only [List.length_nil]
  go_wp2_with fail
  refine (HR.out _ L1.out).mono ?_
  rintro e w2 ⟨A2, c2, rfl, ho2, hb2⟩
  have B2 := Lib.hid (bel_trans hb1 hb2)
  simp only [List.length_nil]
  clear hb1 hb2 ho1 ho2
  go_wp2_with fail
  refine (known2_any _).mono ?_
  rintro e w7 ⟨rfl, hb7⟩
  go_wp2_with fail
  go_ret
  exact ⟨rfl, bel_trans B2.out hb7⟩

set_option maxRecDepth 100000 in
set_option maxHeartbeats 2000000 in
theorem WaveWeighs_ok (A : Option Addr) (c : Nat) (l : List Int) (kind : Int) (w : World) (h : Lies w A (ics l)) (hk1 : 1 ≤ kind) (hk3 : kind ≤ 3) (hs1 : 1 ≤ l.length) (hs2 : l.length ≤ 4096) (hv : Hid (vls l = true)) (hc : Hid (vchk l = 0))
    (r1 r2 v1 v2 : Int) (hr1 : Hid (echk l = r1)) (hr2 : Hid (echk (wgh l kind) = r2)) (hv1 : Hid ((if r1 = 0 then enr l else 0) = v1)) (hv2 : Hid ((if r2 = 0 then enr (wgh l kind) else 0) = v2))
    (hh : ((r1 != 0) = true) ∨ ((r1 != 0) = false ∧ (r2 == 0) = true ∧ v2 ≤ v1)) :
    Calls Try.prog 11 #[.slice A l.length c, .int .i64 kind] w fun e w' => e = .returned (.bool true) ∧ Below w.heap.size w w' := by
  have HLN := Lib.hid (wgh_length l kind)
  rcases hh with h1 | ⟨h1, h2, h3⟩
  all_goals
    go_enter Try.func11, Try.ntmps11
    go_wp2_with fail
    refine (Weigh_ok A c l kind _ h hc hk1 hk3 hs1 hs2).mono ?_
    rintro e w1 ⟨A1, c1, rfl, ho1, hb1⟩
    have L1 := Lib.hid (h.below hb1)
    have LA := Lib.hid (Lies.of_own ho1)
    clear ho1
    go_wp2_with fail
    refine (rWeigh_ok A c l kind _ L1.out hk1 hk3 hs1 hs2 hv).mono ?_
    rintro e w2 ⟨A2, c2, rfl, ho2, hb2⟩
    have B2 := Lib.hid (bel_trans hb1 hb2)
    have L2 := Lib.hid (h.below B2.out)
    have LA2 := Lib.hid (LA.out.below hb2)
    have LB := Lib.hid (Lies.of_own ho2)
    clear hb1 hb2 ho2 L1 LA
    go_wp2_with fail
    refine (same_bel A1 A2 c1 c2 (wgh l kind) (wgh l kind) _ LA2.out LB.out (by rw [HLN.out]; omega) (by rw [HLN.out]; omega) true (Lib.hid (by simp))).mono ?_
    rintro e w3 ⟨rfl, hb3⟩
    have B3 := Lib.hid (bel_trans B2.out hb3)
    have L3 := Lib.hid (h.below B3.out)
    have LA3 := Lib.hid (LA2.out.below hb3)
    clear hb3 B2 L2 LA2 LB
    go_wp2_with fail
    refine (Energy_any A c l _ L3.out (by omega) r1 hr1 v1 hv1).mono ?_
    rintro e w' ⟨rfl, rfl⟩
    go_wp2_with fail
    refine (Energy_any A1 c1 (wgh l kind) _ LA3.out (by rw [HLN.out]; omega) r2 hr2 v2 hv2).mono ?_
    rintro e w' ⟨rfl, rfl⟩
    go_wp2_with fail
    refine (known2_any _).mono ?_
    rintro e w7 ⟨rfl, hb7⟩
    go_wp2_with fail
    go_ret
    exact ⟨rfl, bel_trans B3.out hb7⟩

theorem WaveWeighs_any (A : Option Addr) (c : Nat) (l : List Int) (kind : Int) (w : World) (h : Lies w A (ics l)) :
    Calls Try.prog 11 #[.slice A l.length c, .int .i64 kind] w fun e w' => e = .returned (.bool true) ∧ Below w.heap.size w w' := by
  by_cases hl : 5000 < l.length
  · exact WaveWeighs_far A c l kind w hl
  by_cases hb : kind < 1 ∨ 3 < kind ∨ (l.length : Int) < 1 ∨ 4096 < (l.length : Int)
  · cases hv : vls l with
    | false =>
      have hc : vchk l = 2 := by rw [vchk, if_neg (by omega), hv]; rfl
      exact WaveWeighs_no A c l kind w h (by omega) (fun w h => Weigh_chk A c l kind w h (by omega) 2 (Lib.hid hc) (by simp)) (fun w h => rWeigh_bad A c l kind w h (Lib.hid hb))
    | true =>
      have hc : vchk l = 0 := by rw [vchk, if_neg (by omega), hv]; rfl
      exact WaveWeighs_no A c l kind w h (by omega) (fun w h => Weigh_bad A c l kind w h (by omega) (Lib.hid hc) hb) (fun w h => rWeigh_bad A c l kind w h (Lib.hid hb))
  · cases hv : vls l with
    | false =>
      have hc : vchk l = 2 := by rw [vchk, if_neg (by omega), hv]; rfl
      exact WaveWeighs_no A c l kind w h (by omega) (fun w h => Weigh_chk A c l kind w h (by omega) 2 (Lib.hid hc) (by simp)) (fun w h => rWeigh_vls A c l kind w h (by omega) (by omega) (by omega) (by omega) (Lib.hid hv))
    | true =>
      have hc : vchk l = 0 := by rw [vchk, if_neg (by omega), hv]; rfl
      refine WaveWeighs_ok A c l kind w h (by omega) (by omega) (by omega) (by omega) (Lib.hid hv) (Lib.hid hc) _ _ _ _ (Lib.hid rfl) (Lib.hid rfl) (Lib.hid rfl) (Lib.hid rfl) ?_
      by_cases he : echk l = 0
      · have h1 : allR (-65536) 65535 l = true := by
          unfold echk at he
          rw [if_neg (by omega)] at he
          split at he
          · assumption
          · omega
        have h2 : echk (wgh l kind) = 0 := by unfold echk; rw [wgh_length, if_neg (by omega), if_pos (wgh_all h1)]
        refine .inr ⟨by simp [he], by simp [h2], ?_⟩
        rw [if_pos he, if_pos h2]
        exact enr_wgh l kind
      · exact .inl (by simp [he])
end Go.Proofs.Ytnhkngmdjomfjaa
