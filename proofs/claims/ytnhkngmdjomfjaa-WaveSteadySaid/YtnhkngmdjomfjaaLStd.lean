/- WaveSteady: the walk -/
import Derived.Test.YtnhkngmdjomfjaaLRes
namespace Go.Proofs.Ytnhkngmdjomfjaa
open Go.RowKit Ear

set_option maxRecDepth 100000 in
set_option maxHeartbeats 2000000 in
theorem WaveSteady_bad (rate : Int) (A : Option Addr) (c : Nat) (l : List Int) (u d : Int) (w : World) (h : Lies w A (ics l)) (hn : l.length ≤ 9223372036854775807) (hb : 2000 < l.length ∨ (l.length ≤ 2000 ∧ Hid (decide (chk rate l = 0) = false))) :
    Calls Try.prog 4 #[recV rate A l.length c, .int .i64 u, .int .i64 d] w fun e w' => e = .returned (.bool true) ∧ Below w.heap.size w w' := by
  have HL := Lib.hid (fun o => h.alloc (w := w) o)
  rcases hb with hb | ⟨hb, hv⟩
  · go_enter Try.func4, Try.ntmps4
    go_wp2_with fail
    refine (known2_any _).mono ?_
    rintro e w7 ⟨rfl, hb7⟩
    go_wp2_with fail
    go_ret
    exact ⟨rfl, bel_trans (bel_alloc (Below.refl _ w) _) hb7⟩
  · go_enter Try.func4, Try.ntmps4
    go_wp2_with fail
    refine (rValid_any rate A c l _ (HL.out _) hn false hv).mono ?_
    rintro e w1 ⟨rfl, hb1⟩
    go_wp2_with fail
    refine (known2_any _).mono ?_
    rintro e w7 ⟨rfl, hb7⟩
    go_wp2_with fail
    go_ret
    exact ⟨rfl, bel_trans (bel_trans (bel_alloc (Below.refl _ w) _) hb1) hb7⟩

set_option maxRecDepth 100000 in
set_option maxHeartbeats 2000000 in
theorem WaveSteady_no (rate : Int) (A : Option Addr) (c : Nat) (l : List Int) (u d : Int) (w : World) (h : Lies w A (ics l)) (hl : l.length ≤ 2000) (hv : Hid (decide (chk rate l = 0) = true)) (err : Int) (ho : Hid (resR rate l u d = (0, err, []))) (he : (err != 0) = true) :
    Calls Try.prog 4 #[recV rate A l.length c, .int .i64 u, .int .i64 d] w fun e w' => e = .returned (.bool true) ∧ Below w.heap.size w w' := by
  have HL := Lib.hid (fun o => h.alloc (w := w) o)
  go_enter Try.func4, Try.ntmps4
  go_wp2_with fail
  refine (rValid_any rate A c l _ (HL.out _) (by omega) true hv).mono ?_
  rintro e w1 ⟨rfl, hb1⟩
  have R0 := row_keep (heap_alloc_new w _) hb1
  have q0 := cell_of_row w1 _ 0 _ _ _ R0
  have q1 := cell_of_row w1 _ 1 _ _ _ R0
  simp at q0 q1
  have B1 := Lib.hid (bel_trans (bel_alloc (Below.refl _ w) _) hb1)
  have L1 := Lib.hid ((HL.out _).below hb1)
  clear R0 hb1
  go_wp2_with fail
  refine (Resample_any rate A c l u d _ L1.out (by omega) 0 err [] ho).mono ?_
  rintro e w2 ⟨A2, c2, rfl, ho2, hb2⟩
  have B2 := Lib.hid (bel_trans B1.out hb2)
  simp only [List.length_nil]
  clear ho2 hb2 q0 q1
  go_wp2_with fail
  refine (known2_any _).mono ?_
  rintro e w7 ⟨rfl, hb7⟩
  go_wp2_with fail
  go_ret
  exact ⟨rfl, bel_trans (bel_alloc B2.out _) hb7⟩

set_option maxRecDepth 100000 in
set_option maxHeartbeats 2000000 in
theorem WaveSteady_empty (rate : Int) (A : Option Addr) (c : Nat) (u d rt : Int) (w : World) (hv : Hid (decide (chk rate [] = 0) = true)) (ho : Hid (resR rate [] u d = (rt, 0, []))) :
    Calls Try.prog 4 #[recV rate A 0 c, .int .i64 u, .int .i64 d] w fun e w' => e = .returned (.bool true) ∧ Below w.heap.size w w' := by
  cases hud : u == d
  all_goals
    go_enter Try.func4, Try.ntmps4
    go_wp2_with fail
    refine (rValid_any rate A c [] _ (Lies.nil _ _) (by simp) true hv).mono ?_
    rintro e w1 ⟨rfl, hb1⟩
    have R0 := row_keep (heap_alloc_new w _) hb1
    have q0 := cell_of_row w1 _ 0 _ _ _ R0
    have q1 := cell_of_row w1 _ 1 _ _ _ R0
    simp at q0 q1
    have hz0 := row_lt R0
    have B1 := Lib.hid (bel_trans (bel_alloc (Below.refl _ w) _) hb1)
    clear hb1
    go_wp2_with fail
    refine (Resample_any rate A c [] u d _ (Lies.nil _ _) (by simp) rt 0 [] ho).mono ?_
    rintro e w2 ⟨A2, c2, rfl, ho2, hb2⟩
    have B2 := Lib.hid (bel_trans B1.out hb2)
    have R0' := row_keep R0 hb2
    clear q0 q1
    have q0 := cell_of_row w2 _ 0 _ _ _ R0'
    have q1 := cell_of_row w2 _ 1 _ _ _ R0'
    simp at q0 q1
    have hz2 := row_lt R0'
    simp only [List.length_nil]
    clear ho2 hb2 R0 R0' hz0
  · go_wp2_with fail
    refine (known2_any _).mono ?_
    rintro e w7 ⟨rfl, hb7⟩
    go_wp2_with fail
    go_ret
    exact ⟨rfl, bel_trans (bel_alloc B2.out _) hb7⟩
  · go_wp2_with fail
    refine (same_bel A2 A c2 c [] [] _ (Lies.nil _ _) (Lies.nil _ _) (by simp) (by simp) true (Lib.hid (by simp))).mono ?_
    rintro e w3 ⟨rfl, hb3⟩
    have B3 := Lib.hid (bel_trans (bel_alloc B2.out _) hb3)
    have y1 : w3.cell? ⟨w.heap.size, 1, none⟩ = some (.slice A 0 c) := (hb3.cell (p := ⟨w.heap.size, 1, none⟩) (by simp; omega)).trans ((World.cell?_of_block (w := w2) (Below.heap_alloc w2 _ w.heap.size hz2)).trans q1)
    clear hb3 q0 q1
    go_wp2_with fail
    refine (known2_any _).mono ?_
    rintro e w7 ⟨rfl, hb7⟩
    go_wp2_with fail
    go_ret
    exact ⟨rfl, bel_trans B3.out hb7⟩

set_option maxRecDepth 100000 in
set_option maxHeartbeats 2000000 in
theorem WaveSteady_ok (rate : Int) (A : Option Addr) (c : Nat) (l : List Int) (u d rt : Int) (w : World) (h : Lies w A (ics l)) (hl : l.length ≤ 2000) (hl0 : 0 < l.length) (hs : Hid (smp l = true)) (hv : Hid (decide (chk rate l = 0) = true)) (out : List Int) (ho : Hid (resR rate l u d = (rt, 0, out)))
    (ho0 : 0 < out.length) (hol : out.length ≤ 200000) (hsame : Hid (u = d → out = l)) (hin : Hid (allR (lowTo l l.length) (highTo l l.length) out = true)) (hrt : (rt * d == rate * u) = true) (m1 : 0 ≤ rt * d) (m2 : rt * d ≤ 3072000) (m3 : 0 ≤ rate * u) (m4 : rate * u ≤ 3072000) :
    Calls Try.prog 4 #[recV rate A l.length c, .int .i64 u, .int .i64 d] w fun e w' => e = .returned (.bool true) ∧ Below w.heap.size w w' := by
  have HL := Lib.hid (fun o => h.alloc (w := w) o)
  have z1 : ((l.length : Int) == 0) = false := by simp; intro h; subst h; simp at hl0
  have z2 : ((out.length : Int) == 0) = false := by simp; intro h; subst h; simp at ho0
  have z3 : decide ((2000 : Int) < l.length) = false := by simp; omega
  have HRT := Lib.hid hrt
  clear hrt
  cases hud : u == d
  all_goals
    go_enter Try.func4, Try.ntmps4
    go_wp2_with fail
    refine (rValid_any rate A c l _ (HL.out _) (by omega) true hv).mono ?_
    rintro e w1 ⟨rfl, hb1⟩
    have R0 := row_keep (heap_alloc_new w _) hb1
    have q0 := cell_of_row w1 _ 0 _ _ _ R0
    have q1 := cell_of_row w1 _ 1 _ _ _ R0
    simp at q0 q1
    have hz0 := row_lt R0
    have B1 := Lib.hid (bel_trans (bel_alloc (Below.refl _ w) _) hb1)
    have L1 := Lib.hid ((HL.out _).below hb1)
    clear hb1
    go_wp2_with fail
    refine (Resample_any rate A c l u d _ L1.out (by omega) rt 0 out ho).mono ?_
    rintro e w2 ⟨A2, c2, rfl, ho2, hb2⟩
    have B2 := Lib.hid (bel_trans B1.out hb2)
    have R0' := row_keep R0 hb2
    clear q0 q1
    have q0 := cell_of_row w2 _ 0 _ _ _ R0'
    have q1 := cell_of_row w2 _ 1 _ _ _ R0'
    simp at q0 q1
    have hz2 := row_lt R0'
    have L2 := Lib.hid (L1.out.below hb2)
    have LO := Lib.hid (Lies.of_own ho2)
    clear ho2 hb2 R0 hz0 L1
  · go_wp2_with fail
    obtain ⟨V, hV⟩ : ∃ V : World, V = w2.alloc (.cells #[.int .i64 rt, .slice A2 out.length c2] 24) := ⟨_, rfl⟩
    rw [← hV]
    have y0 : V.cell? ⟨w.heap.size, 0, none⟩ = some (.int .i64 rate) := by rw [hV]; exact (World.cell?_of_block (w := w2) (Below.heap_alloc w2 _ w.heap.size hz2)).trans q0
    have y1 : V.cell? ⟨w.heap.size, 1, none⟩ = some (.slice A l.length c) := by rw [hV]; exact (World.cell?_of_block (w := w2) (Below.heap_alloc w2 _ w.heap.size hz2)).trans q1
    have RV : V.heap[w2.heap.size]? = some (.cells #[.int .i64 rt, .slice A2 out.length c2] 24 (0, 0)) := by rw [hV]; exact heap_alloc_new w2 _
    have LV : Hid (Lies V A (ics l)) := by rw [hV]; exact L2.out.alloc _
    have LOV : Hid (Lies V A2 (ics out)) := by rw [hV]; exact LO.out.alloc _
    have BV : Hid (Below w.heap.size w V) := by rw [hV]; exact bel_alloc B2.out _
    clear hV q0 q1 L2 LO B1 B2 R0'
    have s0 := cell_of_row V _ 0 _ _ _ RV
    have s1 := cell_of_row V _ 1 _ _ _ RV
    simp at s0 s1
    clear RV hz2
    obtain ⟨b0, o0, rfl, hb0, hc0⟩ := LV.out.at_ hl0
    rw [Nat.add_zero] at hc0
    generalize hx0 : l[0]?.getD 0 = x0 at hc0
    have HX0 := Lib.hid hx0
    clear hx0
    go_wp2_with fail
    go_quiet (fail)
    go_wp2_with fail
    clear hc0
    go_loopw [9, 10, 11] (fun lo hi i wr => ∃ k : Nat, k ≤ l.length ∧ i = .int .i64 k ∧ lo = .int .i64 (lowTo l k) ∧ hi = .int .i64 (highTo l k) ∧ ∃ n, wr = V.drewN n) (fun _ _ i _ => l.length - (intOf i).toNat)
    case atStart => exact ⟨0, by omega, rfl, by rw [lowTo, HX0.out], by rw [highTo, HX0.out], _, rfl⟩
    case round =>
      obtain ⟨k, hk, rfl, rfl, rfl, n, rfl⟩ := hrel
      by_cases hlt : k < l.length
      · obtain ⟨b1, o1, eb, hb1, hc1⟩ := LV.out.at_ hlt
        cases eb
        have e1 : lowTo l (k + 1) = min (lowTo l k) (l[k]?.getD 0) := rfl
        have e2 : highTo l (k + 1) = max (highTo l k) (l[k]?.getD 0) := rfl
        generalize hx1 : l[k]?.getD 0 = x1 at *
        generalize hx2 : lowTo l k = x2 at *
        generalize hx3 : highTo l k = x3 at *
        have E1 := Lib.hid e1
        have E2 := Lib.hid e2
        clear e1 e2 hx1 hx2 hx3
        go_wp2_with fail
        go_quiet (fail)
        go_wp2_with fail
        go_roundw
        case rel => exact ⟨k + 1, by omega, by go_num, by rw [E1.out]; exact congrArg _ (by split <;> omega), by rw [E2.out]; exact congrArg _ (by split <;> omega), _, rfl⟩
        case measure => simp [intOf]; omega
      · obtain rfl : k = l.length := by omega
        go_wp2_with fail
        refine (All_any A2 c2 out _ _ _ (LOV.out.drewN _) (by omega) true hin).mono ?_
        rintro e w' ⟨rfl, rfl⟩
        have hrt := HRT.out
        go_wp2_with fail
        refine (known2_any _).mono ?_
        rintro e w7 ⟨rfl, hb7⟩
        go_wp2_with fail
        go_ret
        exact ⟨rfl, bel_trans (bel_trans BV.out (below_drewN V _)) hb7⟩
  · go_wp2_with fail
    refine (same_bel A2 A c2 c out l _ (LO.out.alloc _) (L2.out.alloc _) (by omega) (by omega) true (Lib.hid (by simpa using hsame.out (by simpa using hud)))).mono ?_
    rintro e V ⟨rfl, hb3⟩
    have RV := row_keep (heap_alloc_new w2 _) hb3
    have RW := row_keep (row_alloc R0' _) hb3
    have y0 := cell_of_row V _ 0 _ _ _ RW
    have y1 := cell_of_row V _ 1 _ _ _ RW
    simp at y0 y1
    have LV : Hid (Lies V A (ics l)) := (L2.out.alloc _).below hb3
    have LOV : Hid (Lies V A2 (ics out)) := (LO.out.alloc _).below hb3
    have BV : Hid (Below w.heap.size w V) := bel_trans (bel_alloc B2.out _) hb3
    clear hb3 q0 q1 L2 LO B1 B2 R0' RW
    have s0 := cell_of_row V _ 0 _ _ _ RV
    have s1 := cell_of_row V _ 1 _ _ _ RV
    simp at s0 s1
    clear RV hz2
    obtain ⟨b0, o0, rfl, hb0, hc0⟩ := LV.out.at_ hl0
    rw [Nat.add_zero] at hc0
    generalize hx0 : l[0]?.getD 0 = x0 at hc0
    have HX0 := Lib.hid hx0
    clear hx0
    go_wp2_with fail
    go_quiet (fail)
    go_wp2_with fail
    clear hc0
    go_loopw [9, 10, 11] (fun lo hi i wr => ∃ k : Nat, k ≤ l.length ∧ i = .int .i64 k ∧ lo = .int .i64 (lowTo l k) ∧ hi = .int .i64 (highTo l k) ∧ ∃ n, wr = V.drewN n) (fun _ _ i _ => l.length - (intOf i).toNat)
    case atStart => exact ⟨0, by omega, rfl, by rw [lowTo, HX0.out], by rw [highTo, HX0.out], _, rfl⟩
    case round =>
      obtain ⟨k, hk, rfl, rfl, rfl, n, rfl⟩ := hrel
      by_cases hlt : k < l.length
      · obtain ⟨b1, o1, eb, hb1, hc1⟩ := LV.out.at_ hlt
        cases eb
        have e1 : lowTo l (k + 1) = min (lowTo l k) (l[k]?.getD 0) := rfl
        have e2 : highTo l (k + 1) = max (highTo l k) (l[k]?.getD 0) := rfl
        generalize hx1 : l[k]?.getD 0 = x1 at *
        generalize hx2 : lowTo l k = x2 at *
        generalize hx3 : highTo l k = x3 at *
        have E1 := Lib.hid e1
        have E2 := Lib.hid e2
        clear e1 e2 hx1 hx2 hx3
        go_wp2_with fail
        go_quiet (fail)
        go_wp2_with fail
        go_roundw
        case rel => exact ⟨k + 1, by omega, by go_num, by rw [E1.out]; exact congrArg _ (by split <;> omega), by rw [E2.out]; exact congrArg _ (by split <;> omega), _, rfl⟩
        case measure => simp [intOf]; omega
      · obtain rfl : k = l.length := by omega
        go_wp2_with fail
        refine (All_any A2 c2 out _ _ _ (LOV.out.drewN _) (by omega) true hin).mono ?_
        rintro e w' ⟨rfl, rfl⟩
        have hrt := HRT.out
        go_wp2_with fail
        refine (known2_any _).mono ?_
        rintro e w7 ⟨rfl, hb7⟩
        go_wp2_with fail
        go_ret
        exact ⟨rfl, bel_trans (bel_trans BV.out (below_drewN V _)) hb7⟩
theorem WaveSteady_any (rate : Int) (A : Option Addr) (c : Nat) (l : List Int) (u d : Int) (w : World) (h : Lies w A (ics l)) (hn : l.length ≤ 9223372036854775807) :
    Calls Try.prog 4 #[recV rate A l.length c, .int .i64 u, .int .i64 d] w fun e w' => e = .returned (.bool true) ∧ Below w.heap.size w w' := by
  by_cases hl : 2000 < l.length
  · exact WaveSteady_bad rate A c l u d w h hn (.inl hl)
  by_cases hc : chk rate l = 0
  · have hv : Hid (decide (chk rate l = 0) = true) := Lib.hid (by simp [hc])
    by_cases hk : reschk rate l u d = 0
    · have ho : resR rate l u d = (rate * u / d, 0, rsm l u.toNat d.toNat) := by unfold resR; rw [if_pos hk]
      obtain ⟨_, hok, _⟩ := reschk_ok.1 hk
      obtain ⟨u1, u2, d1, d2, k1, k2, k3⟩ := hok
      obtain ⟨l1, l2, l3, l4⟩ := chk_ok.1 hc
      obtain ⟨m1, m2⟩ := mul_facts (u := u) l2 l3
      have hrb := rate_back k1
      by_cases hl0 : 0 < l.length
      · have hlen := resR_len rate l u d
        rw [ho] at hlen
        refine WaveSteady_ok rate A c l u d _ w h (by omega) hl0 (Lib.hid l4) hv _ (Lib.hid ho) ?_ hlen (Lib.hid ?_) (Lib.hid (rsm_all hl0 (by omega) (by omega))) (by rw [hrb]; simp) (by omega) (by omega) (by omega) (by omega)
        · have := @rsm_empty l u.toNat d.toNat (by omega) (by omega)
          omega
        · rintro rfl
          exact rsm_same l (by omega)
      · obtain rfl : l = [] := List.length_eq_zero_iff.1 (by omega)
        have he : rsm [] u.toNat d.toNat = [] := List.length_eq_zero_iff.1 ((rsm_empty (by omega) (by omega)).2 rfl)
        rw [he] at ho
        exact WaveSteady_empty rate A c u d _ w hv (Lib.hid ho)
    · have ho : resR rate l u d = (0, reschk rate l u d, []) := by unfold resR; rw [if_neg hk]
      exact WaveSteady_no rate A c l u d w h (by omega) hv _ (Lib.hid ho) (by simp [hk])
  · exact WaveSteady_bad rate A c l u d w h hn (.inr ⟨by omega, Lib.hid (by simp [hc])⟩)
end Go.Proofs.Ytnhkngmdjomfjaa
