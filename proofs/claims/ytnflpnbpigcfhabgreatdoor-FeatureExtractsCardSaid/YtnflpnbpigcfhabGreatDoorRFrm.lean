/- the reference's Frames -/
import Derived.Test.YtnflpnbpigcfhabGreatDoorFrmP
import Derived.Test.YtnflpnbpigcfhabGreatDoorMa
import Derived.Test.YtnflpnbpigcfhabGreatDoorMc
namespace Go.Proofs.YtnflpnbpigcfhabGreatDoor
open Go.RowKit Ear

theorem fillTo_skip (f : Nat → Int) (n k : Nat) (h : f k = 0) : fillTo f n k = fillTo f n (k + 1) := by
  unfold fillTo
  apply List.map_congr_left
  intro q _
  by_cases h1 : q < k
  · rw [if_pos h1, if_pos (by omega)]
  · rw [if_neg h1]
    by_cases h2 : q = k
    · subst h2; rw [if_pos (by omega), h]
    · rw [if_neg (by omega)]
set_option maxRecDepth 100000 in
set_option maxHeartbeats 1000000 in
theorem rFrames_bad1 (A : Option Addr) (c : Nat) (x : List Int) (size step : Int) (pad : Bool) (w : World) (hn : x.length ≤ 9223372036854775807) (h1 : 200000 < x.length) :
    Calls Tryz.prog 34 #[.slice A x.length c, .int .i64 size, .int .i64 step, .bool pad] w (LLErr 5 [] w) := by
  go_enter Tryz.func34, Tryz.ntmps34
  go_wp2_with fail
  go_ret2
  exact .nil_ rfl (Below.refl _ _)
set_option maxRecDepth 100000 in
set_option maxHeartbeats 1000000 in
theorem rFrames_bad2 (A : Option Addr) (c : Nat) (x : List Int) (size step : Int) (pad : Bool) (w : World) (h : Lies w A (ics x)) (h1 : x.length ≤ 200000) (hb : Hid (¬ (vls x = true ∧ 1 ≤ size ∧ size ≤ 4096 ∧ 1 ≤ step ∧ step ≤ 4096))) :
    Calls Tryz.prog 34 #[.slice A x.length c, .int .i64 size, .int .i64 step, .bool pad] w (LLErr 2 [] w) := by
  cases hv : vls x with
  | false =>
    have HV := Lib.hid hv
    clear hv
    go_enter Tryz.func34, Tryz.ntmps34
    go_wp2_with fail
    refine (rValues_any A c x w h (by omega) false HV).mono ?_
    rintro e w' ⟨rfl, rfl⟩
    go_wp2_with fail
    go_ret2
    exact .nil_ rfl (Below.refl _ _)
  | true =>
    have HV := Lib.hid hv
    have key : size < 1 ∨ (¬ size < 1 ∧ 4096 < size) ∨ (¬ size < 1 ∧ ¬ 4096 < size ∧ step < 1) ∨ (¬ size < 1 ∧ ¬ 4096 < size ∧ ¬ step < 1 ∧ 4096 < step) := by
      have := hb.out
      simp only [hv, true_and] at this
      omega
    clear hv
    rcases key with h1 | ⟨h0, h1⟩ | ⟨h0, h1, h2⟩ | ⟨h0, h1, h2, h3⟩
    all_goals
      go_enter Tryz.func34, Tryz.ntmps34
      go_wp2_with fail
      refine (rValues_any A c x w h (by omega) true HV).mono ?_
      rintro e w' ⟨rfl, rfl⟩
      go_wp2_with fail
      go_ret2
      exact .nil_ rfl (Below.refl _ _)
set_option maxRecDepth 100000 in
set_option maxHeartbeats 4000000 in
theorem rFrames_in (A : Option Addr) (c : Nat) (x : List Int) (size step : Nat) (pad : Bool) (w : World) (h : Lies w A (ics x)) (hv : Hid (vls x = true)) (hx : x.length ≤ 200000)
    (hB : Hid (∀ y ∈ x, -9223372036854775808 ≤ y ∧ y ≤ 9223372036854775807)) (hs1 : 1 ≤ size) (hs2 : size ≤ 4096) (ht1 : 1 ≤ step) (ht2 : step ≤ 4096) (N : Nat) (hN : Hid (frN x.length size step pad = N)) (hNx : N ≤ 200000) (err : Int) (out : List (List Int))
    (ho : Hid ((if 4000000 < N * size then (5, []) else (0, frs x size step pad)) = (err, out))) :
    Calls Tryz.prog 34 #[.slice A x.length c, .int .i64 size, .int .i64 step, .bool pad] w (LLErr err out w) := by
  obtain ⟨i0, hi0, hz0, hz1, hz2⟩ := info_parts info_ints
  have TI := Lib.hid hi0; have TZ0 := Lib.hid hz0; have TZ1 := Lib.hid hz1; have TZ2 := Lib.hid hz2
  clear hi0 hz0 hz1 hz2
  have HFR : Hid (∀ k, frB x.length size pad (k * step) = true ↔ k < N) := Lib.hid (fun k => by rw [← hN.out]; exact frB_iff hs1 ht1)
  have HFT : Hid (∀ k, k ≤ N → k * step ≤ 819200000) := Lib.hid (fun k hk => Nat.mul_le_mul (Nat.le_trans hk hNx) ht2)
  go_enter Tryz.func34, Tryz.ntmps34
  go_wp2_with fail
  refine (rValues_any A c x w h (by omega) true hv).mono ?_
  rintro e w' ⟨rfl, rfl⟩
  go_wp2_with fail
  go_loop [10, 11] (fun m t => ∃ k : Nat, k ≤ N ∧ m = .int .i64 k ∧ t = .int .i64 ((k * step : Nat) : Int)) (fun _ t => 819200001 - (intOf t).toNat)
  case atStart => exact ⟨0, by omega, rfl, by simp⟩
  case round =>
    obtain ⟨k, hk, rfl, rfl⟩ := hrel
    have hfb := HFR.out k
    have hft := HFT.out k hk
    have hft1 := Lib.hid (HFT.out (k + 1))
    have HKS := Lib.hid (show (k + 1) * step = k * step + step by rw [Nat.add_mul, Nat.one_mul])
    obtain ⟨fr, hfr⟩ : ∃ fr, fr = k * step := ⟨_, rfl⟩
    rw [← hfr] at hfb HKS hft ⊢
    have HFR' := Lib.hid hfr
    clear hfr
    by_cases hlt : k < N
    · have hb := hfb.2 hlt
      clear hfb
      unfold frB at hb
      simp only [Bool.and_eq_true, decide_eq_true_eq, Bool.or_eq_true] at hb
      obtain ⟨hfx, hor⟩ := hb
      have h9 := hft1.out (by omega)
      rw [HKS.out] at h9
      have key : pad = true ∨ (pad = false ∧ fr + size ≤ x.length) := by cases pad <;> simp at hor ⊢; exact hor
      clear hor
      rcases key with rfl | ⟨rfl, hfit⟩
      · go_wp2_with fail
        exact ⟨⟨k + 1, by omega, by go_num, by rw [HKS.out]; go_num⟩, by simp [intOf]; omega⟩
      · go_wp2_with fail
        exact ⟨⟨k + 1, by omega, by go_num, by rw [HKS.out]; go_num⟩, by simp [intOf]; omega⟩
    · obtain rfl : k = N := by omega
      have hb : ¬ (fr < x.length ∧ (pad = true ∨ fr + size ≤ x.length)) := by
        intro h
        refine hlt (hfb.1 ?_)
        unfold frB
        simp only [Bool.and_eq_true, decide_eq_true_eq, Bool.or_eq_true]
        exact h
      have hnf : ¬ fr + size ≤ x.length := fun h => hb ⟨by omega, .inr h⟩
      have key : ¬ fr < x.length ∨ (fr < x.length ∧ pad = false) := by
        cases pad with
        | true => exact .inl fun h => hb ⟨h, .inl rfl⟩
        | false => exact (Nat.lt_or_ge fr x.length).symm.imp (fun h => by omega) (fun h => ⟨h, rfl⟩)
      clear hfb hb hlt
      have hNt : ((k * size : Nat) : Int) ≤ 819200000 := by have := Nat.mul_le_mul hNx hs2; omega
      have hN0 : 0 ≤ ((k * size : Nat) : Int) := by omega
      by_cases hbig : 4000000 < k * size
      · have ho' := ho.out
        rw [if_pos hbig] at ho'
        injection ho' with e1 e2
        subst e1 e2
        have hNs' : 4000000 < ((k * size : Nat) : Int) := by omega
        rw [Int.natCast_mul] at hNs' hNt hN0
        rcases key with h1 | ⟨h1, rfl⟩
        · go_wp2_with fail
          go_ret2
          exact .nil_ rfl (Below.refl _ _)
        · go_wp2_with fail
          go_ret2
          exact .nil_ rfl (Below.refl _ _)
      · have ho' := ho.out
        rw [if_neg hbig] at ho'
        injection ho' with e1 e2
        subst e1
        have E2 := Lib.hid e2
        clear e2 ho
        have hNs' : ((k * size : Nat) : Int) ≤ 4000000 := by omega
        rw [Int.natCast_mul] at hNs' hNt hN0
        clear hbig
        have fin : ∀ (t : Int), True := fun _ => trivial
        clear fin
        rcases key with h1 | ⟨h1, hpf⟩
        all_goals
          try subst hpf
          clear hft hft1 HKS HFR'
          go_wp2_with fail
          clear h1 hnf
          go_loopw [12, 13] (fun s t wr => ∃ m : Nat, m ≤ k ∧ t = .int .i64 m ∧ ∃ A' c' L, s = .slice A' m c' ∧ (L : List Inn).length = m ∧ vsOf L = (List.range m).map (fun j => frA x size (j * step)) ∧ LLo wr w.heap.size A' c' L ∧ Below w.heap.size w wr) (fun _ t _ => k - (intOf t).toNat)
          case atStart => exact ⟨0, by omega, rfl, none, 0, [], rfl, rfl, rfl, LLo.nil _ _, Below.refl _ _⟩
          case round =>
            obtain ⟨m, hm, rfl, A', c', L, rfl, hLm, hvs, hLL, hbel⟩ := hrel
            have HLM := Lib.hid hLm
            have HVS := Lib.hid hvs
            have HLL := Lib.hid hLL
            have HBE := Lib.hid hbel
            clear hLm hvs hLL hbel
            by_cases hlt : m < k
            · obtain ⟨W0, rfl⟩ : ∃ x, x = wr := ⟨_, rfl⟩
              obtain ⟨w1, hmk, ho1, hb1⟩ := make_ints W0 size (by omega) W0.heap.size (Nat.le_refl _)
              have hmt := HFT.out m (by omega)
              have HMS := Lib.hid (show (m : Int) * (step : Int) = ((m * step : Nat) : Int) by simp)
              obtain ⟨fr, hfr⟩ : ∃ fr, fr = m * step := ⟨_, rfl⟩
              have HFR1 := Lib.hid hfr
              rw [← hfr] at hmt HMS
              clear hfr
              have hmul := HMS.out
              obtain ⟨f, hf⟩ : ∃ f : Nat → Int, f = (fun i => x[fr + i]?.getD 0) := ⟨_, rfl⟩
              have HF := Lib.hid hf
              clear hf
              obtain ⟨g, hg⟩ : ∃ g, g = W0.heap.size := ⟨_, rfl⟩
              rw [← hg] at ho1 hmk
              have HG : Hid (W0.heap.size ≤ g) := Lib.hid (by omega)
              have HGE := Lib.hid hg
              have HO1 := Lib.hid ho1
              have HB1 := Lib.hid hb1
              have HROW := HLL.out.row
              rw [HLM.out] at HROW
              have HRO := Lib.hid HROW
              clear hg ho1 hb1 HROW
              go_wp2_with fail
              clear hmk
              go_loopw [15] (fun i wi => ∃ j : Nat, j ≤ size ∧ i = .int .i64 j ∧ wi.ownsRow g 3 1 (.slice (some ⟨g, 0, none⟩) size size) size (ics (fillTo f size j)) ∧ Below W0.heap.size W0 wi) (fun i _ => size - (intOf i).toNat)
              case atStart => exact ⟨0, by omega, rfl, by rw [fillTo_zero]; exact HO1.out, HB1.out⟩
              case round =>
                clear HO1 HB1
                obtain ⟨j, hj, rfl, r1, r2⟩ := hrel
                by_cases hlj : j < size
                · by_cases hin : fr + j < x.length
                  · obtain ⟨bx, ox, rfl, hbx, hcx⟩ := (h.below (HBE.out.trans (r2.mono HBE.out.size))).at_ hin
                    obtain ⟨c1, d1⟩ := own_cell r1 hlj
                    have v1 : x[fr + j]?.getD 0 = f j := by rw [HF.out]
                    rw [v1] at hcx
                    have HP := Lib.hid (own_put r1)
                    clear v1
                    generalize hfj : f j = fj at *
                    clear hfj
                    have i1 : ((fr : Int) + (j : Int)).toNat = fr + j := by omega
                    go_wp2_with fail
                    exact ⟨⟨j + 1, by omega, by go_num, HP.out, r2.setCell (by exact HG.out) _⟩, by simp [intOf]; omega⟩
                  · have HSK : Hid (fillTo f size j = fillTo f size (j + 1)) := Lib.hid (fillTo_skip f size j (by rw [HF.out]; simp only; rw [List.getElem?_eq_none (by omega)]; rfl))
                    go_wp2_with fail
                    exact ⟨⟨j + 1, by omega, by go_num, by rw [← HSK.out]; exact r1, r2⟩, by simp [intOf]; omega⟩
                · obtain rfl : j = size := by omega
                  have HEF : Hid (fillTo f j j = frA x j (m * step)) := Lib.hid (by rw [fillTo_all, HF.out, HFR1.out]; rfl)
                  rw [HEF.out] at r1
                  obtain ⟨wi, rfl⟩ : ∃ u, u = wr := ⟨_, rfl⟩
                  have HLI := Lib.hid (HLL.out.below r2)
                  have HRI := Lib.hid (own_below HRO.out r2)
                  have HIN : Hid (InT wi (some ⟨g, 0, none⟩, j, frA x j (m * step))) := Lib.hid (InT.of_own r1 (frA_length x j (m * step)).symm (by omega) (frA_rng hB.out j (m * step)))
                  have HBI := Lib.hid (HBE.out.trans (r2.mono HBE.out.size))
                  have hwi : w.heap.size ≤ wi.heap.size := HBI.out.size
                  clear r1 r2
                  go_wp2_with (at_builtin; refine wpList_append_srcG _ rfl (.tmp 93) (.tmp 95) _ rfl w.heap.size 22 i0 _ 1 24 Tryz.underlying29 TI.out TZ0.out TZ1.out TZ2.out rfl (by omega) (.slice A' m c') m (lcs L) rfl (HRI.out.alloc _) (some ⟨wi.heap.size, 0, none⟩) 1 1 [Value.slice (some ⟨g, 0, none⟩) j j] rfl (fun e => by cases e) (lies_new _ _ _) (by simp) (by simp [Value.oneCell']) (by unfold maxLen; omega) (by omega) (by simp; omega) (m + 1) rfl ?_; intro A4 c4 w4 ho4 hg4 _)
                  have hsn : LLo w4 w.heap.size A4 c4 (L ++ [(some ⟨g, 0, none⟩, j, frA x j (m * step))]) := by
                    refine LLo.snoc (HLI.out.below ((Below.refl _ _).alloc (Nat.le_refl _) _)) (HIN.out.below ((Below.refl _ _).alloc (Nat.le_refl _) _)) hg4 ?_
                    have h1 := ho4
                    rw [← HLM.out] at h1
                    simpa [frA_length] using h1
                  have hbel : Below w.heap.size w w4 := (HBI.out.alloc hwi _).grown hg4 (by simp; omega) (fun q hq => (HRI.out.lt q hq).1)
                  exact ⟨⟨m + 1, by omega, by go_num, A4, c4, _, rfl, by simp [HLM.out], by rw [List.range_succ, List.map_append, ← HVS.out]; simp, hsn, hbel⟩, by simp [intOf]; omega⟩
            · obtain rfl : m = k := by omega
              go_wp2_with fail
              go_ret2
              exact ⟨A', c', L, by rw [HLM.out]; rfl, Lib.hid (by rw [HVS.out, ← E2.out, frs, hN.out]), HLL.out, HBE.out⟩
theorem rFrames_any (A : Option Addr) (c : Nat) (x : List Int) (size step : Int) (pad : Bool) (w : World) (h : Lies w A (ics x)) (hn : x.length ≤ 9223372036854775807) (hB : ∀ y ∈ x, -9223372036854775808 ≤ y ∧ y ≤ 9223372036854775807) (err : Int) (out : List (List Int)) (ho : Hid (frmR x size step pad = (err, out))) :
    Calls Tryz.prog 34 #[.slice A x.length c, .int .i64 size, .int .i64 step, .bool pad] w (LLErr err out w) := by
  have ho' := ho.out
  unfold frmR at ho'
  by_cases h1 : 200000 < x.length
  · have e : vchk x = 5 := by unfold vchk; rw [if_pos h1]
    rw [e, if_neg (by decide)] at ho'
    injection ho' with e1 e2
    subst e1 e2
    exact rFrames_bad1 A c x size step pad w hn h1
  · by_cases h2 : vls x = true ∧ 1 ≤ size ∧ size ≤ 4096 ∧ 1 ≤ step ∧ step ≤ 4096
    · rw [if_pos (vchk_zero.2 ⟨by omega, h2.1⟩), if_pos h2.2] at ho'
      have es : size = (size.toNat : Int) := by omega
      have et : step = (step.toNat : Int) := by omega
      have b1 : 1 ≤ size.toNat := by omega
      have b2 : size.toNat ≤ 4096 := by omega
      have b3 : 1 ≤ step.toNat := by omega
      have b4 : step.toNat ≤ 4096 := by omega
      rw [es, et]
      have h3 := h2.1
      clear h2 ho
      generalize size.toNat = s at *
      generalize step.toNat = t at *
      have hle := frN_le (n := x.length) (pad := pad) b1 b3
      exact rFrames_in A c x s t pad w h (Lib.hid h3) (by omega) (Lib.hid hB) b1 b2 b3 b4 _ (Lib.hid rfl) (by omega) err out (Lib.hid ho')
    · have e : (if vchk x = 0 then (if 1 ≤ size ∧ size ≤ 4096 ∧ 1 ≤ step ∧ step ≤ 4096 then (if 4000000 < frN x.length size.toNat step.toNat pad * size.toNat then (5, []) else (0, frs x size.toNat step.toNat pad)) else (2, [])) else (vchk x, []) : Int × List (List Int)) = (2, []) := by
        by_cases hv : vls x = true
        · rw [if_pos (vchk_zero.2 ⟨by omega, hv⟩), if_neg (fun h => h2 ⟨hv, h⟩)]
        · have e : vchk x = 2 := by unfold vchk; rw [if_neg h1, if_neg hv]
          rw [e, if_neg (by decide)]
      rw [e] at ho'
      injection ho' with e1 e2
      subst e1 e2
      exact rFrames_bad2 A c x size step pad w h (by omega) (Lib.hid h2)
end Go.Proofs.YtnflpnbpigcfhabGreatDoor
